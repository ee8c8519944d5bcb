/-
  What is proved here: the evaluator's operations, calls, regions, code and functions tell what the model does, in every order that the model draws. Conditions: those that stand at each theorem.
-/
import Derived.Test.YtjppkpjlbbkdnaaDoorEvA
import Derived.OrdersIn
import Derived.LoopNIn
import Derived.Orders
import Derived.LoopN
import Derived.Scope

namespace Go.Dv
open Go

def setR {α : Type} (cs : List α) (off : Nat) : List α → List α
  | [] => cs
  | x :: r => setR (cs.set off x) (off + 1) r

theorem setRangeV_eq : ∀ (xs cs : List V) (off : Nat), setRangeV cs off xs = setR cs off xs
  | [], _, _ => rfl
  | x :: r, cs, off => by rw [setRangeV, setR, setRangeV_eq r]

theorem setR_length {α : Type} : ∀ (xs cs : List α) (off : Nat), (setR cs off xs).length = cs.length
  | [], _, _ => rfl
  | x :: r, cs, off => by rw [setR, setR_length r]; simp

theorem setR_get {α : Type} : ∀ (xs cs : List α) (off k : Nat), off + xs.length ≤ cs.length →
    (setR cs off xs)[k]? = if off ≤ k ∧ k < off + xs.length then xs[k - off]? else cs[k]?
  | [], _, off, k, _ => by simp [setR]; intro h1 h2; omega
  | x :: r, cs, off, k, h => by
    simp only [List.length_cons] at h
    rw [setR, setR_get r _ _ _ (by simp; omega)]
    by_cases e : k = off
    · subst e; rw [if_neg (by omega), if_pos (by simp)]; simp
      rw [List.getElem?_set_self (by omega)]
    · by_cases h2 : off + 1 ≤ k ∧ k < off + 1 + r.length
      · rw [if_pos h2, if_pos (by simp; omega), show k - off = (k - (off + 1)) + 1 by omega]; simp
      · rw [if_neg h2, if_neg (by simp; omega), List.getElem?_set_ne (by omega)]

theorem foldl_set {α : Type} (off : Nat) : ∀ (xs : List α) (k : Nat) (A : List α),
    (xs.zipIdx k).foldl (fun (cs : Array α) (p : α × Nat) => cs.setIfInBounds (off + p.2) p.1) A.toArray = (setR A (off + k) xs).toArray
  | [], _, _ => rfl
  | x :: r, k, A => by
    rw [List.zipIdx_cons, List.foldl_cons]
    have : A.toArray.setIfInBounds (off + k) x = (A.set (off + k) x).toArray := by simp
    simp only [this]
    rw [foldl_set off r (k + 1), setR, Nat.add_assoc]

theorem fill_step (A : List Value) (off : Nat) (v : Value) :
    v.cells.zipIdx.foldl (fun (cs : Array Value) (p : Value × Nat) => match p with | (c, j) => cs.setIfInBounds (off + j) c) A.toArray = (setR A off v.cells.toList).toArray := by
  rw [← Array.foldl_toList, Array.toList_zipIdx]
  exact foldl_set off v.cells.toList 0 A

/-- Cells of data beside cells of values. -/
def RepL (mu : Mem) (cs : List V) (vs : List Value) : Prop := cs.length = vs.length ∧ ∀ (j : Nat) (y : V) (u : Value), cs[j]? = some y → vs[j]? = some u → RepV mu y u

theorem RepL.set {mu : Mem} {cs xs : List V} {vs us : List Value} (h : RepL mu cs vs) (k : RepL mu xs us) {off : Nat} (ho : off + xs.length ≤ cs.length) : RepL mu (setR cs off xs) (setR vs off us) := by
  refine ⟨by rw [setR_length, setR_length]; exact h.1, fun j y u hj hu => ?_⟩
  have := h.1; have := k.1
  rw [setR_get _ _ _ _ ho] at hj
  rw [setR_get _ _ _ _ (by omega)] at hu
  by_cases e : off ≤ j ∧ j < off + xs.length
  · rw [if_pos e] at hj; rw [if_pos (by omega)] at hu; exact k.2 _ y u hj hu
  · rw [if_neg e] at hj; rw [if_neg (by omega)] at hu; exact h.2 _ y u hj hu

theorem cells_rep {mu : Mem} {y : V} {u : Value} (h : RepV mu y u) : RepL mu y.cells u.cells.toList ∧ ∀ x ∈ y.cells, x.flat = true := by
  cases y with
  | agg cs =>
    cases h with
    | @agg _ vs hf hl hr => exact ⟨⟨hl, hr⟩, hf⟩
  | lit v =>
    have h1 := one_of_flat h rfl
    rw [cells_of_one h1]
    refine ⟨⟨rfl, fun j y u' hj hu => ?_⟩, fun x hx => by simp [V.cells] at hx; subst hx; rfl⟩
    cases j with
    | zero => simp [V.cells] at hj hu; subst hj; subst hu; exact h
    | succ j => simp [V.cells] at hj
  | sl z es =>
    have h1 := one_of_flat h rfl
    rw [cells_of_one h1]
    refine ⟨⟨rfl, fun j y u' hj hu => ?_⟩, fun x hx => by simp [V.cells] at hx; subst hx; rfl⟩
    cases j with
    | zero => simp [V.cells] at hj hu; subst hj; subst hu; exact h
    | succ j => simp [V.cells] at hj

theorem setR_mem {α : Type} {xs cs : List α} {off : Nat} {x : α} (h : off + xs.length ≤ cs.length) (hx : x ∈ setR cs off xs) : x ∈ xs ∨ x ∈ cs := by
  obtain ⟨k, hk⟩ := List.mem_iff_getElem?.1 hx
  rw [setR_get _ _ _ _ h] at hk
  split at hk
  · exact .inl (List.mem_iff_getElem?.2 ⟨_, hk⟩)
  · exact .inr (List.mem_iff_getElem?.2 ⟨_, hk⟩)

theorem fill_rep {mu : Mem} {place : Nat → Option (Nat × Nat)} : ∀ (is : List Nat) (ys : List V) (us : List Value) (cs cs' : List V) (vs : List Value), ys.length = us.length →
    (∀ (j : Nat) (y : V) (u : Value), ys[j]? = some y → us[j]? = some u → RepV mu y u) → RepL mu cs vs → (∀ x ∈ cs, x.flat = true) → fillV place cs (is.zip ys) = some cs' →
    ∃ vs', Instr.fill place vs.toArray (is.zip us) = some vs'.toArray ∧ RepL mu cs' vs' ∧ ∀ x ∈ cs', x.flat = true
  | [], ys, us, cs, cs', vs, hl, hr, hv, hf, h => by
    simp [fillV] at h; subst h
    exact ⟨vs, by simp [Instr.fill], hv, hf⟩
  | i :: is, [], us, cs, cs', vs, hl, hr, hv, hf, h => by
    cases us with
    | nil => simp [fillV] at h; subst h; exact ⟨vs, by simp [Instr.fill], hv, hf⟩
    | cons => simp at hl
  | i :: is, y :: ys, us, cs, cs', vs, hl, hr, hv, hf, h => by
    cases us with
    | nil => simp at hl
    | cons u us =>
      simp only [List.zip_cons_cons, fillV] at h
      split at h
      · cases h
      · rename_i off size hp
        split at h
        · rename_i hc
          have hy := hr 0 y u rfl rfl
          obtain ⟨hcl, hcf⟩ := cells_rep hy
          rw [setRangeV_eq] at h
          obtain ⟨vs', h1, h2, h3⟩ := fill_rep is ys us _ cs' (setR vs off u.cells.toList) (by simpa using hl) (fun j y u hj hu => hr (j + 1) y u (by simpa using hj) (by simpa using hu))
            (hv.set hcl (by omega)) (fun x hx => (setR_mem (by omega) hx).elim (hcf x) (hf x)) h
          refine ⟨vs', ?_, h2, h3⟩
          simp only [List.zip_cons_cons, Instr.fill, hp]
          have hsz : u.cells.size = size := by have := hcl.1; simp at this; omega
          have hvl := hv.1
          rw [if_neg (by simp [hsz]; omega)]
          rw [← h1]
          congr 1
          exact fill_step vs off u
        · cases h

section
variable {P : Program} {L : Lite} {c : Ctx} {G : Gh} {ρ : St} {a : Act} {w : World}

theorem run_mapM {α β : Type} (g : α → Sem β) (g' : α → β) : ∀ (l : List α), (∀ x ∈ l, (g x).run P w = .ok (g' x) w) → (l.mapM g).run P w = .ok (l.map g') w
  | [], _ => by simp [Sem.run_pure]
  | x :: r, h => by
    rw [List.mapM_cons]
    simp only [Sem.run_bind, h x (by simp), Result.andThen_ok, run_mapM g g' r (fun y hy => h y (by simp [hy])), Sem.run_pure, List.map_cons]

theorem run_mapMA {α β : Type} (g : α → Sem β) (g' : α → β) (l : Array α) (h : ∀ x ∈ l.toList, (g x).run P w = .ok (g' x) w) : (l.mapM g).run P w = .ok (l.map g') w := by
  have : l.mapM g = List.toArray <$> l.toList.mapM g := by
    obtain ⟨l⟩ := l; simp
  rw [this, Sem.run_map, run_mapM g g' l.toList h]
  simp only [Result.andThen_ok]
  congr 1
  apply Array.ext'; simp

theorem zero_rep {mu : Mem} {zx : List X} {ys : List V} {vs : List Value} (hz : zeroOk zx vs) (hy : xvs zx = some ys) : RepL mu ys vs ∧ ∀ y ∈ ys, y.flat = true := by
  obtain ⟨hl, hg⟩ := xvs_get hy
  obtain ⟨hzl, hzr⟩ := hz
  refine ⟨⟨by omega, fun j y u hj hu => ?_⟩, fun y hy => ?_⟩
  · obtain ⟨x, hx, hxy⟩ := hg j y hj
    rcases hzr j x u hx hu with ⟨z, rfl, rfl⟩ | ⟨rfl, hs⟩
    · exact xv_rep (G := ⟨mu, fun _ _ => none, fun _ => none, fun _ => 0⟩) (H := fun _ => .none 0) (.nil z) hxy
    · cases hxy; exact .lit u hs
  · obtain ⟨j, hj⟩ := List.mem_iff_getElem?.1 hy
    obtain ⟨x, hx, hxy⟩ := hg j y hj
    have hjl : j < vs.length := by have := (List.getElem?_eq_some_iff.1 hx).1; omega
    rcases hzr j x _ hx (List.getElem?_eq_getElem hjl) with ⟨z, rfl, _⟩ | ⟨rfl, _⟩
    · cases hxy; rfl
    · cases hxy; rfl

theorem run_zero {t : TypeId} (f : Fact P L t) {zx : List X} (hz : (L.ti t).zero = some zx) (w : World) : ∃ v, (zeroValue t).run P w = .ok v w ∧ zeroOk zx v.cells.toList ∧ (L.ti t).size = zx.length := by
  obtain ⟨i, h1, h2, h3, h4⟩ := f.info
  obtain ⟨v, hv, hz', hs⟩ := h4 zx hz
  exact ⟨v, by simp [zeroValue, run_typeInfo h1, hv], hz', hs⟩

theorem sound_build (ok : LiteOk P L) (h : Inv c G ρ a w) {t : TypeId} {ps : List (Nat × X)} {us : List (Nat × Value)} {y : X} {H' : Nat → Ob} (hl : ps.map (·.1) = us.map (·.1))
    (hx : ∀ (j : Nat) (x : X) (u : Value), (ps.map (·.2))[j]? = some x → (us.map (·.2))[j]? = some u → RepX G ρ.ob x u) (hgo : (actBuild L t ps).go ρ.ob (.val y) H') :
    DoneV P c G ρ a (Instr.build t us.toArray) w y H' := by
  unfold actBuild at hgo
  obtain ⟨zx, hzx, hgo⟩ := go_ov hgo
  obtain ⟨zero, hzero, hgo⟩ := go_ov hgo
  have hlen : ps.length = us.length := by have := congrArg List.length hl; simpa using this
  obtain ⟨ys, G1, H1, hl1, i1, la1, hyl, hr1, hgo⟩ := sound_frzs (ps.map (·.2)) (us.map (·.2)) h (by simp [hlen]) hx hgo
  have hzip : us = (ps.map (·.1)).zip (us.map (·.2)) := by
    rw [hl]
    apply List.ext_getElem?
    intro i
    simp [List.getElem?_zip_eq_some, List.getElem?_map, List.zip]
  split at hgo
  · rename_i fs hu
    have ft := ok.fact t (by rw [hu]; exact fun e => by cases e)
    obtain ⟨cs, hcs, hgo⟩ := go_ov hgo
    obtain ⟨e, rfl⟩ := go_ret hgo
    cases e
    obtain ⟨v, hv, hz, hsz⟩ := run_zero ft hzx w
    obtain ⟨hzr, hzf⟩ := zero_rep (mu := G1.mu) hz hzero
    obtain ⟨vs', h1, h2, h3⟩ := fill_rep _ ys _ zero cs v.cells.toList hyl hr1 hzr hzf hcs
    refine ⟨.agg vs'.toArray, w, G1, ?_, hl1, i1, .v (.agg h3 h2.1 h2.2)⟩
    have hpl : (fs.mapM (fun (f : Field) => (do pure (f.offset, ← sizeOf f.type) : Sem (Nat × Nat))) : Sem (Array (Nat × Nat))).run P w = .ok (fs.map fun (f : Field) => (f.offset, (L.ti f.type).size)) w := by
      refine run_mapMA _ _ fs fun x hx => ?_
      obtain ⟨i, hi⟩ := List.mem_iff_getElem?.1 hx
      have ff := ok.fact x.type (ok.struct t fs i x hu (by rw [Array.getElem?_toList] at hi; exact hi))
      simp [run_sizeOf' ff]
    have hplace : (fun (i : Nat) => (fs.map fun (f : Field) => (f.offset, (L.ti f.type).size))[i]?) = fun (i : Nat) => (fs[i]?).map fun (f : Field) => (f.offset, (L.ti f.type).size) := by
      funext i; simp
    simp only [Instr.build, Sem.run_bind, hv, Result.andThen_ok, run_underlying' ft, hu, hpl, hplace]
    rw [hzip]
    have e1 : v.cells.toList.toArray = v.cells := by simp
    rw [e1] at h1
    simp [h1]
  · rename_i n e hu
    have ft := ok.fact t (by rw [hu]; exact fun e => by cases e)
    have fe := ok.fact e (ok.array t n e hu)
    obtain ⟨cs, hcs, hgo⟩ := go_ov hgo
    obtain ⟨e', rfl⟩ := go_ret hgo
    cases e'
    obtain ⟨v, hv, hz, hsz⟩ := run_zero ft hzx w
    obtain ⟨hzr, hzf⟩ := zero_rep (mu := G1.mu) hz hzero
    obtain ⟨vs', h1, h2, h3⟩ := fill_rep _ ys _ zero cs v.cells.toList hyl hr1 hzr hzf hcs
    refine ⟨.agg vs'.toArray, w, G1, ?_, hl1, i1, .v (.agg h3 h2.1 h2.2)⟩
    simp only [Instr.build, Sem.run_bind, hv, Result.andThen_ok, run_underlying' ft, hu, run_sizeOf' fe]
    rw [hzip]
    have e1 : v.cells.toList.toArray = v.cells := by simp
    rw [e1] at h1
    simp [h1]
  · exact (go_fail hgo).elim

end
end Go.Dv

namespace Go.Dv
open Go

/-- Elements beside the values of their cells. -/
structure RepR (mu : Mem) (z : Nat) (es : List (List V)) (vs : List Value) : Prop where
  len : vs.length = es.length * z
  hz : ∀ e ∈ es, e.length = z
  flat : ∀ e ∈ es, ∀ x ∈ e, x.flat = true
  rep : ∀ (i : Nat) (e : List V) (j : Nat) (x : V), es[i]? = some e → e[j]? = some x → ∃ u, vs[i * z + j]? = some u ∧ RepV mu x u

theorem RepR.set {mu : Mem} {z : Nat} {es : List (List V)} {vs us : List Value} {xs : List V} (h : RepR mu z es vs) (k : RepL mu xs us) (hf : ∀ x ∈ xs, x.flat = true) (hx : xs.length = z) {i : Nat} (hi : i < es.length) :
    RepR mu z (es.set i xs) (setR vs (i * z) us) := by
  have hus : us.length = z := by have := k.1; omega
  have hin : i * z + z ≤ vs.length := by
    rw [h.len]
    have : (i + 1) * z ≤ es.length * z := Nat.mul_le_mul_right z hi
    rw [Nat.add_mul] at this; omega
  refine ⟨by rw [setR_length, List.length_set]; exact h.len, fun e he => ?_, fun e he => ?_, fun i' e j x hi' hj => ?_⟩
  · rcases List.mem_or_eq_of_mem_set he with k' | k'
    · exact h.hz e k'
    · subst k'; exact hx
  · rcases List.mem_or_eq_of_mem_set he with k' | k'
    · exact h.flat e k'
    · subst k'; exact hf
  · rw [setR_get _ _ _ _ (by omega)]
    by_cases hii : i' = i
    · subst hii
      rw [List.getElem?_set_self hi] at hi'
      cases hi'
      have hjl : j < z := by have := (List.getElem?_eq_some_iff.1 hj).1; omega
      rw [if_pos (by omega), show i' * z + j - i' * z = j by omega]
      have hv : us[j]? = some (us[j]'(by omega)) := List.getElem?_eq_getElem (by omega)
      exact ⟨_, hv, k.2 j x _ hj hv⟩
    · rw [List.getElem?_set_ne (fun k' => hii k'.symm)] at hi'
      obtain ⟨_, hjz⟩ := row_lt h.hz hi' hj
      rw [if_neg]
      · exact h.rep i' e j x hi' hj
      · intro ⟨h1, h2⟩
        have : i' * z + j = i * z + (i' * z + j - i * z) := by omega
        exact hii (place_inj (z := z) hjz (by omega) this).1

theorem parts_rep {mu : Mem} {z N : Nat} : ∀ (is : List Nat) (ys : List V) (us : List Value) (es es' : List (List V)) (vs : List Value), ys.length = us.length →
    (∀ (j : Nat) (y : V) (u : Value), ys[j]? = some y → us[j]? = some u → RepV mu y u) → RepR mu z es vs → setParts es (is.zip ys) = some es' →
    ∃ vs', Instr.fill (fun i => some (i * z, z)) vs.toArray (is.zip us) = some vs'.toArray ∧ RepR mu z es' vs' ∧ es'.length = es.length
  | [], ys, us, es, es', vs, hl, hr, hv, h => by
    simp [setParts] at h; subst h
    exact ⟨vs, by simp [Instr.fill], hv, rfl⟩
  | i :: is, [], us, es, es', vs, hl, hr, hv, h => by
    cases us with
    | nil => simp [setParts] at h; subst h; exact ⟨vs, by simp [Instr.fill], hv, rfl⟩
    | cons => simp at hl
  | i :: is, y :: ys, us, es, es', vs, hl, hr, hv, h => by
    cases us with
    | nil => simp at hl
    | cons u us =>
      simp only [List.zip_cons_cons, setParts] at h
      split at h
      · rename_i e he
        split at h
        · rename_i hc
          obtain ⟨hil, hie⟩ := List.getElem?_eq_some_iff.1 he
          have hez : e.length = z := hv.hz e (by rw [← hie]; exact List.getElem_mem hil)
          have hy := hr 0 y u rfl rfl
          obtain ⟨hcl, hcf⟩ := cells_rep hy
          obtain ⟨vs', h1, h2, h3⟩ := parts_rep (N := N) is ys us _ es' (setR vs (i * z) u.cells.toList) (by simpa using hl) (fun j y u hj hu => hr (j + 1) y u (by simpa using hj) (by simpa using hu))
            (hv.set hcl hcf (by omega) hil) h
          refine ⟨vs', ?_, h2, by simpa using h3⟩
          have hsz : u.cells.size = z := by have := hcl.1; simp at this; omega
          have hin : i * z + z ≤ vs.length := by
            rw [hv.len]
            have : (i + 1) * z ≤ es.length * z := Nat.mul_le_mul_right z hil
            rw [Nat.add_mul] at this; omega
          simp only [List.zip_cons_cons, Instr.fill]
          rw [if_neg (by simp [hsz]; omega), ← h1]
          congr 1
          exact fill_step vs (i * z) u
        · cases h
      · cases h

theorem zeros_arr (n : Nat) (A B : Array Value) (h : n = 0 ∨ A = B) : (Array.range n).map (fun i => A[i % A.size]!) = (((Array.range n).map (fun i => B[i % B.size]!)).toList).toArray := by
  rw [Array.toArray_toList]
  rcases h with rfl | rfl
  · simp
  · rfl

theorem zeros_rep {mu : Mem} {zero : List V} {zs : Array Value} (h : RepL mu zero zs.toList) (hf : ∀ y ∈ zero, y.flat = true) (n : Nat) :
    RepR mu zero.length (List.replicate n zero) ((Array.range (n * zero.length)).map (fun i => zs[i % zs.size]!)).toList := by
  have hl : zero.length = zs.size := by have := h.1; simpa using this
  refine ⟨by simp, fun e he => by rw [List.eq_of_mem_replicate he], fun e he => by rw [List.eq_of_mem_replicate he]; exact hf, fun i e j x hi hj => ?_⟩
  obtain ⟨hin, rfl⟩ : i < n ∧ e = zero := by
    rw [List.getElem?_replicate] at hi
    split at hi
    · rename_i k; cases hi; exact ⟨k, rfl⟩
    · cases hi
  have hjl : j < e.length := (List.getElem?_eq_some_iff.1 hj).1
  have hlt := place_lt (z := e.length) hin hjl
  have hv : zs.toList[j]? = some zs[j] := by rw [Array.getElem?_toList]; exact Array.getElem?_eq_getElem (by omega)
  refine ⟨zs[j], ?_, h.2 j x _ hj hv⟩
  simp only [Array.toList_map, List.getElem?_map, Array.getElem?_toList]
  rw [Array.getElem?_eq_getElem (by simpa using hlt)]
  simp only [Array.getElem_range, Option.map_some, Option.some.injEq]
  have hmod : (i * e.length + j) % zs.size = j := by rw [← hl, Nat.mul_comm, Nat.mul_add_mod, Nat.mod_eq_of_lt hjl]
  rw [hmod]
  exact getElem!_pos zs j (by omega)

section
variable {P : Program} {L : Lite} {c : Ctx} {G : Gh} {ρ : St} {a : Act} {w : World}

theorem siteLt {d : Option Tmp} {n s : Nat} (h : siteOf d n = some s) : s < n := by
  unfold siteOf at h
  split at h
  · split at h
    · cases h; assumption
    · cases h
  · cases h

theorem RepR.inv (h : Inv c G ρ a w) {s : Nat} (hs : s < ρ.n) {z : Nat} {es : List (List V)} {vs : List Value} (hr : RepR G.mu z es vs) (t : TypeId) :
    Inv c (G.at s w.heap.size es.length) { ρ with ob := upd ρ.ob s (.row ((ρ.ob s).gen + 1) true z es) } a (w.alloc (.cells vs.toArray t (0, 0))) ∧
      RepX (G.at s w.heap.size es.length) (upd ρ.ob s (.row ((ρ.ob s).gen + 1) true z es)) (.own s ((ρ.ob s).gen + 1) 0 es.length) (.slice (some ⟨w.heap.size, 0, none⟩) es.length es.length) :=
  h.newRow s hs z es es.length vs t hr.hz hr.flat (Nat.le_refl _) (by rw [hr.len]; exact Nat.le_refl _) hr.rep

theorem sound_buildSlice (ok : LiteOk P L) (h : Inv c G ρ a w) {t : TypeId} {d : Option Nat} (hd : ∀ s, d = some s → s < ρ.n) {len : Nat} {ps : List (Nat × X)} {us : List (Nat × Value)} {y : X} {H' : Nat → Ob} (hl : ps.map (·.1) = us.map (·.1))
    (hx : ∀ (j : Nat) (x : X) (u : Value), (ps.map (·.2))[j]? = some x → (us.map (·.2))[j]? = some u → RepX G ρ.ob x u) (hgo : (actBuildSlice L d t len ps).go ρ.ob (.val y) H') :
    DoneV P c G ρ a (Instr.buildSlice t len us.toArray) w y H' := by
  unfold actBuildSlice at hgo
  split at hgo
  · rename_i e hu
    obtain ⟨zx, hzx, hgo⟩ := go_ov hgo
    obtain ⟨zero, hzero, hgo⟩ := go_ov hgo
    have hlen : ps.length = us.length := by have := congrArg List.length hl; simpa using this
    obtain ⟨ys, G1, H1, hl1, i1, la1, hyl, hr1, hgo⟩ := sound_frzs (ps.map (·.2)) (us.map (·.2)) h (by simp [hlen]) hx hgo
    have hzip : us = (ps.map (·.1)).zip (us.map (·.2)) := by
      rw [hl]
      apply List.ext_getElem?
      intro i
      simp [List.getElem?_zip_eq_some, List.getElem?_map, List.zip]
    obtain ⟨es, hes, hgo⟩ := go_ov hgo
    split at hgo
    · rename_i hsmall
      obtain ⟨s, hds, hgo2⟩ := go_nextGen hgo
      replace hgo2 := go_put hgo2
      obtain ⟨e', rfl⟩ := go_ret hgo2
      cases e'
      have ft := ok.fact t (by rw [hu]; exact fun e => by cases e)
      have fe := ok.fact e (ok.slice t e hu)
      obtain ⟨v, hv, hz, hsz⟩ := run_zero fe hzx w
      obtain ⟨hzr, hzf⟩ := zero_rep (mu := G1.mu) hz hzero
      have hzl : zero.length = (L.ti e).size := by have := hzr.1; have := hz.1; omega
      have hrow := zeros_rep hzr hzf len
      rw [hzl] at hrow
      obtain ⟨vs', h1, h2, h3⟩ := parts_rep (N := len) _ ys _ _ es _ hyl hr1 hrow hes
      rw [List.length_replicate] at h3
      obtain ⟨i2, r2⟩ := RepR.inv (ρ := { ρ with ob := H1 }) i1 (hd s hds) h2 e
      rw [h3] at i2 r2
      refine ⟨_, _, G1.at s w.heap.size len, ?_, hl1, i2, r2⟩
      simp only [Instr.buildSlice, Sem.run_bind, run_underlying' ft, Result.andThen_ok, hu, run_sizeOf' fe]
      rw [if_neg (by simp; omega)]
      rw [hzip]
      split
      · rename_i hN
        simp only [Sem.run_bind, Sem.run_pure, Result.andThen_ok]
        rw [zeros_arr _ #[] v.cells (.inl hN), h1]
        simp [newRow]
      · simp only [Sem.run_bind, Sem.run_pure, Result.andThen_ok, hv]
        rw [zeros_arr _ v.cells v.cells (.inr rfl), h1]
        simp [newRow]
    · exact (go_fail hgo).elim
  · exact (go_fail hgo).elim

theorem sound_make (ok : LiteOk P L) (h : Inv c G ρ a w) {t : TypeId} {d : Option Nat} (hd : ∀ s, d = some s → s < ρ.n) {x x' y : X} {u u' : Value} {H' : Nat → Ob} (hx : RepX G ρ.ob x u) (hx' : RepX G ρ.ob x' u')
    (hgo : (actMake L d t x x').go ρ.ob (.val y) H') : DoneV P c G ρ a (Instr.makeSlice t u u') w y H' := by
  unfold actMake at hgo
  split at hgo
  · rename_i e hu
    obtain ⟨k1, n, hxe, hgo2⟩ := go_num hgo
    subst hxe
    obtain ⟨k2, m, hxe, hgo3⟩ := go_num hgo2
    subst hxe
    obtain rfl := lit_int hx
    obtain rfl := lit_int hx'
    obtain ⟨zx, hzx, hgo4⟩ := go_ov hgo3
    obtain ⟨zero, hzero, hgo5⟩ := go_ov hgo4
    split at hgo5
    · rename_i hc
      obtain ⟨rfl, h0, hbig, hby⟩ := hc
      have ft := ok.fact t (by rw [hu]; exact fun e => by cases e)
      have fe := ok.fact e (ok.slice t e hu)
      obtain ⟨v, hv, hz, hsz⟩ := run_zero fe hzx w
      obtain ⟨hzr, hzf⟩ := zero_rep (mu := G.mu) hz hzero
      have hzl : zero.length = (L.ti e).size := by have := hzr.1; have := hz.1; omega
      have hrow := zeros_rep hzr hzf n.toNat
      rw [hzl] at hrow
      obtain ⟨inf, hi1, hi2, hi3, _⟩ := fe.info
      have hwrap : IntKind.i64.wrap n = n := by
        have hb : n ≤ 4294967296 := hbig
        exact IntWalk.i64_in n ⟨by omega, by omega⟩
      have hlarge : (((L.ti e).bytes : Int) * n ≤ 281474976710656) := by
        have hb : n ≤ 4294967296 := hbig
        have : ((L.ti e).bytes : Int) ≤ 1024 := by omega
        calc ((L.ti e).bytes : Int) * n ≤ 1024 * 4294967296 := Int.mul_le_mul this hb h0 (by omega)
          _ ≤ 281474976710656 := by omega
      have htl : (decide (n < 0) || decide (((L.ti e).bytes : Int) * n > 2 ^ 48)) = false := by
        simp; omega
      split at hgo5
      · split at hgo5
        · rename_i x0
          obtain ⟨s, hds, hgo6⟩ := go_nextGen hgo5
          replace hgo6 := go_put hgo6
          obtain ⟨e', rfl⟩ := go_ret hgo6
          cases e'
          obtain ⟨u0, hu0⟩ : ∃ u0, v.cells = #[u0] := by
            have h1 := hz.1
            simp only [List.length_cons, List.length_nil, Array.length_toList] at h1
            exact ⟨v.cells[0]'(by omega), by apply Array.ext (by simp; omega); intro i h1 h2; simp at h2; simp [h2]⟩
          obtain ⟨hcx, hrx⟩ : cellX x0 = true ∧ ∀ {G : Gh} {H : Nat → Ob}, RepX G H x0 u0 := by
            rcases hz.2 0 x0 u0 rfl (by rw [hu0]; rfl) with ⟨z, rfl, rfl⟩ | ⟨rfl, hs⟩
            · exact ⟨rfl, .nil z⟩
            · exact ⟨by cases u0 <;> first | rfl | (simp [scal] at hs), rep_lit hs⟩
          have hsz1 : (L.ti e).size = 1 := by simpa using hsz
          obtain ⟨i2, r2⟩ := h.newBox s (hd s hds) (List.replicate n.toNat x0) (List.replicate n.toNat u0) e (by simp) (fun x hx => by rw [List.eq_of_mem_replicate hx]; exact hcx)
            (fun j x u hj hv => by
              rw [List.getElem?_replicate] at hj hv
              split at hj
              · rename_i hjn
                rw [if_pos hjn] at hv
                cases hj; cases hv; exact hrx
              · cases hj)
          have r3 : RepX (G.at s w.heap.size 0) (upd ρ.ob s (.box ((ρ.ob s).gen + 1) (List.replicate n.toNat x0))) (.bsl s ((ρ.ob s).gen + 1) n.toNat) (.slice (some ⟨w.heap.size, 0, none⟩) n.toNat n.toNat) := by
            refine .bsl (by simp [Ob.gen]) fun cs _ => ⟨w.heap.size, upd_same _ _ _, rfl⟩
          refine ⟨_, _, G.at s w.heap.size 0, ?_, rfl, i2, r3⟩
          have harr : ∀ A : Array Value, (n.toNat * (L.ti e).size = 0 ∨ A = v.cells) → (Array.range (n.toNat * (L.ti e).size)).map (fun i => A[i % A.size]!) = (List.replicate n.toNat u0).toArray := by
            intro A hA
            rw [hsz1, Nat.mul_one] at hA ⊢
            apply Array.ext
            · simp
            · intro i h1 h2
              simp only [Array.size_map, Array.size_range] at h1
              rcases hA with hA | rfl
              · omega
              · simp [hu0, Nat.mod_one]
          simp only [Instr.makeSlice, Sem.run_bind, run_underlying' ft, Result.andThen_ok, hu, asInt, asIntOf, Sem.run_pure, run_typeInfo hi1, hi3, hwrap, htl]
          rw [if_neg (by simp; omega)]
          simp only [Sem.run_bind, Sem.run_pure, Result.andThen_ok, run_askRoom, run_sizeOf' fe]
          split
          · rename_i hN
            simp only [Sem.run_bind, Sem.run_pure, Result.andThen_ok]
            rw [harr #[] (.inl hN)]
            simp [newRow]
          · simp only [Sem.run_bind, Sem.run_pure, Result.andThen_ok, hv]
            rw [harr v.cells (.inr rfl)]
            simp [newRow]
        · exact (go_fail hgo5).elim
      obtain ⟨s, d', hds, hsd, hgo6⟩ := go_makeGen hgo5
      replace hgo6 := go_put hgo6
      obtain ⟨e', rfl⟩ := go_ret hgo6
      cases e'
      obtain ⟨i2, r2⟩ := RepR.inv h (Nat.lt_of_le_of_lt hsd (hd d' hds)) hrow e
      rw [List.length_replicate] at i2 r2
      refine ⟨_, _, G.at s w.heap.size n.toNat, ?_, rfl, i2, r2⟩
      simp only [Instr.makeSlice, Sem.run_bind, run_underlying' ft, Result.andThen_ok, hu, asInt, asIntOf, Sem.run_pure, run_typeInfo hi1, hi3, hwrap, htl]
      rw [if_neg (by simp; omega)]
      simp only [Sem.run_bind, Sem.run_pure, Result.andThen_ok, run_askRoom, run_sizeOf' fe]
      split
      · rename_i hN
        simp only [Sem.run_bind, Sem.run_pure, Result.andThen_ok]
        rw [zeros_arr _ #[] v.cells (.inl hN)]
        simp [newRow]
      · simp only [Sem.run_bind, Sem.run_pure, Result.andThen_ok, hv]
        rw [zeros_arr _ v.cells v.cells (.inr rfl)]
        simp [newRow]
    · exact (go_fail hgo5).elim
  · exact (go_fail hgo).elim

end
end Go.Dv

namespace Go.Dv
open Go

/-- What is appended or copied: how long it is, and what reading it gives. -/
structure Src (P : Program) (mu : Mem) (w : World) (z : Nat) (es : List (List V)) (u : Value) : Prop where
  hz : ∀ e ∈ es, e.length = z
  flat : ∀ e ∈ es, ∀ x ∈ e, x.flat = true
  len : ∀ w', (Builtin.lenOf u).run P w' = .ok es.length w'
  read : ∀ (n : Nat), n ≤ es.length → ∃ vs : List Value, (∀ (w' : World) size, w'.heap = w.heap → (z = size ∨ n = 0) → (Builtin.firstCells size n u).run P w' = .ok vs.toArray w') ∧ vs.length = n * z ∧
    (∀ v ∈ vs, v.oneCell' = true) ∧ ∀ (i : Nat) (e : List V) (j : Nat) (x : V), i < n → es[i]? = some e → e[j]? = some x → ∃ v, vs[i * z + j]? = some v ∧ RepV mu x v
  lam : ∀ k : Nat, ∀ t, u ≠ .int t k

theorem src_of_sl {P : Program} {mu : Mem} {w : World} {z : Nat} {es : List (List V)} {u : Value} (h : RepSl (fun b o v => w.cell? ⟨b, o, none⟩ = some v) mu z es u) : Src P mu w z es u := by
  obtain ⟨b, cap, rfl, hz, hf, hc, hn, hs, hm⟩ := h
  refine ⟨hz, hf, fun w' => by simp [Builtin.lenOf], fun n hle => ?_, fun k t e => by cases e⟩
  cases b with
  | none =>
    obtain ⟨_, rfl⟩ := hn rfl
    obtain rfl : n = 0 := by simpa using hle
    exact ⟨[], fun w' size _ _ => by simp [Builtin.firstCells], by simp, by simp, fun i e j x hi => by omega⟩
  | some base =>
    by_cases hn0 : n = 0
    · subst hn0
      exact ⟨[], fun w' size _ _ => by simp [Builtin.firstCells, loadCells, loadCellsFrom], by simp, by simp, fun i e j x hi => by omega⟩
    · have hne : es ≠ [] := fun e => by subst e; simp at hle; omega
      have hsp := hs base rfl hne
      have hk : ∀ k, k < n * z → ∃ x v, es.flatten[k]? = some x ∧ w.cell? (base.add k) = some v ∧ RepV mu x v ∧ x.flat = true := by
        intro k hk
        have hz0 : 0 < z := by rcases Nat.eq_zero_or_pos z with k' | k'; subst k'; simp at hk; exact k'
        have hi : k / z < n := (Nat.div_lt_iff_lt_mul hz0).2 hk
        have hj : k % z < z := Nat.mod_lt _ hz0
        have hie : es[k / z]? = some (es[k / z]'(by omega)) := List.getElem?_eq_getElem (by omega)
        have hel := hz _ (List.mem_of_getElem? hie)
        have hje : (es[k / z]'(by omega))[k % z]? = some ((es[k / z]'(by omega))[k % z]'(by omega)) := List.getElem?_eq_getElem (by omega)
        obtain ⟨v, hv, hr⟩ := hm base (k / z) _ (k % z) _ rfl hie hje
        have hkk : k / z * z + k % z = k := by rw [Nat.mul_comm]; exact Nat.div_add_mod k z
        have hff := flatten_get es (k / z) (k % z) _ hz hie hj
        rw [hkk] at hff
        refine ⟨_, v, hff.trans hje, ?_, hr, hf _ (List.mem_of_getElem? hie) _ (List.mem_of_getElem? hje)⟩
        rw [add_none hsp, ← hv, Nat.add_assoc, hkk]
      let f : Nat → Value := fun k => (w.cell? (base.add k)).getD undef
      have hfk : ∀ k, k < n * z → w.cell? (base.add k) = some (f k) := fun k h => by
        obtain ⟨x, v, _, h2, _⟩ := hk k h
        show _ = some ((w.cell? (base.add k)).getD undef)
        rw [h2]; rfl
      refine ⟨(List.range (n * z)).map f, fun w' size hw hsz => ?_, by simp, fun v hv => ?_, fun i e j x hi hie hje => ?_⟩
      · obtain rfl : z = size := hsz.resolve_right hn0
        refine run_loadCells w' base (n * z) f (fun j hj => ?_)
        have := hfk j hj
        rw [add_none hsp] at this ⊢
        exact (cell_eq (by rw [hw]) _).trans this
      · obtain ⟨k, hkm, rfl⟩ := List.mem_map.1 hv
        have hkl := List.mem_range.1 hkm
        obtain ⟨x, v, _, h2, h3, h4⟩ := hk k hkl
        have := hfk k hkl
        rw [h2] at this; cases this
        exact one_of_flat h3 h4
      · obtain ⟨h1, h2⟩ := row_lt hz hie hje
        have hlt := place_lt (z := z) hi h2
        refine ⟨f (i * z + j), by simp [hlt], ?_⟩
        obtain ⟨v, hv, hr⟩ := hm base i e j x rfl hie hje
        have := hfk _ hlt
        rw [add_none hsp, ← Nat.add_assoc, hv] at this
        cases this; exact hr

theorem elems_get {s : ByteArray} {i : Nat} {e : List V} {j : Nat} {x : V} (hi : (elemsOf s)[i]? = some e) (hj : e[j]? = some x) : ∃ b, s.data.toList[i]? = some b ∧ j = 0 ∧ x = .lit (.int .u8 b.toNat) := by
  unfold elemsOf at hi
  rw [List.getElem?_map] at hi
  cases hb : s.data.toList[i]? with
  | none => rw [hb] at hi; cases hi
  | some b =>
    rw [hb] at hi
    simp only [Option.map_some, Option.some.injEq] at hi
    subst hi
    cases j with
    | zero => simp at hj; exact ⟨b, rfl, rfl, hj.symm⟩
    | succ j => simp at hj

theorem src_of_str {P : Program} {mu : Mem} {w : World} (s : ByteArray) : Src P mu w 1 (elemsOf s) (.string s) := by
  have hlen : (elemsOf s).length = s.size := by simp [elemsOf]
  refine ⟨fun e he => ?_, fun e he x hx => ?_, fun w' => by rw [hlen]; simp [Builtin.lenOf], fun n hle => ?_, fun k t e => by cases e⟩
  · obtain ⟨b, _, rfl⟩ := List.mem_map.1 he; rfl
  · obtain ⟨b, _, rfl⟩ := List.mem_map.1 he; simp at hx; subst hx; rfl
  · rw [hlen] at hle
    have hd : (s.extract 0 n).data.toList = s.data.toList.take n := by
      rw [ByteArray.data_extract]
      simp [List.extract_eq_take_drop]
    refine ⟨(s.data.toList.take n).map fun b => .int .u8 b.toNat, fun w' size _ _ => ?_, ?_, fun v hv => ?_, fun i e j x hi hie hje => ?_⟩
    · simp only [Builtin.firstCells, Sem.run_pure]
      congr 1
      apply Array.ext'
      rw [Array.toList_map, hd]
    · have : s.data.toList.length = s.size := by simp
      simp; omega
    · obtain ⟨b, _, rfl⟩ := List.mem_map.1 hv; rfl
    · obtain ⟨b, hb, rfl, rfl⟩ := elems_get hie hje
      refine ⟨.int .u8 b.toNat, ?_, .lit _ rfl⟩
      rw [Nat.mul_one, Nat.add_zero, List.getElem?_map, List.getElem?_take_of_lt hi, hb]; rfl

section
variable {P : Program} {L : Lite} {c : Ctx} {G : Gh} {ρ : St} {a : Act} {w : World}

theorem sound_src (h : Inv c G ρ a w) {x : X} {u : Value} {k : Nat → List (List V) → Ef Outc} {o : Outc} {H' : Nat → Ob} (hx : RepX G ρ.ob x u) (hgo : (srcOf x k).go ρ.ob o H') :
    ∃ z es, Src P G.mu w z es u ∧ (k z es).go ρ.ob o H' := by
  unfold srcOf at hgo
  split at hgo
  · rename_i s
    obtain ⟨rfl, _⟩ := lit_val hx
    exact ⟨_, _, src_of_str s, hgo⟩
  · obtain ⟨z, es, hr, hgo2⟩ := sound_rdSl h hx hgo
    exact ⟨z, es, src_of_sl hr, hgo2⟩

theorem srcTy_spec (ok : LiteOk P L) {ts : Array TypeId} (h : ¬ srcTy L ts[1]? = false) : ∃ t1, ts[1]? = some t1 ∧ ((∃ e1, P.underlying t1 = some (.slice e1)) ∨ P.underlying t1 = some .string) := by
  unfold srcTy at h
  split at h
  · rename_i t ht
    refine ⟨t, ht, ?_⟩
    split at h
    · rename_i hu
      exact .inl ⟨_, (ok.fact t (by rw [hu]; exact fun e => by cases e)).und.trans (by rw [hu])⟩
    · rename_i hu
      exact .inr ((ok.fact t (by rw [hu]; exact fun e => by cases e)).und.trans (by rw [hu]))
    · simp at h
  · simp at h

theorem growBy_le (newLen : Nat) : ∀ (r c B : Nat), c ≤ B → newLen ≤ B → (newLen + (newLen + 768) / 4) ≤ B → Builtin.growBy newLen r c ≤ B
  | 0, c, B, h, _, _ => h
  | r + 1, c, B, h, h1, h2 => by
    unfold Builtin.growBy
    split
    · exact h
    · refine growBy_le newLen r _ B ?_ h1 h2
      omega

theorem nextcap_le (n c : Nat) (h : c < n) (hn : n ≤ 4294967296) : Builtin.nextslicecap n c ≤ 8589935360 := by
  unfold Builtin.nextslicecap
  split
  · omega
  · split
    · omega
    · exact growBy_le n 4 c _ (by omega) (by omega) (by omega)

theorem room_ok {n cap by' : Nat} (h : cap < n) (hn : n ≤ big) (hb : by' ≤ 1024) : ¬ Builtin.nextslicecap n cap * by' > 2 ^ 48 := by
  have h1 := nextcap_le n cap h hn
  have : Builtin.nextslicecap n cap * by' ≤ 8589935360 * 1024 := Nat.mul_le_mul h1 hb
  omega

theorem cut_ge (need old : Nat) (elem : TypeId) (t : Nat) : need ≤ (Question.appendCap need old elem).cut t := by
  show need ≤ need + t % (2 ^ 63 - need); omega

theorem mem_zero {cells : Array Value} {n : Nat} : True := trivial

/-- An append that makes a new row: 'olds' and 'vs' are the cells of the elements before and behind. -/
theorem run_append_grow (ok : LiteOk P L) {ts : Array TypeId} {ty t e : TypeId} (ht : ts[0]? = some t) (hu : (L.ti t).und = .slice e) (hst : ¬ srcTy L ts[1]? = false) {b : Option Addr} {n cap : Nat} {u : Value} {z : Nat} {es' : List (List V)}
    (hs : Src P G.mu w z es' u) (hzz : z = (L.ti e).size ∨ es'.length = 0) (hgrow : cap < n + es'.length) (hbig : n + es'.length ≤ big) (hby : (L.ti e).bytes ≤ 1024) {olds : List Value}
    (hold : ∀ w', w'.heap = w.heap → (Builtin.firstCells (L.ti e).size n (.slice b n cap)).run P w' = .ok olds.toArray w') (hzx : (L.ti e).zero.isSome = true) :
    ∃ (cap' : Nat) (vs rest : List Value), n + es'.length ≤ cap' ∧ rest.length = (cap' - (n + es'.length)) * (L.ti e).size ∧ vs.length = es'.length * z ∧
      (∀ (i : Nat) (e : List V) (j : Nat) (x : V), es'[i]? = some e → e[j]? = some x → ∃ v, vs[i * z + j]? = some v ∧ RepV G.mu x v) ∧
      (Builtin.append_ ts ty #[.slice b n cap, u]).run P w = .ok (.slice (some ⟨w.heap.size, 0, none⟩) (n + es'.length) cap') (w.drew.alloc (.cells (olds ++ vs ++ rest).toArray e (0, 0))) := by
  have ft := ok.fact t (by rw [hu]; exact fun e => by cases e)
  have fe := ok.fact e (ok.slice t e hu)
  obtain ⟨zx, hzx⟩ := Option.isSome_iff_exists.1 hzx
  obtain ⟨v, hv, hz, hsz⟩ := run_zero fe hzx w.drew
  obtain ⟨inf, hi1, hi2, hi3, _⟩ := fe.info
  obtain ⟨vs, hread, hvl, hv1, hvr⟩ := hs.read es'.length (Nat.le_refl _)
  refine ⟨(Question.appendCap (n + es'.length) cap e).cut (w.tape w.drawn (Question.appendCap (n + es'.length) cap e)), vs,
    (Builtin.zeroCells v.cells ((Question.appendCap (n + es'.length) cap e).cut (w.tape w.drawn (Question.appendCap (n + es'.length) cap e)) - (n + es'.length))).toList, cut_ge _ _ _ _, ?_, hvl,
    fun i e j x hi hj => hvr i e j x (by have := (List.getElem?_eq_some_iff.1 hi).1; omega) hi hj, ?_⟩
  · have : v.cells.size = (L.ti e).size := by have := hz.1; simp at this; omega
    simp [Builtin.zeroCells, this]
  · have h0 : (#[Value.slice b n cap, u] : Array Value)[0]? = some (.slice b n cap) := rfl
    have h1 : (#[Value.slice b n cap, u] : Array Value)[1]? = some u := rfl
    obtain ⟨t1, ht1, hd1⟩ := srcTy_spec (P := P) ok hst
    have hold' := hold w.drew rfl
    have hread' := hread w.drew (L.ti e).size rfl hzz
    have hmax : ¬ (((n + es'.length : Nat) : Int) > IntKind.i64.max ∧ (False ∨ (L.ti e).bytes = 0)) := by
      rw [IntKind.max_i64]
      intro ⟨k, _⟩
      have : n + es'.length ≤ 4294967296 := hbig
      omega
    have hroom := room_ok hgrow hbig hby
    have hforced : (Question.appendCap (n + es'.length) cap e).forced = false := rfl
    rcases hd1 with ⟨e1, hd1⟩ | hd1
    all_goals
      simp only [Builtin.append_, ht, h0, h1, ht1, Sem.run_bind, run_underlying' ft, run_underlying hd1, Result.andThen_ok, hu, run_sizeOf' fe, Sem.run_pure, Bool.false_eq_true, if_false, hs.len,
        run_typeInfo hi1, hi3, run_choose, Bool.not_false, if_true]
      rw [if_neg (by omega)]
      simp only [Sem.run_bind, run_typeInfo hi1, hi3, Result.andThen_ok]
      rw [if_neg hmax]
      simp only [Sem.run_bind, run_typeInfo hi1, hi3, Result.andThen_ok]
      rw [if_neg hroom]
      simp only [Sem.run_bind, run_choose, hforced, Bool.false_eq_true, if_false, Result.andThen_ok, run_typeInfo hi1, run_askRoom]
      rw [show ({ heap := w.heap, tape := w.tape, drawn := w.drawn + 1, os := w.os, output := w.output } : World) = w.drew from rfl, hold']
      simp only [Result.andThen_ok, hread', hv]
      simp [newRow]
      congr 2
      apply Array.ext'
      simp

/-- An append that fits. -/
theorem run_append_room (ok : LiteOk P L) {ts : Array TypeId} {ty t e : TypeId} (ht : ts[0]? = some t) (hu : (L.ti t).und = .slice e) (hst : ¬ srcTy L ts[1]? = false) {b n cap : Nat} {u : Value} {z : Nat} {es' : List (List V)}
    (hs : Src P G.mu w z es' u) (hzz : z = (L.ti e).size ∨ es'.length = 0) (hfit : n + es'.length ≤ cap)
    (hc : ∀ o, o < cap * (L.ti e).size → w.frozen? ⟨b, o, none⟩ = false ∧ (w.cell? ⟨b, o, none⟩).isSome = true) :
    ∃ (vs : List Value), vs.length = es'.length * z ∧
      (∀ (i : Nat) (e : List V) (j : Nat) (x : V), es'[i]? = some e → e[j]? = some x → ∃ v, vs[i * z + j]? = some v ∧ RepV G.mu x v) ∧
      (Builtin.append_ ts ty #[.slice (some ⟨b, 0, none⟩) n cap, u]).run P w = .ok (.slice (some ⟨b, 0, none⟩) (n + es'.length) cap) (w.setCells b (n * (L.ti e).size) vs) := by
  have ft := ok.fact t (by rw [hu]; exact fun e => by cases e)
  have fe := ok.fact e (ok.slice t e hu)
  obtain ⟨vs, hread, hvl, hv1, hvr⟩ := hs.read es'.length (Nat.le_refl _)
  have hvl' : vs.length = es'.length * (L.ti e).size := by
    rcases hzz with rfl | h
    · exact hvl
    · rw [hvl, h]; simp
  have hin : ∀ j, j < vs.length → n * (L.ti e).size + j < cap * (L.ti e).size := by
    intro j hj
    have : (n + es'.length) * (L.ti e).size ≤ cap * (L.ti e).size := Nat.mul_le_mul_right _ hfit
    rw [Nat.add_mul] at this; omega
  refine ⟨vs, hvl, fun i e j x hi hj => hvr i e j x (by have := (List.getElem?_eq_some_iff.1 hi).1; omega) hi hj, ?_⟩
  have h0 : (#[Value.slice (some ⟨b, 0, none⟩) n cap, u] : Array Value)[0]? = some (.slice (some ⟨b, 0, none⟩) n cap) := rfl
  have h1 : (#[Value.slice (some ⟨b, 0, none⟩) n cap, u] : Array Value)[1]? = some u := rfl
  obtain ⟨t1, ht1, hd1⟩ := srcTy_spec (P := P) ok hst
  have hread' := hread w (L.ti e).size rfl hzz
  have hstore := run_storeCells_cells (P := P) b (n * (L.ti e).size) vs 0 w (fun j hj => (hc _ (hin j hj)).2) (fun j hj => (hc _ (hin j hj)).1) hv1
  have hadd : (⟨b, 0, none⟩ : Addr).add (n * (L.ti e).size) = ⟨b, n * (L.ti e).size, none⟩ := by rw [add_block]; simp
  rcases hd1 with ⟨e1, hd1⟩ | hd1
  all_goals
    simp only [Builtin.append_, ht, h0, h1, ht1, Sem.run_bind, run_underlying' ft, run_underlying hd1, Result.andThen_ok, hu, run_sizeOf' fe, Sem.run_pure, Bool.false_eq_true, if_false, hs.len,
      Bool.not_false, if_true]
    rw [if_pos hfit]
    simp only [Sem.run_bind, Sem.run_pure, Result.andThen_ok, hread', hadd]
    rw [hstore]
    simp

theorem firstCells_zero (size : Nat) (w : World) : (Builtin.firstCells size 0 (.slice none 0 0)).run P w = .ok #[] w := by simp [Builtin.firstCells]

end
end Go.Dv

namespace Go.Dv
open Go

section
variable {P : Program} {L : Lite} {c : Ctx} {G : Gh} {ρ : St} {a : Act} {w : World}

theorem append_get {α : Type} (xs ys : List α) (k : Nat) : (xs ++ ys)[k]? = if k < xs.length then xs[k]? else ys[k - xs.length]? := by
  by_cases h : k < xs.length
  · rw [if_pos h, List.getElem?_append_left h]
  · rw [if_neg h, List.getElem?_append_right (by omega)]

theorem sound_append (ok : LiteOk P L) (h : Inv c G ρ a w) {ts : Array TypeId} {ty : TypeId} {d : Option Nat} (hd : ∀ s, d = some s → s < ρ.n) {x x' y : X} {u u' : Value} {H' : Nat → Ob} (hx : RepX G ρ.ob x u) (hx' : RepX G ρ.ob x' u')
    (hgo : (actAppend L d ts x x').go ρ.ob (.val y) H') : DoneV P c G ρ a (Builtin.append_ ts ty #[u, u']) w y H' := by
  unfold actAppend at hgo
  split at hgo
  · rename_i e heq
    obtain ⟨t, ht, hu⟩ : ∃ t, ts[0]? = some t ∧ (L.ti t).und = .slice e := by
      cases h0 : ts[0]? with
      | none => rw [h0] at heq; cases heq
      | some t => rw [h0] at heq; exact ⟨t, rfl, by simpa using heq⟩
    split at hgo
    · exact (go_fail hgo).elim
    · rename_i hcond
      have hst : ¬ srcTy L ts[1]? = false := fun k => hcond (.inl k)
      have hzx : (L.ti e).zero.isSome = true := by
        cases k : (L.ti e).zero.isSome with
        | true => rfl
        | false => exact absurd (.inr k) hcond
      have ft := ok.fact t (by rw [hu]; exact fun e => by cases e)
      have fe := ok.fact e (ok.slice t e hu)
      obtain ⟨z, es', hs, hgo2⟩ := sound_src (P := P) h hx' hgo
      split at hgo2
      · rename_i z0
        cases hx
        split at hgo2
        · rename_i hc
          obtain ⟨hz, hbig, hby⟩ := hc
          split at hgo2
          · rename_i hnil
            subst hnil
            obtain ⟨e', rfl⟩ := go_ret hgo2
            cases e'
            obtain ⟨t1, ht1, hd1⟩ := srcTy_spec (P := P) ok hst
            obtain ⟨vs, hread, hvl, _⟩ := hs.read 0 (Nat.le_refl _)
            have hr := hread w (L.ti e).size rfl (.inr rfl)
            refine .same h ?_ (.nil _)
            have h0 : (#[Value.slice none 0 0, u'] : Array Value)[0]? = some (.slice none 0 0) := rfl
            have h1 : (#[Value.slice none 0 0, u'] : Array Value)[1]? = some u' := rfl
            have hl := hs.len
            simp only [List.length_nil] at hl
            rcases hd1 with ⟨e1, hd1⟩ | hd1
            all_goals
              simp only [Builtin.append_, ht, h0, h1, ht1, Sem.run_bind, run_underlying' ft, run_underlying hd1, Result.andThen_ok, hu, run_sizeOf' fe, Sem.run_pure, Bool.false_eq_true, if_false, hl,
                Bool.not_false, if_true]
              rw [if_pos (Nat.le_refl _)]
              simp only [Sem.run_bind, Sem.run_pure, Result.andThen_ok, hr]
          · rename_i hne
            have hz' : z = (L.ti e).size := hz.resolve_right hne
            subst hz'
            have hpos : 0 < es'.length := by
              cases es' with
              | nil => exact absurd rfl hne
              | cons => simp
            obtain ⟨s, hds, hgo3⟩ := go_nextGen hgo2
            replace hgo3 := go_put hgo3
            obtain ⟨e', rfl⟩ := go_ret hgo3
            cases e'
            obtain ⟨cap', vs, rest, hcap, hrest, hvl, hvr, hrun⟩ := run_append_grow (P := P) (G := G) (w := w) (ty := ty) (b := none) (n := 0) (cap := 0) (olds := []) ok ht hu hst hs (.inl rfl) (by omega) (by omega) hby
              (fun w' _ => firstCells_zero _ w') hzx
            have h2 : Inv c G ρ a w.drew := h.drew rfl rfl rfl rfl
            have hcz : cap' * (L.ti e).size = es'.length * (L.ti e).size + (cap' - es'.length) * (L.ti e).size := by rw [← Nat.add_mul]; congr 1; omega
            simp only [Nat.zero_add, List.nil_append] at hrest hrun hcap
            obtain ⟨i2, r2⟩ := h2.newRow s (hd s hds) (L.ti e).size es' cap' (vs ++ rest) e hs.hz hs.flat hcap (by rw [List.length_append, hvl, hrest, hcz]; omega) (fun i ev j xv hi hj => by
              obtain ⟨v, hv, hr⟩ := hvr i ev j xv hi hj
              exact ⟨v, by rw [List.getElem?_append_left (List.getElem?_eq_some_iff.1 hv).1]; exact hv, hr⟩)
            exact ⟨_, _, G.at s w.heap.size cap', hrun, rfl, i2, r2⟩
        · exact (go_fail hgo2).elim
      · rename_i s g n
        cases hx with
        | @own _ _ _ _ cap base hg hh =>
          replace hgo2 := go_get hgo2
          split at hgo2
          · rename_i g' mt z' es hsr
            split at hgo2
            · rename_i hc
              obtain ⟨rfl, hn, rfl, hz, hbig, hby⟩ := hc
              replace hgo2 := go_put hgo2
              obtain ⟨e', rfl⟩ := go_ret hgo2
              cases e'
              obtain ⟨k1, k2, b, hb, k3, k4⟩ := hh mt _ es hsr
              obtain ⟨rfl, hcapG⟩ := k4 rfl
              obtain ⟨b', hb', hlt, hz0, hff, hcle, hfz, hcs⟩ : RepOb G ρ.ob w s (.row g mt (L.ti e).size es) := by have := h.objs s; rwa [hsr] at this
              rw [hb] at hb'; cases hb'
              have hz2 : z = (L.ti e).size ∨ es'.length = 0 := hz.imp id fun k => by rw [k]; rfl
              have hnew : ∀ e2 ∈ es ++ es', e2.length = (L.ti e).size ∧ ∀ xv ∈ e2, xv.flat = true := by
                intro e2 he2
                rcases List.mem_append.1 he2 with k | k
                · exact ⟨hz0 e2 k, hff e2 k⟩
                · refine ⟨?_, hs.flat e2 k⟩
                  rcases hz with rfl | rfl
                  · exact hs.hz e2 k
                  · simp at k
              have hel : (es ++ es').length = n + es'.length := by simp; omega
              by_cases hfit : n + es'.length ≤ cap
              · -- in place
                obtain ⟨vs, hvl, hvr, hrun⟩ := run_append_room (P := P) (G := G) (w := w) (ty := ty) (b := b) ok ht hu hst hs hz2 hfit (fun o ho => hfz o (by rw [← hcapG]; exact ho))
                have hvl' : vs.length = es'.length * (L.ti e).size := by
                  rcases hz2 with rfl | k
                  · exact hvl
                  · rw [hvl, k]; simp
                have hsz := setCells_size (b := b) vs (n * (L.ti e).size) w
                have hin : ∀ j, j < vs.length → n * (L.ti e).size + j < G.cap s * (L.ti e).size := by
                  intro j hj
                  have : (n + es'.length) * (L.ti e).size ≤ G.cap s * (L.ti e).size := Nat.mul_le_mul_right _ (by rw [← hcapG]; exact hfit)
                  rw [Nat.add_mul] at this; omega
                have hcell : ∀ k, (w.setCells b (n * (L.ti e).size) vs).cell? ⟨b, k, none⟩ = if n * (L.ti e).size ≤ k ∧ k < n * (L.ti e).size + vs.length then vs[k - n * (L.ti e).size]? else w.cell? ⟨b, k, none⟩ :=
                  fun k => setCells_cell vs _ w k (fun j hj => (hfz _ (hin j hj)).2)
                obtain ⟨G', hlam, i2, r2⟩ := h.rowNew hsr b (w.setCells b (n * (L.ti e).size) vs) cap (es ++ es') (.inr hb) (fun k h1 _ => setCells_other (w := w) vs _ w k h1) (by rw [hsz.1]; exact Nat.le_refl _)
                  hsz.2.1 hsz.2.2.1 hsz.2.2.2 (by rw [hsz.1]; exact hlt)
                  (fun k v hk => by
                    have hkl : ¬ (es.length * (L.ti e).size ≤ k) := fun hle => by rw [h.sepr s g mt _ es b k hsr hb (.inr hle)] at hk; cases hk
                    rw [hcell, if_neg (by rw [hn]; omega)]
                    exact h.hmu _ _ _ hk)
                  (fun e2 he2 => (hnew e2 he2).1) (fun e2 he2 => (hnew e2 he2).2) (by omega) (by simp)
                  (fun o ho => by
                    rw [setCells_frozen, hcell]
                    refine ⟨(hfz o (by rw [← hcapG]; exact ho)).1, ?_⟩
                    split
                    · rw [List.getElem?_eq_getElem (by omega)]; rfl
                    · exact (hfz o (by rw [← hcapG]; exact ho)).2)
                  (fun i ev j xv hi hj => by
                    rw [append_get] at hi
                    rw [hcell]
                    split at hi
                    · rename_i hil
                      obtain ⟨v, hv, hr, _⟩ := hcs i ev j xv hi hj
                      obtain ⟨_, hjz⟩ := row_lt hz0 hi hj
                      have := place_lt hil hjz
                      rw [if_neg (by rw [hn]; omega)]
                      exact ⟨v, hv, hr⟩
                    · rename_i hil
                      obtain ⟨v, hv, hr⟩ := hvr _ ev j xv hi hj
                      have hzz : z = (L.ti e).size := by
                        rcases hz with k | k
                        · exact k
                        · subst k; simp at hi
                      have hvj := (List.getElem?_eq_some_iff.1 hv).1
                      rw [hzz] at hv hvj
                      have e1 : i * (L.ti e).size + j = n * (L.ti e).size + ((i - es.length) * (L.ti e).size + j) := by
                        rw [← Nat.add_assoc, ← Nat.add_mul, hn]; congr 2; omega
                      rw [e1, if_pos (by omega), show n * (L.ti e).size + ((i - es.length) * (L.ti e).size + j) - n * (L.ti e).size = (i - es.length) * (L.ti e).size + j by omega]
                      exact ⟨v, hv, hr⟩)
                rw [hel] at r2
                exact ⟨_, _, G', hrun, hlam, i2, r2⟩
              · -- in a new block
                have hsl : RepSl (fun b o v => w.cell? ⟨b, o, none⟩ = some v) G.mu (L.ti e).size ((es.drop 0).take n) (.slice (some ⟨b, 0, none⟩) n cap) :=
                  (own_reads (lo := 0) (n := n) h hsr (.own hg hh)).mono (fun b o v hv => hv.1) (fun _ _ _ k => k)
                have htake : (es.drop 0).take n = es := by rw [hn]; simp
                rw [htake] at hsl
                have hso := src_of_sl (P := P) hsl
                obtain ⟨olds, hold1, holdl, _, holdr⟩ := hso.read n (by omega)
                obtain ⟨cap', vs, rest, hcap, hrest, hvl, hvr, hrun⟩ := run_append_grow (P := P) (G := G) (w := w) (ty := ty) (b := some ⟨b, 0, none⟩) (n := n) (cap := cap) (olds := olds) ok ht hu hst hs hz2 (by omega) hbig hby
                  (fun w' hw' => hold1 w' _ hw' (.inl rfl)) hzx
                have hvl' : vs.length = es'.length * (L.ti e).size := by
                  rcases hz2 with rfl | k
                  · exact hvl
                  · rw [hvl, k]; simp
                have h2 : Inv c G ρ a w.drew := h.drew rfl rfl rfl rfl
                have hcz : cap' * (L.ti e).size = n * (L.ti e).size + es'.length * (L.ti e).size + (cap' - (n + es'.length)) * (L.ti e).size := by
                  rw [← Nat.add_mul, ← Nat.add_mul]; congr 1; omega
                have htot : (olds ++ vs ++ rest).length = cap' * (L.ti e).size := by
                  rw [List.length_append, List.length_append, holdl, hvl', hrest, hcz]
                obtain ⟨G', hlam, i2, r2⟩ := h2.rowNew hsr w.heap.size (w.drew.alloc (.cells (olds ++ vs ++ rest).toArray e (0, 0))) cap' (es ++ es') (.inl (Nat.le_refl _))
                  (fun k h1 h3 => alloc_block w.drew _ h1 h3) (by simp) rfl rfl rfl (by simp)
                  (fun k v hk => by rw [mu_fresh h k] at hk; cases hk)
                  (fun e2 he2 => (hnew e2 he2).1) (fun e2 he2 => (hnew e2 he2).2) (by omega) (by simp)
                  (fun o ho => ⟨World.frozen?_alloc_new w.drew _ _ o, by
                    rw [show w.heap.size = w.drew.heap.size from rfl, alloc_cell, List.getElem?_eq_getElem (by omega)]; rfl⟩)
                  (fun i ev j xv hi hj => by
                    rw [show w.heap.size = w.drew.heap.size from rfl, alloc_cell]
                    rw [append_get] at hi
                    split at hi
                    · rename_i hil
                      obtain ⟨v, hv, hr⟩ := holdr i ev j xv (by omega) hi hj
                      refine ⟨v, ?_, hr⟩
                      rw [List.append_assoc, List.getElem?_append_left (List.getElem?_eq_some_iff.1 hv).1]; exact hv
                    · rename_i hil
                      obtain ⟨v, hv, hr⟩ := hvr _ ev j xv hi hj
                      have hzz : z = (L.ti e).size := by
                        rcases hz with k | k
                        · exact k
                        · subst k; simp at hi
                      have hvj := (List.getElem?_eq_some_iff.1 hv).1
                      rw [hzz] at hv hvj
                      have e1 : i * (L.ti e).size + j = n * (L.ti e).size + ((i - es.length) * (L.ti e).size + j) := by
                        rw [← Nat.add_assoc, ← Nat.add_mul, hn]; congr 2; omega
                      refine ⟨v, ?_, hr⟩
                      rw [e1, List.getElem?_append_left (by rw [List.length_append, holdl]; omega), List.getElem?_append_right (by rw [holdl]; omega), holdl,
                        show n * (L.ti e).size + ((i - es.length) * (L.ti e).size + j) - n * (L.ti e).size = (i - es.length) * (L.ti e).size + j by omega]
                      exact hv)
                rw [hel] at r2
                exact ⟨_, _, G', hrun, hlam, i2, r2⟩
            · exact (go_fail hgo2).elim
          · exact (go_fail hgo2).elim
      · exact (go_fail hgo2).elim
  · exact (go_fail hgo).elim


/-! ### maps -/
theorem findNow_rep {kind : TypeDesc} {k : Value} {mu : Mem} : ∀ (es : List (Value × V)) (en : List MapEntry) (i : Nat) {r : Option (Nat × V)}, en.length = es.length →
    (∀ (i : Nat) (e : Value × V) (m : MapEntry), es[i]? = some e → en[i]? = some m → m.key = e.1 ∧ RepV mu e.2 m.val) → mpFind kind k es i = some r →
    match r with
    | .none => Instr.findNow kind k en i = some .none
    | some (j, v) => ∃ u, Instr.findNow kind k en i = some (some (j, u)) ∧ RepV mu v u ∧ i ≤ j ∧ ∃ e, es[j - i]? = some e ∧ Instr.sameNow kind k e.1 = some true
  | [], en, i, r, hl, hr, hf => by
    simp only [mpFind, Option.some.injEq] at hf
    subst hf
    cases en with
    | nil => rfl
    | cons m en => simp at hl
  | e :: es, en, i, r, hl, hr, hf => by
    cases en with
    | nil => simp at hl
    | cons m en =>
      obtain ⟨hk, hv⟩ := hr 0 e m rfl rfl
      unfold mpFind at hf
      split at hf
      · rename_i hs
        simp only [Option.some.injEq] at hf
        subst hf
        refine ⟨m.val, ?_, hv, Nat.le_refl _, e, by simp, hs⟩
        simp only [Instr.findNow, hk, hs]
      · rename_i hs
        have ih := findNow_rep es en (i + 1) (by simpa using hl) (fun j e' m' h1 h2 => hr (j + 1) e' m' (by simpa using h1) (by simpa using h2)) hf
        cases r with
        | none => simp only [Instr.findNow, hk, hs]; exact ih
        | some p =>
          obtain ⟨j, v⟩ := p
          obtain ⟨u, h1, h2, h3, e', h4, h5⟩ := ih
          refine ⟨u, by simp only [Instr.findNow, hk, hs]; exact h1, h2, by omega, e', ?_, h5⟩
          rw [show j - i = (j - (i + 1)) + 1 by omega, List.getElem?_cons_succ]; exact h4
      · cases hf

theorem run_getMap {w : World} {b : Nat} {en : Array MapEntry} {k : Nat} (h : w.heap[b]? = some (.map en k)) : (getObj b).run P w = .ok (.map en k) w := by
  simp [getObj, Sem.run, h]
theorem run_putMap {w : World} {b : Nat} {en : Array MapEntry} {k : Nat} (o : Obj) (h : w.heap[b]? = some (.map en k)) : (setObj b o).run P w = .ok () { w with heap := w.heap.setIfInBounds b o } := by
  simp [setObj, Sem.run, h]

theorem run_findKey {key : TypeId} (f : Fact P L key) {k : Value} {en : List MapEntry} {r : Option (Nat × Value)} (h : Instr.findNow (L.ti key).und k en 0 = some r) (w : World) :
    (Instr.findKey key k en).run P w = .ok r w := by
  simp [Instr.findKey, run_underlying' f, h]

theorem run_checkKey {key : TypeId} (f : Fact P L key) (hk : keyTy (L.ti key).und = true) {k : Value} (e : Bool) (w : World) : (Instr.checkKey e 10000 key k).run P w = .ok () w := by
  show (Instr.checkKey e (9999 + 1) key k).run P w = .ok () w
  unfold Instr.checkKey
  simp only [Sem.run_bind, run_underlying' f, Result.andThen_ok]
  cases hu : (L.ti key).und <;> rw [hu] at hk <;> simp [keyTy] at hk <;> rfl

theorem sound_makeMap (ok : LiteOk P L) (h : Inv c G ρ a w) {t : TypeId} {d : Option Nat} (hd : ∀ s, d = some s → s < ρ.n) {hint : Option X} {y : X} {hu : Option Value} {H' : Nat → Ob} (hh : hint.isSome = hu.isSome)
    (hgo : (actMakeMap L d t hint).go ρ.ob (.val y) H') : DoneV P c G ρ a (Instr.makeMap t hu) w y H' := by
  unfold actMakeMap at hgo
  split at hgo
  · obtain rfl : hu = none := by cases hu <;> simp at hh ⊢
    obtain ⟨s, hds, hgo2⟩ := go_nextGen hgo
    replace hgo2 := go_put hgo2
    obtain ⟨e, rfl⟩ := go_ret hgo2
    cases e
    obtain ⟨h1, h2⟩ := h.newMap s (hd s hds)
    exact ⟨.map (some w.heap.size), w.alloc (.map #[] 0), G.at s w.heap.size 0, by simp [Instr.makeMap, newObj, Sem.run], rfl, h1, h2⟩
  · exact (go_fail hgo).elim

theorem zeroV_rep (ok : LiteOk P L) {mu : Mem} {t : TypeId} {v : V} (h : zeroV L t = some v) (w : World) : ∃ u, (zeroValue t).run P w = .ok u w ∧ RepV mu v u := by
  unfold zeroV at h
  split at h
  · rename_i zx hzx
    split at h
    · rename_i zero hzero
      split at h
      · rename_i hk
        have ft : Fact P L t := kd_fact ok (by omega)
        obtain ⟨u, hu, hz, hs⟩ := run_zero ft hzx w
        obtain ⟨i, hi, _, _, hz'⟩ := ft.info
        obtain ⟨u', hu', _⟩ := hz' zx hzx
        have hone := ft.one i u' hi hk (by rw [hzx]; rfl) hu'
        have : (zeroValue t).run P w = .ok u' w := by simp [zeroValue, run_typeInfo hi, hu']
        rw [hu] at this
        cases this
        obtain ⟨hl, _⟩ := zero_rep (mu := mu) hz hzero
        rw [hone] at hl
        cases zero with
        | nil => cases h
        | cons y r =>
          simp only [List.head?_cons, Option.some.injEq] at h
          subst h
          exact ⟨u, hu, hl.2 0 y u rfl rfl⟩
      · cases h
    · cases h
  · cases h

theorem sound_lookup (ok : LiteOk P L) (h : Inv c G ρ a w) {t : TypeId} {x i y : X} {u v : Value} {b : Bool} {H' : Nat → Ob} (hx : RepX G ρ.ob x u) (hi : RepX G ρ.ob i v)
    (hgo : (actLookup L t x i b).go ρ.ob (.val y) H') : DoneV P c G ρ a (Instr.lookup t u v b) w y H' := by
  unfold actLookup at hgo
  split at hgo
  · rename_i key elem s g k hu
    split at hgo
    · rename_i hkt
      replace hgo := go_get hgo
      split at hgo
      · rename_i g' es hs
        split at hgo
        · rename_i hg
          subst hg
          obtain ⟨r, hr, hgo⟩ := go_ov hgo
          obtain ⟨p, hp, hgo⟩ := go_ov hgo
          obtain ⟨e, rfl⟩ := go_ret hgo
          cases e
          obtain ⟨rfl, _⟩ := lit_val hi
          have ft := ok.fact t (by rw [hu]; exact fun e => by cases e)
          have fk := ok.fact key (by intro e; rw [e] at hkt; cases hkt)
          cases hx with
          | @mapr _ _ bb hg hh =>
            have hm := hh es hs
            obtain ⟨b', hb', hlt, en, kk, h3, h4, h5⟩ : RepOb G ρ.ob w s (.mp g es) := by have := h.objs s; rwa [hs] at this
            rw [hm] at hb'; cases hb'
            have hfind := findNow_rep (mu := G.mu) es en.toList 0 (by simpa using h4) (fun i e m h1 h2 => h5 i e m h1 (by simpa using h2)) hr
            have fin : ∀ (u' : Value), RepV G.mu p.1 u' → RepX G ρ.ob (if b = true then .tup [.v p.1, .v (.lit (.bool p.2))] else .v p.1) (if b then .tuple #[u', .bool p.2] else u') := by
              intro u' hu'
              cases b with
              | false => exact .v hu'
              | true =>
                refine .tup (xs := [.v p.1, .v (.lit (.bool p.2))]) (vs := [u', .bool p.2]) rfl fun i c u h1 h2 => ?_
                match i, h1, h2 with
                | 0, h1, h2 => cases h1; cases h2; exact .v hu'
                | 1, h1, h2 => cases h1; cases h2; exact rep_lit rfl
            cases r with
            | some q =>
              obtain ⟨j, vv⟩ := q
              simp only [Option.some.injEq] at hp
              subst hp
              obtain ⟨uu, h6, h7, _⟩ := hfind
              refine .same h ?_ (fin uu h7)
              simp [Instr.lookup, run_underlying' ft, hu, run_getMap h3, run_checkKey fk hkt, run_findKey fk h6]
            | none =>
              cases hz : zeroV L elem with
              | none => simp [hz] at hp
              | some vv =>
                simp only [hz, Option.map_some, Option.some.injEq] at hp
                subst hp
                obtain ⟨uu, h6, h7⟩ := zeroV_rep (P := P) (mu := G.mu) ok hz w
                refine .same h ?_ (fin uu h7)
                simp [Instr.lookup, run_underlying' ft, hu, run_getMap h3, run_checkKey fk hkt, run_findKey fk hfind, h6]
        · exact (go_fail hgo).elim
      · exact (go_fail hgo).elim
    · exact (go_fail hgo).elim
  · exact (go_fail hgo).elim

theorem bytes_eqb (a b : ByteArray) : (a == b) = true ↔ a = b := by
  cases a with | mk x => cases b with | mk y =>
  show (x == y) = true ↔ _
  simp

theorem sameNow_bits {kind : TypeDesc} {k o : Value} (h : Instr.sameNow kind k o = some true) (n : Nat) : Instr.sameBits n o k = true ∧ o = k := by
  unfold Instr.sameNow at h
  split at h
  · split at h
    · rename_i he
      subst he
      simp only [Option.some.injEq, beq_iff_eq] at h
      subst h
      exact ⟨by unfold Instr.sameBits; simp, rfl⟩
    · cases h
  · simp only [Option.some.injEq] at h
    have h := (bytes_eqb _ _).1 h
    subst h
    exact ⟨by unfold Instr.sameBits; exact (bytes_eqb _ _).2 rfl, rfl⟩
  · simp only [Option.some.injEq] at h
    have h := eq_of_beq h
    subst h
    exact ⟨by unfold Instr.sameBits; simp, rfl⟩
  · cases h

theorem sound_mapUpdate (ok : LiteOk P L) (h : Inv c G ρ a w) {t : TypeId} {x i y z : X} {u v u' : Value} {H' : Nat → Ob} (hx : RepX G ρ.ob x u) (hi : RepX G ρ.ob i v) (hy : RepX G ρ.ob y u')
    (hgo : (actMapUpdate L t x i y).go ρ.ob (.val z) H') : DoneU P c G ρ a (Instr.mapUpdate t u v u') w H' ∧ z = .undef := by
  unfold actMapUpdate at hgo
  split at hgo
  · rename_i key elem s g k hu
    split at hgo
    · rename_i hkt
      obtain ⟨yv, G1, H1, hlam1, h1, hlat, hyv, hgo⟩ := sound_frz h (retype_rep (t := elem) hy) hgo
      replace hgo := go_get hgo
      split at hgo
      · rename_i g' es hs
        split at hgo
        · rename_i hg
          subst hg
          obtain ⟨r, hr, hgo⟩ := go_ov hgo
          obtain ⟨hvk, _⟩ := lit_val hi
          subst v
          have ft := ok.fact t (by rw [hu]; exact fun e => by cases e)
          have fk := ok.fact key (by intro e; rw [e] at hkt; cases hkt)
          have hx1 := hx.later hlat
          cases hx1 with
          | @mapr _ _ bb hg hh =>
            have hm := hh es hs
            obtain ⟨b', hb', hlt, en, kk, h3, h4, h5⟩ : RepOb G1 H1 w s (.mp g es) := by have := h1.objs s; rwa [show ({ ρ with ob := H1 } : St).ob s = _ from hs] at this
            rw [hm] at hb'; cases hb'
            have hfind := findNow_rep (mu := G1.mu) es en.toList 0 (by simpa using h4) (fun i e m h1 h2 => h5 i e m h1 (by simpa using h2)) hr
            split at hgo
            · rename_i j vv
              replace hgo := go_put hgo
              obtain ⟨e, rfl⟩ := go_ret hgo
              cases e
              obtain ⟨uu, h6, h7, _, e', h8, h9⟩ := hfind
              rw [Nat.sub_zero] at h8
              obtain ⟨hjl, _⟩ := List.getElem?_eq_some_iff.1 h8
              have hen : en[j]? = some (en[j]'(by omega)) := Array.getElem?_eq_getElem (by omega)
              have hkey : (en[j]'(by omega)).key = k := by
                obtain ⟨h10, _⟩ := h5 j e' _ h8 hen
                rw [h10]; exact (sameNow_bits h9 0).2
              have hbits := (sameNow_bits h9 10000).1
              have hbits' : Instr.sameBits 10000 k k = true := by rw [(sameNow_bits h9 0).2] at hbits; exact hbits
              refine ⟨⟨{ w with heap := w.heap.setIfInBounds bb (.map (en.modify j fun e => { e with key := k, val := u' }) kk) }, G1, ?_, hlam1, ?_⟩, rfl⟩
              · simp [Instr.mapUpdate, run_underlying' ft, hu, run_getMap h3, run_checkKey fk hkt, run_findKey fk h6, hen, Instr.keyThatStays, hkey, hbits', run_putMap _ h3]
              · refine h1.setMap hs hm _ _ _ (by simpa using h4) fun i e m hi hm' => ?_
                rw [List.getElem?_set] at hi
                rw [Array.getElem?_modify] at hm'
                split at hi
                · rename_i hij
                  subst hij
                  simp only [hjl, if_true, Option.some.injEq] at hi
                  subst hi
                  rw [hen] at hm'
                  simp only [if_true, Option.map_some, Option.some.injEq] at hm'
                  subst hm'
                  exact ⟨rfl, hyv⟩
                · rename_i hij
                  rw [if_neg hij] at hm'
                  exact h5 i e m hi hm'
            · replace hgo := go_put hgo
              obtain ⟨e, rfl⟩ := go_ret hgo
              cases e
              refine ⟨⟨{ w with heap := w.heap.setIfInBounds bb (.map (en.push { key := k, val := u', born := kk }) (kk + 1)) }, G1, ?_, hlam1, ?_⟩, rfl⟩
              · simp [Instr.mapUpdate, run_underlying' ft, hu, run_getMap h3, run_checkKey fk hkt, run_findKey fk hfind, run_putMap _ h3]
              · refine h1.setMap hs hm _ _ _ (by simp [h4]) fun i e m hi hm' => ?_
                rw [append_get] at hi
                rw [Array.getElem?_push] at hm'
                split at hi
                · rename_i hij
                  rw [if_neg (by omega)] at hm'
                  exact h5 i e m hi hm'
                · rename_i hij
                  obtain ⟨hlt2, _⟩ := List.getElem?_eq_some_iff.1 hi
                  simp at hlt2
                  have : i = es.length := by omega
                  subst this
                  rw [if_pos h4.symm] at hm'
                  simp at hi hm'
                  subst hi; subst hm'
                  exact ⟨rfl, hyv⟩
        · exact (go_fail hgo).elim
      · exact (go_fail hgo).elim
    · exact (go_fail hgo).elim
  · exact (go_fail hgo).elim

theorem sound_lenMap (h : Inv c G ρ a w) {x y : X} {u : Value} {H' : Nat → Ob} (hx : RepX G ρ.ob x u) (hgo : (actLenMap x).go ρ.ob (.val y) H') :
    ∃ b en k, u = .map (some b) ∧ w.heap[b]? = some (.map en k) ∧ y = .v (.lit (.int .i64 en.size)) ∧ H' = ρ.ob := by
  unfold actLenMap at hgo
  split at hgo
  · rename_i s g
    replace hgo := go_get hgo
    split at hgo
    · rename_i g' es hs
      split at hgo
      · rename_i hg
        subst hg
        obtain ⟨e, rfl⟩ := go_ret hgo
        cases e
        cases hx with
        | @mapr _ _ bb hg hh =>
          have hm := hh es hs
          obtain ⟨b', hb', hlt, en, kk, h3, h4, h5⟩ : RepOb G ρ.ob w s (.mp g es) := by have := h.objs s; rwa [hs] at this
          rw [hm] at hb'; cases hb'
          exact ⟨_, en, kk, rfl, h3, by rw [h4], rfl⟩
      · exact (go_fail hgo).elim
    · exact (go_fail hgo).elim
  · exact (go_fail hgo).elim

end
end Go.Dv

namespace Go.Dv
open Go

section
variable {P : Program} {L : Lite} {c : Ctx} {G : Gh} {ρ : St} {a : Act} {w : World}

theorem sound_copy (ok : LiteOk P L) (h : Inv c G ρ a w) {ts : Array TypeId} {ty : TypeId} {x x' y : X} {u u' : Value} {H' : Nat → Ob} (hx : RepX G ρ.ob x u) (hx' : RepX G ρ.ob x' u')
    (hgo : (actCopy L ts x x').go ρ.ob (.val y) H') : DoneV P c G ρ a (Builtin.copy_ ts ty #[u, u']) w y H' := by
  unfold actCopy at hgo
  split at hgo
  · rename_i e heq
    obtain ⟨t, ht, hu⟩ : ∃ t, ts[0]? = some t ∧ (L.ti t).und = .slice e := by
      cases h0 : ts[0]? with
      | none => rw [h0] at heq; cases heq
      | some t => rw [h0] at heq; exact ⟨t, rfl, by simpa using heq⟩
    have ft := ok.fact t (by rw [hu]; exact fun e => by cases e)
    have fe := ok.fact e (ok.slice t e hu)
    obtain ⟨z, es', hs, hgo2⟩ := sound_src (P := P) h hx' hgo
    split at hgo2
    · rename_i s g lo n
      cases hx with
      | @own _ _ _ _ cap base hg hh =>
        replace hgo2 := go_get hgo2
        split at hgo2
        · rename_i g' z' es hsr
          split at hgo2
          · rename_i hc
            obtain ⟨rfl, rfl, rfl⟩ := hc
            replace hgo2 := go_put hgo2
            obtain ⟨e', rfl⟩ := go_ret hgo2
            cases e'
            obtain ⟨k1, k2, b, hb, k3, k4⟩ := hh true _ es hsr
            obtain ⟨b', hb', hlt, hz0, hff, hcle, hfz, hcs⟩ : RepOb G ρ.ob w s (.row g true (L.ti e).size es) := by have := h.objs s; rwa [hsr] at this
            rw [hb] at hb'; cases hb'
            obtain ⟨vs, hread, hvl, hv1, hvr⟩ := hs.read (min es'.length n) (Nat.min_le_left _ _)
            have hrd := hread w (L.ti e).size rfl (.inl rfl)
            have hin : ∀ j, j < vs.length → lo * (L.ti e).size + j < G.cap s * (L.ti e).size := by
              intro j hj
              have : (lo + min es'.length n) * (L.ti e).size ≤ G.cap s * (L.ti e).size := Nat.mul_le_mul_right _ (by omega)
              rw [Nat.add_mul] at this; omega
            have hsz := setCells_size (b := b) vs (lo * (L.ti e).size) w
            have hcell : ∀ k, (w.setCells b (lo * (L.ti e).size) vs).cell? ⟨b, k, none⟩ = if lo * (L.ti e).size ≤ k ∧ k < lo * (L.ti e).size + vs.length then vs[k - lo * (L.ti e).size]? else w.cell? ⟨b, k, none⟩ :=
              fun k => setCells_cell vs _ w k (fun j hj => (hfz _ (hin j hj)).2)
            have hlen2 : (es.take lo ++ es'.take n ++ es.drop (lo + min es'.length n)).length = es.length := by simp; omega
            have hnew : ∀ e2 ∈ es.take lo ++ es'.take n ++ es.drop (lo + min es'.length n), e2.length = (L.ti e).size ∧ ∀ xv ∈ e2, xv.flat = true := by
              intro e2 he2
              rcases List.mem_append.1 he2 with k | k
              · rcases List.mem_append.1 k with k | k
                · exact ⟨hz0 e2 (List.mem_of_mem_take k), hff e2 (List.mem_of_mem_take k)⟩
                · exact ⟨hs.hz e2 (List.mem_of_mem_take k), hs.flat e2 (List.mem_of_mem_take k)⟩
              · exact ⟨hz0 e2 (List.mem_of_mem_drop k), hff e2 (List.mem_of_mem_drop k)⟩
            have i2 := h.rowOver hsr hb (w.setCells b (lo * (L.ti e).size) vs) (es.take lo ++ es'.take n ++ es.drop (lo + min es'.length n)) (fun k h1 _ => setCells_other (w := w) vs _ w k h1) hsz.1 hsz.2.1 hsz.2.2.1 hsz.2.2.2
              (fun e2 he2 => (hnew e2 he2).1) (fun e2 he2 => (hnew e2 he2).2) hlen2
              (fun o ho => by
                rw [setCells_frozen, hcell]
                refine ⟨(hfz o ho).1, ?_⟩
                split
                · rw [List.getElem?_eq_getElem (by omega)]; rfl
                · exact (hfz o ho).2)
              (fun i ev j xv hi hj => by
                rw [hcell]
                rw [append_get, append_get] at hi
                simp only [List.length_append, List.length_take] at hi
                split at hi
                · rename_i h1
                  split at hi
                  · rename_i h2
                    rw [List.getElem?_take_of_lt (by omega)] at hi
                    obtain ⟨v, hv, hr, _⟩ := hcs i ev j xv hi hj
                    obtain ⟨_, hjz⟩ := row_lt hz0 hi hj
                    have := place_lt (show i < lo by omega) hjz
                    rw [if_neg (by omega)]
                    exact ⟨v, hv, hr⟩
                  · rename_i h2
                    rw [List.getElem?_take_of_lt (by omega)] at hi
                    obtain ⟨v, hv, hr⟩ := hvr _ ev j xv (by omega) hi hj
                    have hvj := (List.getElem?_eq_some_iff.1 hv).1
                    have hm : min lo es.length = lo := by omega
                    rw [hm] at hv hvj
                    have e1 : i * (L.ti e).size + j = lo * (L.ti e).size + ((i - lo) * (L.ti e).size + j) := by
                      rw [← Nat.add_assoc, ← Nat.add_mul]; congr 2; omega
                    rw [e1, if_pos (by omega), show lo * (L.ti e).size + ((i - lo) * (L.ti e).size + j) - lo * (L.ti e).size = (i - lo) * (L.ti e).size + j by omega]
                    exact ⟨v, hv, hr⟩
                · rename_i h1
                  rw [List.getElem?_drop] at hi
                  have hi' : es[i]? = some ev := by rw [← hi]; congr 1; omega
                  obtain ⟨v, hv, hr, _⟩ := hcs i ev j xv hi' hj
                  have hge : (lo + min es'.length n) * (L.ti e).size ≤ i * (L.ti e).size := Nat.mul_le_mul_right _ (by omega)
                  rw [Nat.add_mul] at hge
                  rw [if_neg (by omega)]
                  exact ⟨v, hv, hr⟩)
            refine ⟨_, _, G, ?_, rfl, i2, rep_lit rfl⟩
            have h0 : (#[Value.slice (some base) n cap, u'] : Array Value)[0]? = some (.slice (some base) n cap) := rfl
            have h1 : (#[Value.slice (some base) n cap, u'] : Array Value)[1]? = some u' := rfl
            have hstore : (storeCells base vs).run P w = .ok () (w.setCells b (lo * (L.ti e).size) vs) := by
              by_cases hn0 : n = 0
              · have : vs = [] := List.eq_nil_of_length_eq_zero (by rw [hvl, hn0]; simp)
                subst this
                simp [storeCells, World.setCells]
              · rw [k3 (by omega)]
                have := run_storeCells_cells (P := P) b (lo * (L.ti e).size) vs 0 w (fun j hj => (hfz _ (hin j hj)).2) (fun j hj => (hfz _ (hin j hj)).1) hv1
                simpa using this
            simp only [Builtin.copy_, ht, h0, h1, Sem.run_bind, run_underlying' ft, Result.andThen_ok, hu, run_sizeOf' fe, hs.len]
            rw [show Nat.min es'.length n = min es'.length n from rfl, hrd]
            simp only [Result.andThen_ok, hstore, Sem.run_pure, goInt]
          · exact (go_fail hgo2).elim
        · exact (go_fail hgo2).elim
    · exact (go_fail hgo2).elim
  · exact (go_fail hgo).elim

theorem sound_len (ok : LiteOk P L) (h : Inv c G ρ a w) {ts : Array TypeId} {ty : TypeId} {x y : X} {u : Value} {H' : Nat → Ob} (hx : RepX G ρ.ob x u)
    (hgo : (actLen L ts x).go ρ.ob (.val y) H') : DoneV P c G ρ a (Builtin.len_ ts ty #[u]) w y H' := by
  unfold actLen at hgo
  have und : ∀ d, (ts[0]?).map (fun t => (L.ti t).und) = some d → d ≠ .invalid → ∃ t, ts[0]? = some t ∧ (L.ti t).und = d ∧ Fact P L t := by
    intro d hd hne
    cases h0 : ts[0]? with
    | none => rw [h0] at hd; cases hd
    | some t =>
      rw [h0] at hd
      have : (L.ti t).und = d := by simpa using hd
      exact ⟨t, rfl, this, ok.fact t (by rw [this]; exact hne)⟩
  split at hgo
  · rename_i heq
    obtain ⟨t, ht, hu, ft⟩ := und _ heq (fun e => by cases e)
    split at hgo
    · obtain ⟨e, rfl⟩ := go_ret hgo
      cases e
      obtain ⟨rfl, _⟩ := lit_val hx
      refine .same h ?_ (rep_lit rfl)
      simp [Builtin.len_, ht, run_underlying' ft, hu, goInt]
    · exact (go_fail hgo).elim
  · rename_i heq
    obtain ⟨t, ht, hu, ft⟩ := und _ heq (fun e => by cases e)
    split at hgo
    · obtain ⟨e, rfl⟩ := go_ret hgo
      cases e
      cases hx with
      | v hx =>
        obtain ⟨b, cap, rfl, _⟩ := hx.toSl
        refine .same h ?_ (rep_lit rfl)
        simp [Builtin.len_, ht, run_underlying' ft, hu, goInt]
    · obtain ⟨e, rfl⟩ := go_ret hgo
      cases e
      cases hx with
      | lent hx =>
        obtain ⟨b, cap, rfl, _⟩ := hx
        refine .same h ?_ (rep_lit rfl)
        simp [Builtin.len_, ht, run_underlying' ft, hu, goInt]
    · obtain ⟨e, rfl⟩ := go_ret hgo
      cases e
      cases hx
      refine .same h (v := .int .i64 0) ?_ (rep_lit rfl)
      simp [Builtin.len_, ht, run_underlying' ft, hu, goInt]
    · obtain ⟨e, rfl⟩ := go_ret hgo
      cases e
      cases hx with
      | own hg hh =>
        refine .same h ?_ (rep_lit rfl)
        simp [Builtin.len_, ht, run_underlying' ft, hu, goInt]
    · obtain ⟨e, rfl⟩ := go_ret hgo
      cases e
      cases hx with
      | bsl hg hh =>
        refine .same h ?_ (rep_lit rfl)
        simp [Builtin.len_, ht, run_underlying' ft, hu, goInt]
    · exact (go_fail hgo).elim
  · rename_i heq
    obtain ⟨t, ht, hu, ft⟩ := und _ heq (fun e => by cases e)
    obtain ⟨b, en, k, rfl, h1, rfl, rfl⟩ := sound_lenMap h hx hgo
    refine .same h ?_ (rep_lit rfl)
    simp [Builtin.len_, ht, run_underlying' ft, hu, goInt, run_getMap h1]
  · exact (go_fail hgo).elim

theorem run_foldMM (mx : Bool) : ∀ (r : List (IntKind × Int)) (k : IntKind) (x : Int),
    ((r.map fun p => Value.int p.1 p.2).foldlM (if mx then Builtin.max2 else Builtin.min2) (.int k x)).run P w = .ok (.int k (foldMM mx k x r)) w
  | [], k, x => by simp [foldMM]
  | (k', b) :: r, k, x => by
    rw [List.map_cons, List.foldlM_cons]
    have hstep : ((if mx then Builtin.max2 else Builtin.min2) (.int k x) (.int k' b)).run P w = .ok (.int k (if mx then (if b > x then b else x) else (if b < x then b else x))) w := by
      cases mx <;> simp [Builtin.max2, Builtin.min2]
    rw [Sem.run_bind, hstep, Result.andThen_ok, run_foldMM mx r, foldMM]

theorem intsOf_rep {H : Nat → Ob} : ∀ {xs : List X} {us : List Value} {l : List (IntKind × Int)}, intsOf xs = some l → xs.length = us.length →
    (∀ (j : Nat) (x : X) (u : Value), xs[j]? = some x → us[j]? = some u → RepX G H x u) → us = l.map fun p => Value.int p.1 p.2
  | [], us, l, h, hl, hr => by
    simp only [intsOf, Option.some.injEq] at h; subst h
    cases us with
    | nil => rfl
    | cons => simp at hl
  | x :: r, us, l, h, hl, hr => by
    cases us with
    | nil => simp at hl
    | cons u us =>
      unfold intsOf at h
      split at h
      · rename_i heq; cases heq
      · rename_i k n r' heq
        cases heq
        split at h
        · rename_i l' hl'
          cases h
          rw [List.map_cons, ← intsOf_rep hl' (by simpa using hl) (fun j x u hj hu => hr (j + 1) x u (by simpa using hj) (by simpa using hu)), lit_int (hr 0 _ u rfl rfl)]
        · cases h
      · cases h

theorem sound_mm (h : Inv c G ρ a w) {mx : Bool} {ts : Array TypeId} {ty : TypeId} {xs : List X} {us : List Value} {y : X} {H' : Nat → Ob} (hl : xs.length = us.length)
    (hx : ∀ (j : Nat) (x : X) (u : Value), xs[j]? = some x → us[j]? = some u → RepX G ρ.ob x u) (hgo : (actMM mx xs).go ρ.ob (.val y) H') :
    DoneV P c G ρ a (if mx then Builtin.max_ ts ty us.toArray else Builtin.min_ ts ty us.toArray) w y H' := by
  unfold actMM at hgo
  split at hgo
  · rename_i k x r hints
    obtain ⟨e, rfl⟩ := go_ret hgo
    cases e
    obtain rfl := intsOf_rep hints hl hx
    refine .same h ?_ (rep_lit rfl)
    have := run_foldMM (P := P) (w := w) mx r k x
    cases mx
    · simpa [Builtin.min_] using this
    · simpa [Builtin.max_] using this
  · exact (go_fail hgo).elim

theorem run_litBin {op : BinOp} {x y v : Value} (t : TypeId) (h : litBin op x y = some v) (w : World) : (binOp op t x y).run P w = .ok v w ∧ scal v = true := by
  unfold litBin at h
  split at h
  · rename_i k n k' m
    unfold intOp at h
    cases op <;> simp only at h
    case shl =>
      split at h
      · cases h
      · rename_i hm; cases h
        exact ⟨by simp [binOp, Op.shift, hm], rfl⟩
    case shr =>
      split at h
      · cases h
      · rename_i hm; cases h
        exact ⟨by simp [binOp, Op.shift, hm], rfl⟩
    case quo =>
      split at h
      · rename_i hk; subst hk
        split at h
        · cases h
        · rename_i hm; cases h; exact ⟨by simp [binOp, Op.intDiv, hm], rfl⟩
      · cases h
    case rem =>
      split at h
      · rename_i hk; subst hk
        split at h
        · cases h
        · rename_i hm; cases h; exact ⟨by simp [binOp, Op.intDiv, hm], rfl⟩
      · cases h
    all_goals
      split at h
      · rename_i hk; subst hk
        first
          | (cases h; exact ⟨by first | (rw [binOp_add]; rfl) | (rw [binOp_sub]; rfl) | (rw [binOp_mul]; rfl), rfl⟩)
          | (simp only [bitI, Option.some.injEq] at h; subst h; exact ⟨by first | (rw [binOp_and]; rfl) | (rw [binOp_or]; rfl) | (rw [binOp_xor]; rfl) | (rw [binOp_andNot]; rfl), rfl⟩)
          | (simp only [cmpI, Option.some.injEq] at h; subst h; exact ⟨by first | (rw [binOp_eql]; rfl) | (rw [binOp_neq]; rfl) | (rw [binOp_lss]; rfl) | (rw [binOp_leq]; rfl) | (rw [binOp_gtr]; rfl) | (rw [binOp_geq]; rfl), rfl⟩)
      · cases h
  · rename_i x y
    unfold strOp at h
    cases op <;> simp only at h
    case add =>
      split at h
      · rename_i hle; cases h
        refine ⟨?_, rfl⟩
        simp only [binOp, Op.stringOp]
        rw [if_neg (by rw [IntKind.max_i64]; omega)]
        simp
      · cases h
    all_goals first
      | (cases h; exact ⟨by simp [binOp, Op.stringOp], rfl⟩)
      | cases h
  · cases h

theorem guard_lit {op : BinOp} {t : TypeId} {x y : Operand} {u v r : Value} (h : litBin op u v = some r) (w : World) : (eqGuard op t x y u v).run P w = .ok () w := by
  unfold litBin at h
  split at h
  · rw [eqGuard_at_int]; rfl
  · rw [eqGuard_at_string]; rfl
  · cases h

theorem eqCells_lits : ∀ {xs ys : List V} {b : Bool}, eqCells xs ys = some b → xs.length = ys.length ∧ (∀ x ∈ xs, ∃ v, x = .lit v) ∧ ∀ y ∈ ys, ∃ v, y = .lit v
  | [], [], b, h => ⟨rfl, by simp, by simp⟩
  | [], _ :: _, b, h => by simp [eqCells] at h
  | _ :: _, [], b, h => by simp [eqCells] at h
  | x :: xs, y :: ys, b, h => by
    unfold eqCells at h
    split at h
    · rename_i p q h1 h2
      obtain ⟨hl, hx, hy⟩ := eqCells_lits h2
      have hxy : (∃ v, x = .lit v) ∧ ∃ v, y = .lit v := by
        unfold eqCell at h1
        split at h1
        · exact ⟨⟨_, rfl⟩, _, rfl⟩
        · exact ⟨⟨_, rfl⟩, _, rfl⟩
        · exact ⟨⟨_, rfl⟩, _, rfl⟩
        · cases h1
      refine ⟨by simp [hl], fun x' hx' => ?_, fun y' hy' => ?_⟩
      · rcases List.mem_cons.1 hx' with rfl | k
        · exact hxy.1
        · exact hx x' k
      · rcases List.mem_cons.1 hy' with rfl | k
        · exact hxy.2
        · exact hy y' k
    · cases h

theorem lits_of_rep {mu : Mem} {cs : List V} {vs : List Value} (hlit : ∀ x ∈ cs, ∃ v, x = V.lit v) (hr : ∀ (i : Nat) (x : V) (u : Value), cs[i]? = some x → vs[i]? = some u → RepV mu x u) :
    ∀ (i : Nat) (x : V) (u : Value), cs[i]? = some x → vs[i]? = some u → x = .lit u := by
  intro i x u hi hu
  obtain ⟨v, rfl⟩ := hlit x (List.mem_of_getElem? hi)
  have := hr i _ u hi hu
  cases this; rfl

theorem equalIn_bool (d : Nat) {t : TypeId} (f : Fact P L t) (hu : (L.ti t).und = .bool) (p q : Bool) (w : World) : (Op.equalIn (d + 1) t (.bool p) (.bool q)).run P w = .ok (p == q) w := by
  unfold Op.equalIn
  simp only [Sem.run_bind, run_underlying' f, Result.andThen_ok, hu, Sem.run_pure]

theorem equal_bool {t : TypeId} (f : Fact P L t) (hu : (L.ti t).und = .bool) (p q : Bool) (w : World) : (Op.equal t (.bool p) (.bool q)).run P w = .ok (p == q) w :=
  equalIn_bool 9999 f hu p q w

theorem equalIn_func (d : Nat) {t : TypeId} (f : Fact P L t) {ps rs : Array TypeId} {vr : Bool} (hu : (L.ti t).und = .func ps rs vr) {g : Fn} {x y : Array Value} (w : World) : (Op.equalIn (d + 1) t (.func g x y) .nilFunc).run P w = .ok false w := by
  unfold Op.equalIn
  simp only [Sem.run_bind, run_underlying' f, Result.andThen_ok, hu, Sem.run_pure]
theorem equalIn_slNil (d : Nat) {t : TypeId} (f : Fact P L t) {e : TypeId} (hu : (L.ti t).und = .slice e) (w : World) : (Op.equalIn (d + 1) t (.slice none 0 0) (.slice none 0 0)).run P w = .ok true w := by
  unfold Op.equalIn
  simp only [Sem.run_bind, run_underlying' f, Result.andThen_ok, hu, Sem.run_pure]
  try rfl
theorem equalIn_slSome (d : Nat) {t : TypeId} (f : Fact P L t) {e : TypeId} (hu : (L.ti t).und = .slice e) {ad : Addr} {n k : Nat} (w : World) : (Op.equalIn (d + 1) t (.slice (some ad) n k) (.slice none 0 0)).run P w = .ok false w := by
  unfold Op.equalIn
  simp only [Sem.run_bind, run_underlying' f, Result.andThen_ok, hu, Sem.run_pure]
  try rfl

theorem sound_nilRes (h : Inv c G ρ a w) {op : BinOp} {t : TypeId} {xo yo : Operand} {z : X} {u v : Value} {b : Bool} {H' : Nat → Ob} (hgo : (nilRes op b).go ρ.ob (.val z) H')
    (he : (Op.equal t u v).run P w = .ok b w) (hg : (eqGuard op t xo yo u v).run P w = .ok () w)
    (hb : op = .eql ∨ op = .neq → binOp op t u v = if op = .eql then Op.equal t u v >>= fun r => pure (.bool r) else Op.equal t u v >>= fun r => pure (.bool !r)) :
    DoneV P c G ρ a (do eqGuard op t xo yo u v; binOp op t u v) w z H' := by
  unfold nilRes at hgo
  split at hgo
  · obtain ⟨e, rfl⟩ := go_ret hgo
    cases e
    refine .same h ?_ (rep_lit rfl)
    rw [Sem.run_bind, hg, Result.andThen_ok, hb (.inl rfl), if_pos rfl, Sem.run_bind, he]; rfl
  · obtain ⟨e, rfl⟩ := go_ret hgo
    cases e
    refine .same h ?_ (rep_lit rfl)
    rw [Sem.run_bind, hg, Result.andThen_ok, hb (.inr rfl), if_neg (by intro e; cases e), Sem.run_bind, he]; rfl
  · exact (go_fail hgo).elim

theorem sound_bin (ok : LiteOk P L) (h : Inv c G ρ a w) {op : BinOp} {t : TypeId} {xo yo : Operand} {x y z : X} {u v : Value} {H' : Nat → Ob} (hx : RepX G ρ.ob x u) (hy : RepX G ρ.ob y v)
    (hgo : (actBin L op t x y).go ρ.ob (.val z) H') : DoneV P c G ρ a (do eqGuard op t xo yo u v; binOp op t u v) w z H' := by
  unfold actBin at hgo
  split at hgo
  · rename_i p q
    split at hgo
    · rename_i hu
      obtain ⟨r, hr, hgo2⟩ := go_ov hgo
      obtain ⟨e, rfl⟩ := go_ret hgo2
      cases e
      obtain ⟨rfl, _⟩ := lit_val hx
      obtain ⟨rfl, _⟩ := lit_val hy
      have ft := ok.fact t (by rw [hu]; exact fun e => by cases e)
      unfold boolOp at hr
      split at hr
      · cases hr
        refine .same h ?_ (rep_lit rfl)
        rw [eqGuard_at_bool, Sem.run_bind, Sem.run_pure, Result.andThen_ok]
        simp only [binOp, Sem.run_bind, equal_bool ft hu, Result.andThen_ok, Sem.run_pure]
      · cases hr
        refine .same h ?_ (rep_lit rfl)
        rw [eqGuard_at_bool, Sem.run_bind, Sem.run_pure, Result.andThen_ok]
        simp only [binOp, Sem.run_bind, equal_bool ft hu, Result.andThen_ok, Sem.run_pure]
        rfl
      · cases hr
    · exact (go_fail hgo).elim
  · obtain ⟨r, hr, hgo2⟩ := go_ov hgo
    obtain ⟨e, rfl⟩ := go_ret hgo2
    cases e
    obtain ⟨rfl, _⟩ := lit_val hx
    obtain ⟨rfl, _⟩ := lit_val hy
    obtain ⟨h1, h2⟩ := run_litBin (P := P) t hr w
    refine .same h ?_ (rep_lit h2)
    rw [Sem.run_bind, guard_lit hr, Result.andThen_ok, h1]
  · rename_i xs ys
    split at hgo
    · rename_i hc
      obtain ⟨ht, hlen⟩ := hc
      obtain ⟨r, hr, hgo2⟩ := go_ov hgo
      cases hx with
      | v hx =>
        cases hy with
        | v hy =>
          cases hx with
          | @agg _ us hf1 hl1 hr1 =>
            cases hy with
            | @agg _ vs hf2 hl2 hr2 =>
              obtain ⟨hll, hlx, hly⟩ := eqCells_lits hr
              obtain ⟨hrun, hg⟩ := ok.eqt t _ ht xs ys us vs r w hr rfl hlen hl1.symm hl2.symm (lits_of_rep hlx hr1) (lits_of_rep hly hr2)
              have hguard : (eqGuard op t xo yo (.agg us.toArray) (.agg vs.toArray)).run P w = .ok () w := by
                cases op <;> first | rfl | simp [eqGuard, hg]
              split at hgo2
              · obtain ⟨e, rfl⟩ := go_ret hgo2
                cases e
                refine .same h ?_ (rep_lit rfl)
                rw [Sem.run_bind, hguard, Result.andThen_ok]
                simp [binOp, hrun]
              · obtain ⟨e, rfl⟩ := go_ret hgo2
                cases e
                refine .same h ?_ (rep_lit rfl)
                rw [Sem.run_bind, hguard, Result.andThen_ok]
                simp [binOp, hrun]
              · exact (go_fail hgo2).elim
    · exact (go_fail hgo).elim
  · split at hgo
    · rename_i hu
      have ft := ok.fact t (by rw [hu]; exact fun e => by cases e)
      cases hx with
      | clo hl hr =>
        obtain ⟨rfl, _⟩ := lit_val hy
        exact sound_nilRes h hgo (equalIn_func 9999 ft hu w) (by cases op <;> rfl) fun hop => by rcases hop with rfl | rfl <;> rfl
    · exact (go_fail hgo).elim
  · split at hgo
    · rename_i hu
      have ft := ok.fact t (by rw [hu]; exact fun e => by cases e)
      cases hx
      cases hy
      exact sound_nilRes h hgo (equalIn_slNil 9999 ft hu w) (by cases op <;> rfl) fun hop => by rcases hop with rfl | rfl <;> rfl
    · exact (go_fail hgo).elim
  · split at hgo
    · rename_i hu
      have ft := ok.fact t (by rw [hu]; exact fun e => by cases e)
      cases hx
      cases hy
      exact sound_nilRes h hgo (equalIn_slSome 9999 ft hu w) (by cases op <;> rfl) fun hop => by rcases hop with rfl | rfl <;> rfl
    · exact (go_fail hgo).elim
  · exact (go_fail hgo).elim

theorem run_litUn {op : UnOp} {x v : Value} (h : litUn op x = some v) (w : World) : (Op.unary op x).run P w = .ok v w ∧ scal v = true := by
  unfold litUn at h
  split at h
  · cases h; exact ⟨rfl, rfl⟩
  · simp only [bitI, Option.some.injEq] at h; subst h; exact ⟨rfl, rfl⟩
  · cases h; exact ⟨rfl, rfl⟩
  · cases h

end
end Go.Dv

namespace Go.Dv
open Go

section
variable {P : Program} {L : Lite} {c : Ctx} {G : Gh} {ρ : St} {a : Act} {w : World}

/-- An operation of one value or of none ends as the evaluator says. -/
def DoneN (P : Program) (c : Ctx) (G : Gh) (ρ : St) (a : Act) (s : Sem Next) (w : World) (x : X) (H' : Nat → Ob) : Prop :=
  ∃ v w' G', (s.run P w = .ok (.value v) w' ∨ (s.run P w = .ok .skip w' ∧ v = undef)) ∧ G'.lam = G.lam ∧ Inv c G' { ρ with ob := H' } a w' ∧ RepX G' H' x v

theorem DoneV.next {s : Sem Value} {x : X} {H' : Nat → Ob} (h : DoneV P c G ρ a s w x H') : DoneN P c G ρ a (do pure (.value (← s))) w x H' := by
  obtain ⟨v, w', G', h1, h2, h3, h4⟩ := h
  exact ⟨v, w', G', .inl (by simp [h1]), h2, h3, h4⟩

theorem DoneU.next {s : Sem Unit} {H' : Nat → Ob} (h : DoneU P c G ρ a s w H') : DoneN P c G ρ a (do s; pure .skip) w .undef H' := by
  obtain ⟨w', G', h1, h2, h3⟩ := h
  exact ⟨undef, w', G', .inr ⟨by simp [h1], rfl⟩, h2, h3, .undef _⟩

theorem DoneN.here (h : Inv c G ρ a w) {s : Sem Next} {v : Value} {x : X} (hs : s.run P w = .ok (.value v) w) (hx : RepX G ρ.ob x v) : DoneN P c G ρ a s w x ρ.ob :=
  ⟨v, w, G, .inl hs, rfl, h, hx⟩

theorem opds_rep (h : Inv c G ρ a w) (xs : List Operand) : ∀ (j : Nat) (x : X) (u : Value), (xs.map ρ.opd)[j]? = some x → (xs.map a.eval)[j]? = some u → RepX G ρ.ob x u := by
  intro j x u hx hu
  rw [List.getElem?_map] at hx hu
  cases hj : xs[j]? with
  | none => rw [hj] at hx; cases hx
  | some o =>
    rw [hj] at hx hu
    simp only [Option.map_some, Option.some.injEq] at hx hu
    subst hx; subst hu
    exact opd_rep h o

theorem ptr_addr {H : Nat → Ob} {s g off : Nat} {u : Value} (h : RepX G H (.addr s g off) u) : ∃ ad, u = .pointer (some ad) := by cases h; exact ⟨_, rfl⟩
theorem ptr_elt {H : Nat → Ob} {s g i off : Nat} {u : Value} (h : RepX G H (.elt s g i off) u) : ∃ ad, u = .pointer (some ad) := by cases h; exact ⟨_, rfl⟩
theorem ptr_ro {H : Nat → Ob} {cs : List V} {u : Value} (h : RepX G H (.ro cs) u) : ∃ ad, u = .pointer (some ad) := by cases h; exact ⟨_, rfl⟩

/-- An operation that calls no function of Go's. -/
def plainOp : Op → Bool
  | .call { callee := .builtin _, .. } => true
  | .call _ => false
  | .panic _ => false
  | _ => true

theorem equalIn_nil (d : Nat) {t : TypeId} (f : Fact P L t) {ms : Array (String × TypeId)} (hu : (L.ti t).und = .interface ms) (w : World) : (Op.equalIn (d + 1) t .nilIface .nilIface).run P w = .ok true w := by
  unfold Op.equalIn
  simp only [Sem.run_bind, run_underlying' f, Result.andThen_ok, hu, Sem.run_pure]
theorem equalIn_iface (d : Nat) {t : TypeId} (f : Fact P L t) {ms : Array (String × TypeId)} (hu : (L.ti t).und = .interface ms) (t' : TypeId) (v : Value) (w : World) : (Op.equalIn (d + 1) t (.iface t' v) .nilIface).run P w = .ok false w := by
  unfold Op.equalIn
  simp only [Sem.run_bind, run_underlying' f, Result.andThen_ok, hu, Sem.run_pure]

theorem sound_nil (ok : LiteOk P L) (h : Inv c G ρ a w) {op : BinOp} {t : TypeId} {xo : Operand} {x z : X} {u yv : Value} {H' : Nat → Ob} (hx : RepX G ρ.ob x u) (hy : yv = .nilIface)
    (hgo : (actNil L op t x).go ρ.ob (.val z) H') : DoneV P c G ρ a (do eqGuard op t xo (.const .nilIface) u yv; binOp op t u yv) w z H' := by
  subst hy
  unfold actNil at hgo
  split at hgo
  · rename_i ms hu
    have ft := ok.fact t (by rw [hu]; exact fun e => by cases e)
    obtain ⟨rfl, _⟩ := lit_val hx
    have he : (Op.equal t .nilIface .nilIface).run P w = .ok true w := equalIn_nil 9999 ft hu w
    have hg : ∀ {op : BinOp}, (eqGuard op t xo (.const .nilIface) .nilIface .nilIface).run P w = .ok () w := by
      intro op; cases op <;> cases xo <;> rfl
    split at hgo
    · obtain ⟨e, rfl⟩ := go_ret hgo
      cases e
      refine .same h ?_ (rep_lit rfl)
      rw [Sem.run_bind, hg, Result.andThen_ok]
      simp only [binOp, Sem.run_bind, he, Result.andThen_ok, Sem.run_pure]
      try rfl
    · obtain ⟨e, rfl⟩ := go_ret hgo
      cases e
      refine .same h ?_ (rep_lit rfl)
      rw [Sem.run_bind, hg, Result.andThen_ok]
      simp only [binOp, Sem.run_bind, he, Result.andThen_ok, Sem.run_pure]
      try rfl
    · exact (go_fail hgo).elim
  · rename_i ms t' v hu
    have ft := ok.fact t (by rw [hu]; exact fun e => by cases e)
    obtain ⟨rfl, _⟩ := lit_val hx
    have he : (Op.equal t (.iface t' v) .nilIface).run P w = .ok false w := equalIn_iface 9999 ft hu t' v w
    have hg : ∀ {op : BinOp}, (eqGuard op t xo (.const .nilIface) (.iface t' v) .nilIface).run P w = .ok () w := by
      intro op; cases op <;> cases xo <;> rfl
    split at hgo
    · obtain ⟨e, rfl⟩ := go_ret hgo
      cases e
      refine .same h ?_ (rep_lit rfl)
      rw [Sem.run_bind, hg, Result.andThen_ok]
      simp only [binOp, Sem.run_bind, he, Result.andThen_ok, Sem.run_pure]
      try rfl
    · obtain ⟨e, rfl⟩ := go_ret hgo
      cases e
      refine .same h ?_ (rep_lit rfl)
      rw [Sem.run_bind, hg, Result.andThen_ok]
      simp only [binOp, Sem.run_bind, he, Result.andThen_ok, Sem.run_pure]
      try rfl
    · exact (go_fail hgo).elim
  · exact (go_fail hgo).elim

theorem sound_assert (ok : LiteOk P L) (h : Inv c G ρ a w) {t xt : TypeId} {commaOk : Bool} {x z : X} {u : Value} {H' : Nat → Ob} (hx : RepX G ρ.ob x u)
    (hgo : (actAssert L t commaOk x).go ρ.ob (.val z) H') : DoneV P c G ρ a (Instr.typeAssert u xt t commaOk) w z H' := by
  unfold actAssert at hgo
  split at hgo
  · rename_i k' u' k n hu
    have ft := ok.fact t (by rw [hu]; exact fun e => by cases e)
    obtain ⟨rfl, _⟩ := lit_val hx
    split at hgo
    · rename_i he
      subst he
      obtain ⟨e, rfl⟩ := go_ret hgo
      cases e
      refine .same h ?_ (rep_lit rfl)
      simp [Instr.typeAssert, run_underlying' ft, hu]
    · exact (go_fail hgo).elim
  · exact (go_fail hgo).elim

theorem sound_act (ok : LiteOk P L) {call : Call1} (h : Inv c G ρ a w) {o : Oper} {x : X} {H' : Nat → Ob} (hp : plainOp o.op = true)
    (hgo : (act L call (siteOf o.dst ρ.n) o ρ.opd).go ρ.ob (.val x) H') : DoneN P c G ρ a (execOp a.eval o) w x H' := by
  have hd : ∀ s, siteOf o.dst ρ.n = some s → s < ρ.n := fun s hs => siteLt hs
  unfold act at hgo
  split at hgo
  · rename_i y hop
    obtain ⟨e, rfl⟩ := go_ret hgo
    cases e
    exact .here h (v := a.eval y) (by simp [execOp, hop]) (retype_rep (opd_rep h y))
  · rename_i y hop
    obtain ⟨e, rfl⟩ := go_ret hgo
    cases e
    exact .here h (v := a.eval y) (by simp [execOp, hop]) (retype_rep (opd_rep h y))
  · rename_i cc p q hop
    split at hgo
    · rename_i b hb
      obtain ⟨e, rfl⟩ := go_ret hgo
      cases e
      have hc := opd_rep h cc
      rw [hb] at hc
      obtain ⟨hc, _⟩ := lit_val hc
      refine .here h (v := if b then a.eval p else a.eval q) (by simp [execOp, hop, hc, asBool]) ?_
      cases b
      · exact opd_rep h q
      · exact opd_rep h p
    · exact (go_fail hgo).elim
  · rename_i t hop
    have := (sound_alloc (P := P) ok h hd hgo).next
    simpa [execOp, hop] using this
  · rename_i t y hop
    have := (sound_box (P := P) h hd (opd_rep h y) hgo).next
    simpa [execOp, hop] using this
  · rename_i t ps hop
    have hus : ps.map (fun p => (p.1, a.eval p.2)) = ((ps.toList.map fun p => (p.1, a.eval p.2))).toArray := by apply Array.ext'; simp
    have := (sound_build (P := P) (ps := ps.toList.map fun p => (p.1, ρ.opd p.2)) (us := ps.toList.map fun p => (p.1, a.eval p.2)) ok h (by simp [Function.comp_def]) (fun j x u hx hu => by
      have h1 := opds_rep h (ps.toList.map (·.2)) j x u
      rw [List.map_map] at hx hu h1
      rw [List.map_map] at h1
      exact h1 hx hu) hgo).next
    rw [← hus] at this
    simpa [execOp, hop] using this
  · rename_i t n ps hop
    have hus : ps.map (fun p => (p.1, a.eval p.2)) = ((ps.toList.map fun p => (p.1, a.eval p.2))).toArray := by apply Array.ext'; simp
    have := (sound_buildSlice (P := P) (ps := ps.toList.map fun p => (p.1, ρ.opd p.2)) (us := ps.toList.map fun p => (p.1, a.eval p.2)) ok h hd (by simp [Function.comp_def]) (fun j x u hx hu => by
      have h1 := opds_rep h (ps.toList.map (·.2)) j x u
      rw [List.map_map] at hx hu h1
      rw [List.map_map] at h1
      exact h1 hx hu) hgo).next
    rw [← hus] at this
    simpa [execOp, hop] using this
  · rename_i t y hop
    have := (sound_load (P := P) ok h (opd_rep h y) hgo).next
    simpa [execOp, hop] using this
  · rename_i t y z hop
    obtain ⟨h1, rfl⟩ := sound_store (P := P) ok h (opd_rep h y) (opd_rep h z) hgo
    have := h1.next
    simpa [execOp, hop] using this
  · rename_i y hop
    have hy := opd_rep h y
    have fin : ∀ z : X, ρ.opd y = z → (∃ ad, a.eval y = .pointer (some ad)) → (Dv.ok z).go ρ.ob (.val x) H' → DoneN P c G ρ a (execOp a.eval o) w x H' := by
      intro z hz hu hgo
      obtain ⟨ad, hu⟩ := hu
      obtain ⟨e, rfl⟩ := go_ret hgo
      cases e
      refine .here h (v := a.eval y) ?_ (hz ▸ hy)
      simp [execOp, hop, hu]
    split at hgo
    · rename_i s g off he
      exact fin _ he (ptr_addr (he ▸ hy)) hgo
    · rename_i s g i off he
      exact fin _ he (ptr_elt (he ▸ hy)) hgo
    · rename_i cs he
      exact fin _ he (ptr_ro (he ▸ hy)) hgo
    · exact (go_fail hgo).elim
  · rename_i op t y z yt hop
    split at hgo
    · rename_i hn
      obtain rfl : z = .const .nilIface := by
        unfold isNilC at hn
        split at hn
        · rfl
        · cases hn
      have := (sound_nil (P := P) (xo := y) (yv := .nilIface) ok h (opd_rep h y) rfl hgo).next
      simpa [execOp, hop, show a.eval (.const .nilIface) = .nilIface from rfl] using this
    · have := (sound_bin (P := P) (xo := y) (yo := z) ok h (opd_rep h y) (opd_rep h z) hgo).next
      simpa [execOp, hop] using this
  · rename_i y xt t commaOk hop
    have := (sound_assert (P := P) (xt := xt) ok h (opd_rep h y) hgo).next
    simpa [execOp, hop] using this
  · rename_i op t y hop
    split at hgo
    · rename_i v hv
      obtain ⟨r, hr, hgo2⟩ := go_ov hgo
      obtain ⟨e, rfl⟩ := go_ret hgo2
      cases e
      have hy := opd_rep h y
      rw [hv] at hy
      obtain ⟨hy, _⟩ := lit_val hy
      obtain ⟨h1, h2⟩ := run_litUn (P := P) hr w
      refine .here h (v := r) ?_ (rep_lit h2)
      simp [execOp, hop, hy, h1]
    · exact (go_fail hgo).elim
  · rename_i src dst y hop
    have := (sound_convert (P := P) ok h (opd_rep h y) hgo).next
    simpa [execOp, hop] using this
  · rename_i t y z hop
    have := (sound_make (P := P) ok h hd (opd_rep h y) (opd_rep h z) hgo).next
    simpa [execOp, hop] using this
  · rename_i t hint hop
    have := (sound_makeMap (P := P) (hu := hint.map a.eval) ok h hd (by simp) hgo).next
    simpa [execOp, hop] using this
  · rename_i t y i b hop
    have := (sound_lookup (P := P) ok h (opd_rep h y) (opd_rep h i) hgo).next
    simpa [execOp, hop] using this
  · rename_i t y i z hop
    obtain ⟨h1, rfl⟩ := sound_mapUpdate (P := P) ok h (opd_rep h y) (opd_rep h i) (opd_rep h z) hgo
    have := h1.next
    simpa [execOp, hop] using this
  · rename_i t y lo hi hop
    have := (sound_slice (P := P) (lu := lo.map a.eval) (hu := hi.map a.eval) ok h (opd_rep h y) (by simp) (by simp) (fun x u hx hu => by
      cases lo with
      | none => cases hx
      | some l => cases hx; cases hu; exact opd_rep h l) (fun x u hx hu => by
      cases hi with
      | none => cases hx
      | some l => cases hx; cases hu; exact opd_rep h l) hgo).next
    simpa [execOp, hop] using this
  · rename_i t y f hop
    have := (sound_fieldAddr (P := P) ok h (opd_rep h y) hgo).next
    simpa [execOp, hop] using this
  · rename_i t y f hop
    have := (sound_field (P := P) ok h (opd_rep h y) hgo).next
    simpa [execOp, hop] using this
  · rename_i t y i hop
    have := (sound_indexAddr (P := P) ok h (opd_rep h y) (opd_rep h i) hgo).next
    simpa [execOp, hop] using this
  · rename_i t y i hop
    have := (sound_index (P := P) ok h (opd_rep h y) (opd_rep h i) hgo).next
    simpa [execOp, hop] using this
  · rename_i y i hop
    have hy := opd_rep h y
    split at hgo
    · rename_i xs he
      obtain ⟨r, hr, hgo2⟩ := go_ov hgo
      obtain ⟨e, rfl⟩ := go_ret hgo2
      cases e
      rw [he] at hy
      generalize hu : a.eval y = u at hy
      cases hy with
      | @tup _ vs hl hh =>
        have hil : i < vs.length := by have := (List.getElem?_eq_some_iff.1 hr).1; omega
        refine .here h (v := vs[i]) ?_ (hh i _ _ hr (List.getElem?_eq_getElem hil))
        simp [execOp, hop, hu, Instr.extract, hil]
    · exact (go_fail hgo).elim
  · rename_i f first caps hop
    split at hgo
    · rename_i he
      obtain ⟨e, rfl⟩ := go_ret hgo
      cases e
      have hfe : first = #[] := by simpa using he
      refine .here h (v := .func (.func f) #[] (caps.toList.map a.eval).toArray) ?_ (.clo (by simp) (opds_rep h caps.toList))
      simp [execOp, hop, hfe, Instr.makeFunc]
      apply Array.ext'; simp
    · exact (go_fail hgo).elim
  · rename_i t y hop
    have hy := opd_rep h y
    split at hgo
    · rename_i k v hk hv
      obtain ⟨e, rfl⟩ := go_ret hgo
      cases e
      have hvv : ρ.opd y = .v (.lit v) := by assumption
      have hu : (L.ti t).und = .int k := by assumption
      rw [hvv] at hy
      obtain ⟨hy, _⟩ := lit_val hy
      have ft := ok.fact t (by rw [hu]; exact fun e => by cases e)
      refine .here h (v := .iface t v) ?_ (rep_lit rfl)
      simp [execOp, hop, hy, Instr.makeInterface, run_underlying' ft, hu]
    · exact (go_fail hgo).elim
  · rename_i y hop
    simp [hop, plainOp] at hp
  · rename_i b args argTypes hop
    have hargs : args.map a.eval = (args.toList.map a.eval).toArray := by apply Array.ext'; simp
    have hrep := opds_rep h args.toList
    have lift : ∀ (s : Sem Value) (b' : Builtin), b = b' → (∀ (ts : Array TypeId) (ty : TypeId) (cs : Array Bool) (us : Array Value), True) → DoneV P c G ρ a s w x H' →
        (∀ cs : Array Bool, builtin b argTypes o.type cs (args.map a.eval) = (do pure (.value (← s)))) → DoneN P c G ρ a (execOp a.eval o) w x H' := by
      intro s b' _ _ hs hb
      have := hs.next
      have he : execOp a.eval o = (do pure (.value (← s))) := by
        simp only [execOp, hop, resolve, pure_bind, invoke, hb]
      rw [he]; exact this
    unfold actBuiltin at hgo
    split at hgo
    · rename_i y hy
      obtain ⟨y', hy'⟩ : ∃ y', args.toList = [y'] := by
        cases hl : args.toList with
        | nil => rw [hl] at hy; cases hy
        | cons p r => cases r with
          | nil => exact ⟨p, rfl⟩
          | cons q r => rw [hl] at hy; simp at hy
      rw [hy'] at hy hargs
      simp at hy
      subst hy
      exact lift _ .len rfl (fun _ _ _ _ => trivial) (sound_len (P := P) (ty := o.type) ok h (opd_rep h y') hgo) (fun cs => by rw [hargs]; rfl)
    · rename_i y z hy
      obtain ⟨y', z', hy'⟩ : ∃ y' z', args.toList = [y', z'] := by
        cases hl : args.toList with
        | nil => rw [hl] at hy; cases hy
        | cons p r => cases r with
          | nil => rw [hl] at hy; simp at hy
          | cons q r => cases r with
            | nil => exact ⟨p, q, rfl⟩
            | cons q' r => rw [hl] at hy; simp at hy
      rw [hy'] at hy hargs
      simp at hy
      obtain ⟨rfl, rfl⟩ := hy
      exact lift _ .append rfl (fun _ _ _ _ => trivial) (sound_append (P := P) (ty := o.type) ok h hd (opd_rep h y') (opd_rep h z') hgo) (fun cs => by rw [hargs]; rfl)
    · rename_i y z hy
      obtain ⟨y', z', hy'⟩ : ∃ y' z', args.toList = [y', z'] := by
        cases hl : args.toList with
        | nil => rw [hl] at hy; cases hy
        | cons p r => cases r with
          | nil => rw [hl] at hy; simp at hy
          | cons q r => cases r with
            | nil => exact ⟨p, q, rfl⟩
            | cons q' r => rw [hl] at hy; simp at hy
      rw [hy'] at hy hargs
      simp at hy
      obtain ⟨rfl, rfl⟩ := hy
      exact lift _ .copy rfl (fun _ _ _ _ => trivial) (sound_copy (P := P) (ty := o.type) ok h (opd_rep h y') (opd_rep h z') hgo) (fun cs => by rw [hargs]; rfl)
    · exact lift _ .min rfl (fun _ _ _ _ => trivial) (sound_mm (P := P) (mx := false) (ts := argTypes) (ty := o.type) h (by simp) hrep hgo) (fun cs => by rw [hargs]; rfl)
    · exact lift _ .max rfl (fun _ _ _ _ => trivial) (sound_mm (P := P) (mx := true) (ts := argTypes) (ty := o.type) h (by simp) hrep hgo) (fun cs => by rw [hargs]; rfl)
    · exact (go_fail hgo).elim
  · rename_i f args _ hop
    simp [hop, plainOp] at hp
  · exact (go_fail hgo).elim

end
end Go.Dv

namespace Go.Dv
open Go

/-- The boxes that a callee was handed, as its own objects. -/
def ioOb (n : Nat) (cs : List (List V)) : Nat → Ob := fun s =>
  if n ≤ s then (match cs[s - n]? with | some c => .box 0 (c.map X.v) | none => .none 0) else .none 0

def ioGh (n : Nat) (mu lam : Mem) (bs : List Nat) : Gh := { mu, lam, m := fun s => if n ≤ s then bs[s - n]? else none, cap := fun _ => 0 }

structure BoxAt (mu : Mem) (w : World) (b : Nat) (c : List V) : Prop where
  lt : b < w.heap.size
  flat : ∀ y ∈ c, y.flat = true
  frozen : ∀ o, o < c.length → w.frozen? ⟨b, o, none⟩ = false
  cell : ∀ (o : Nat) (y : V), c[o]? = some y → ∃ u, w.cell? ⟨b, o, none⟩ = some u ∧ RepV mu y u

/-- The world in which a call begins. -/
structure Entry (gm mu lam : Mem) (bs : List Nat) (cs : List (List V)) (w : World) : Prop where
  hmu : ∀ b o v, mu b o = some v → w.cell? ⟨b, o, none⟩ = some v
  hlam : ∀ b o v, lam b o = some v → w.cell? ⟨b, o, none⟩ = some v
  len : bs.length = cs.length
  nodup : bs.Nodup
  box : ∀ (j b : Nat) (c : List V), bs[j]? = some b → cs[j]? = some c → BoxAt mu w b c
  apart : ∀ b ∈ bs, ∀ o, mu b o = none ∧ lam b o = none
  hgm : ∀ b o v, gm b o = some v → mu b o = some v

/-- What a call leaves. -/
structure Left (mu : Mem) (bs : List Nat) (cs' : List (List V)) (w w' : World) (mu' : Mem) : Prop where
  base : Base w.heap.size bs w w'
  keep : ∀ b o v, mu b o = some v → mu' b o = some v
  new : ∀ b o v, mu' b o = some v → mu b o = some v ∨ w.heap.size ≤ b
  hmu : ∀ b o v, mu' b o = some v → w'.cell? ⟨b, o, none⟩ = some v
  len : bs.length = cs'.length
  box : ∀ (j b : Nat) (c : List V), bs[j]? = some b → cs'[j]? = some c → BoxAt mu' w' b c

def tupV : List Value → Value
  | [u] => u
  | us => .tuple us.toArray

def EndRep (res : Res) (mu : Mem) (e : Ending) : Prop :=
  match res with
  | .ret vs => ∃ us : List Value, RepL mu vs us ∧ e = .returned (tupV us)
  | .pan v => ∃ u, RepV mu v u ∧ e = .panicked [{ v := u, recovered := false }]

/-- What calls answer, they answer. -/
def CallOk (P : Program) (L : Lite) (call : Call1) : Prop :=
  ∀ f fn args cs res cs', L.fn.getD f .none = some fn → call f args cs = some (res, cs') → ∀ (w : World) (mu lam : Mem) (bs : List Nat) (us : List Value), Entry L.gm mu lam bs cs w → args.length = us.length →
    (∀ (j : Nat) (x : X) (u : Value), args[j]? = some x → us[j]? = some u → RepX (ioGh fn.ntmps mu lam bs) (ioOb fn.ntmps cs) x u) →
    Calls P f us.toArray w fun e w' => ∃ mu', Left mu bs cs' w w' mu' ∧ EndRep res mu' e

section
variable {P : Program} {L : Lite} {c : Ctx} {G : Gh} {ρ : St} {a : Act} {w : World}

/-- Cells of own rows. -/
def rowCell (G : Gh) (H : Nat → Ob) (b o : Nat) : Prop := ∃ s g mt z es, H s = .row g mt z es ∧ G.m s = some b ∧ o < es.length * z

def ArgRep (G : Gh) (H : Nat → Ob) (w : World) (n : Nat) (ss : List Nat) : X → Value → Prop
  | .v y, u => RepV G.mu y u
  | .lent z es, u => RepSl (fun b o v => G.nu b o v ∨ (w.cell? ⟨b, o, none⟩ = some v ∧ rowCell G H b o)) G.mu z es u
  | .clo f [], u => u = .func (.func f) #[] #[]
  | .addr k 0 0, u => ∃ s b, n ≤ k ∧ ss[k - n]? = some s ∧ G.m s = some b ∧ u = .pointer (some ⟨b, 0, none⟩)
  | _, _ => False

def BoxOf (H : Nat → Ob) (s : Nat) (ys : List V) : Prop := ∃ g xs, H s = .box g xs ∧ xvs xs = some ys

theorem sound_frzOwn {α : Type} : ∀ (xs : List X) (us : List Value) {G : Gh} {ρ : St} (h : Inv c G ρ a w) {k : List X → Ef α} {o : α} {H' : Nat → Ob}, xs.length = us.length →
    (∀ (j : Nat) (x : X) (u : Value), xs[j]? = some x → us[j]? = some u → RepX G ρ.ob x u) → (frzOwn xs k).go ρ.ob o H' →
    ∃ ys G' H1, G'.lam = G.lam ∧ Inv c G' { ρ with ob := H1 } a w ∧ Later G ρ.ob G' H1 ∧ ys.length = us.length ∧ (∀ (j : Nat) (y : X) (u : Value), ys[j]? = some y → us[j]? = some u → RepX G' H1 y u) ∧ (k ys).go H1 o H'
  | [], us, G, ρ, h, k, o, H', hl, hx, hgo => by
    cases us with
    | nil => exact ⟨[], G, ρ.ob, rfl, h, .refl _ _, rfl, fun j y u hj => by simp at hj, hgo⟩
    | cons => simp at hl
  | x :: r, us, G, ρ, h, k, o, H', hl, hx, hgo => by
    cases us with
    | nil => simp at hl
    | cons u us =>
      unfold frzOwn at hgo
      have keep : (frzOwn r fun xs => k (x :: xs)).go ρ.ob o H' → ∃ ys G' H1, G'.lam = G.lam ∧ Inv c G' { ρ with ob := H1 } a w ∧ Later G ρ.ob G' H1 ∧ ys.length = (u :: us).length ∧
          (∀ (j : Nat) (y : X) (u' : Value), ys[j]? = some y → (u :: us)[j]? = some u' → RepX G' H1 y u') ∧ (k ys).go H1 o H' := by
        intro hgo
        obtain ⟨ys, G2, H2, l2, i2, la2, hl2, r2, g2⟩ := sound_frzOwn r us h (by simpa using hl) (fun j x' u' hj hu => hx (j + 1) x' u' (by simpa using hj) (by simpa using hu)) hgo
        refine ⟨x :: ys, G2, H2, l2, i2, la2, by simp [hl2], fun j y' u' hj hu => ?_, g2⟩
        cases j with
        | zero => simp at hj hu; subst hj; subst hu; exact (hx 0 x u rfl rfl).later la2
        | succ j => simp at hj hu; exact r2 j y' u' hj hu
      split at hgo
      · obtain ⟨y, G1, H1, l1, i1, la1, r1, g1⟩ := sound_frz h (hx 0 _ u rfl rfl) hgo
        obtain ⟨ys, G2, H2, l2, i2, la2, hl2, r2, g2⟩ := sound_frzOwn r us (ρ := { ρ with ob := H1 }) i1 (by simpa using hl)
          (fun j x' u' hj hu => (hx (j + 1) x' u' (by simpa using hj) (by simpa using hu)).later la1) g1
        refine ⟨.v y :: ys, G2, H2, l2.trans l1, i2, la1.trans la2, by simp [hl2], fun j y' u' hj hu => ?_, g2⟩
        cases j with
        | zero => simp at hj hu; subst hj; subst hu; exact .v (r1.mono la2.mu)
        | succ j => simp at hj hu; exact r2 j y' u' hj hu
      · exact keep hgo

theorem sound_hand {α : Type} (n : Nat) (h : Inv c G ρ a w) : ∀ (xs : List X) (us : List Value) (ss : List Nat) (cs : List (List V)) {k : List X → List Nat → List (List V) → Ef α} {o : α} {H' : Nat → Ob}, xs.length = us.length →
    (∀ (j : Nat) (x : X) (u : Value), xs[j]? = some x → us[j]? = some u → RepX G ρ.ob x u) → ss.length = cs.length → ss.Nodup →
    (∀ (j s : Nat) (ys : List V), ss[j]? = some s → cs[j]? = some ys → BoxOf ρ.ob s ys) → (hand n xs ss cs k).go ρ.ob o H' →
    ∃ as ss' cs', (k as ss' cs').go ρ.ob o H' ∧ as.length = us.length ∧ (∃ more, ss' = ss ++ more) ∧ ss'.length = cs'.length ∧ ss'.Nodup ∧
      (∀ (j s : Nat) (ys : List V), ss'[j]? = some s → cs'[j]? = some ys → BoxOf ρ.ob s ys) ∧ ∀ (j : Nat) (x : X) (u : Value), as[j]? = some x → us[j]? = some u → ArgRep G ρ.ob w n ss' x u
  | [], us, ss, cs, k, o, H', hl, hx, hsc, hnd, hbox, hgo => by
    cases us with
    | nil => exact ⟨[], ss, cs, hgo, rfl, ⟨[], by simp⟩, hsc, hnd, hbox, fun j x u hj => by simp at hj⟩
    | cons => simp at hl
  | x :: r, us, ss, cs, k, o, H', hl, hx, hsc, hnd, hbox, hgo => by
    cases us with
    | nil => simp at hl
    | cons u us =>
      have hr := hx 0 x u rfl rfl
      have tail := fun (j : Nat) (x' : X) (u' : Value) (hj : r[j]? = some x') (hu : us[j]? = some u') => hx (j + 1) x' u' (by simpa using hj) (by simpa using hu)
      have join : ∀ (ss1 : List Nat) (cs1 : List (List V)) (y : X), (∃ more, ss1 = ss ++ more) → ss1.length = cs1.length → ss1.Nodup →
          (∀ (j s : Nat) (ys : List V), ss1[j]? = some s → cs1[j]? = some ys → BoxOf ρ.ob s ys) → (∀ more, ArgRep G ρ.ob w n (ss1 ++ more) y u) →
          (hand n r ss1 cs1 fun as ss' cs' => k (y :: as) ss' cs').go ρ.ob o H' →
          ∃ as ss' cs', (k as ss' cs').go ρ.ob o H' ∧ as.length = (u :: us).length ∧ (∃ more, ss' = ss ++ more) ∧ ss'.length = cs'.length ∧ ss'.Nodup ∧
            (∀ (j s : Nat) (ys : List V), ss'[j]? = some s → cs'[j]? = some ys → BoxOf ρ.ob s ys) ∧ ∀ (j : Nat) (x : X) (u' : Value), as[j]? = some x → (u :: us)[j]? = some u' → ArgRep G ρ.ob w n ss' x u' := by
        intro ss1 cs1 y hmore h1 h2 h3 hy hg
        obtain ⟨as, ss', cs', g1, g2, ⟨m1, rfl⟩, g4, g5, g6, g7⟩ := sound_hand n h r us ss1 cs1 (by simpa using hl) tail h1 h2 h3 hg
        refine ⟨y :: as, ss1 ++ m1, cs', g1, by simp [g2], ?_, g4, g5, g6, fun j x u' hj hu => ?_⟩
        · obtain ⟨m0, rfl⟩ := hmore
          exact ⟨m0 ++ m1, by simp⟩
        · cases j with
          | zero => simp at hj hu; subst hj; subst hu; exact hy m1
          | succ j => simp at hj hu; exact g7 j x u' hj hu
      unfold hand at hgo
      split at hgo
      · rename_i y
        cases hr with
        | v hr => exact join ss cs (.v y) ⟨[], by simp⟩ hsc hnd hbox (fun _ => hr) hgo
      · rename_i z
        have := xv_rep (y := .sl z []) hr rfl
        exact join ss cs (.v (.sl z [])) ⟨[], by simp⟩ hsc hnd hbox (fun _ => this) hgo
      · rename_i z es
        cases hr with
        | lent hr => exact join ss cs (.lent z es) ⟨[], by simp⟩ hsc hnd hbox (fun _ => RepSl.mono (nu' := fun b o v => G.nu b o v ∨ (w.cell? ⟨b, o, none⟩ = some v ∧ rowCell G ρ.ob b o)) (fun b o v k => Or.inl k) (fun _ _ _ k => k) hr) hgo
      · rename_i f
        cases hr with
        | @clo _ _ cvs hcl _ =>
          have : cvs = [] := List.eq_nil_of_length_eq_zero (by simpa using hcl.symm)
          subst this
          exact join ss cs (.clo f []) ⟨[], by simp⟩ hsc hnd hbox (fun _ => rfl) hgo
      · rename_i s g lo m
        replace hgo := go_get hgo
        split at hgo
        · rename_i g' z es hs
          split at hgo
          · rename_i e; subst e
            exact join ss cs (.lent z ((es.drop lo).take m)) ⟨[], by simp⟩ hsc hnd hbox (fun _ => RepSl.mono (nu' := fun b o v => G.nu b o v ∨ (w.cell? ⟨b, o, none⟩ = some v ∧ rowCell G ρ.ob b o)) (fun b o v k => Or.inr ⟨k.1, s, g, true, z, es, hs, k.2⟩) (fun _ _ _ k => k) (own_reads h hs hr)) hgo
          · exact (go_fail hgo).elim
        · rename_i g' z es hs
          split at hgo
          · rename_i e; subst e
            exact join ss cs (.v (.sl z ((es.drop lo).take m))) ⟨[], by simp⟩ hsc hnd hbox (fun _ => own_sealed h hs hr) hgo
          · exact (go_fail hgo).elim
        · exact (go_fail hgo).elim
      · rename_i s g
        cases hr with
        | @addr _ _ _ ad hg hh =>
          replace hgo := go_get hgo
          split at hgo
          · rename_i g' xs hs
            split at hgo
            · rename_i hc
              obtain ⟨rfl, hns⟩ := hc
              obtain ⟨ys, hys, hgo2⟩ := go_ov hgo
              obtain ⟨b, hb, rfl⟩ := hh xs hs
              refine join (ss ++ [s]) (cs ++ [ys]) (.addr (n + ss.length) 0 0) ⟨[s], rfl⟩ (by simp [hsc]) ?_ ?_ ?_ hgo2
              · rw [List.nodup_append]
                refine ⟨hnd, by simp, fun p hp q hq => ?_⟩
                simp at hq
                exact fun e => hns (hq ▸ e ▸ hp)
              · intro j s' ys' hj hy
                rw [append_get] at hj hy
                rw [← hsc] at hy
                split at hj
                · rename_i hlt
                  rw [if_pos hlt] at hy
                  exact hbox j s' ys' hj hy
                · rename_i hlt
                  rw [if_neg hlt] at hy
                  cases hk : j - ss.length with
                  | zero => rw [hk] at hj hy; simp at hj hy; subst hj; subst hy; exact ⟨g, xs, hs, hys⟩
                  | succ k => rw [hk] at hj; simp at hj
              · intro more
                refine ⟨s, b, by omega, ?_, hb, rfl⟩
                rw [show n + ss.length - n = ss.length by omega]
                simp
            · exact (go_fail hgo).elim
          · exact (go_fail hgo).elim
      · exact (go_fail hgo).elim

theorem go_putAll {α : Type} : ∀ (ss : List Nat) (cs : List (List V)) {k : Ef α} {H H' : Nat → Ob} {o : α}, ss.Nodup → (putAll ss cs k).go H o H' →
    ss.length = cs.length ∧ ∃ H1, k.go H1 o H' ∧ (∀ s, s ∉ ss → H1 s = H s) ∧ ∀ (j s : Nat) (c : List V), ss[j]? = some s → cs[j]? = some c → ∃ g xs, H s = .box g xs ∧ H1 s = .box g (c.map X.v)
  | [], [], k, H, H', o, _, h => ⟨rfl, H, h, fun _ _ => rfl, fun j s c hj => by simp at hj⟩
  | [], _ :: _, k, H, H', o, _, h => (go_fail h).elim
  | _ :: _, [], k, H, H', o, _, h => (go_fail h).elim
  | s :: ss, c :: cs, k, H, H', o, hnd, h => by
    unfold putAll at h
    replace h := go_get h
    split at h
    · rename_i g xs hs
      replace h := go_put h
      obtain ⟨hns, hnd'⟩ := List.nodup_cons.1 hnd
      obtain ⟨hl, H1, h1, h2, h3⟩ := go_putAll ss cs hnd' h
      refine ⟨by simp [hl], H1, h1, fun t ht => ?_, fun j t c' hj hc => ?_⟩
      · simp at ht
        rw [h2 t ht.2, upd_ne _ _ ht.1]
      · cases j with
        | zero =>
          simp at hj hc; subst hj; subst hc
          exact ⟨g, xs, hs, by rw [h2 s hns, upd_same]⟩
        | succ j =>
          simp at hj hc
          obtain ⟨g', xs', h4, h5⟩ := h3 j t c' hj hc
          have hne : t ≠ s := fun e => hns (e ▸ List.mem_of_getElem? hj)
          rw [upd_ne _ _ hne] at h4
          exact ⟨g', xs', h4, h5⟩
    · exact (go_fail h).elim

end
end Go.Dv

namespace Go.Dv
open Go

section
variable {P : Program} {L : Lite} {c : Ctx} {G : Gh} {ρ : St} {a : Act} {w : World}

theorem mem_get {α : Type} {xs : List α} {x : α} (h : x ∈ xs) : ∃ j : Nat, xs[j]? = some x := List.mem_iff_getElem?.1 h

theorem Inv.afterCall (h : Inv c G ρ a w) {ss bs : List Nat} {cs' : List (List V)} {w' : World} {mu' : Mem} (hlen : bs.length = ss.length) (hb : ∀ (j s b : Nat), ss[j]? = some s → bs[j]? = some b → G.m s = some b)
    (hbox : ∀ s ∈ ss, ∃ g xs, ρ.ob s = .box g xs) (left : Left G.mu bs cs' w w' mu') {H' : Nat → Ob} (hout : ∀ s, s ∉ ss → H' s = ρ.ob s)
    (hin : ∀ (j s : Nat) (c : List V), ss[j]? = some s → cs'[j]? = some c → ∃ g xs, ρ.ob s = .box g xs ∧ H' s = .box g (c.map X.v)) :
    Inv c { G with mu := mu' } { ρ with ob := H' } a w' ∧ Later G ρ.ob { G with mu := mu' } H' := by
  have hinn : ∀ s, s ∈ ss → ∃ (j b : Nat) (c' : List V) (g : Nat) (xs : List X), ss[j]? = some s ∧ bs[j]? = some b ∧ cs'[j]? = some c' ∧ G.m s = some b ∧ ρ.ob s = .box g xs ∧ H' s = .box g (c'.map X.v) := by
    intro s hs
    obtain ⟨j, hj⟩ := mem_get hs
    have hjl := (List.getElem?_eq_some_iff.1 hj).1
    have hbj : bs[j]? = some (bs[j]'(by omega)) := List.getElem?_eq_getElem (by omega)
    have hcj : cs'[j]? = some (cs'[j]'(by have := left.len; omega)) := List.getElem?_eq_getElem (by have := left.len; omega)
    obtain ⟨g, xs, h1, h2⟩ := hin j s _ hj hcj
    exact ⟨j, _, _, g, xs, hj, hbj, hcj, hb j s _ hj hbj, h1, h2⟩
  have later : Later G ρ.ob { G with mu := mu' } H' := by
    refine ⟨left.keep, fun _ _ _ k => k, fun s => ?_, fun s g cs hs hg => ?_, fun s g mt z es hs hg => ?_, fun s g es hs hg => ?_⟩
    · by_cases e : s ∈ ss
      · obtain ⟨j, b, c', g, xs, _, _, _, _, h1, h2⟩ := hinn s e
        rw [h1, h2]; exact Nat.le_refl _
      · rw [hout s e]; exact Nat.le_refl _
    · by_cases e : s ∈ ss
      · obtain ⟨j, b, c', g', xs, _, _, _, _, h1, h2⟩ := hinn s e
        rw [h2] at hs; cases hs; exact ⟨⟨xs, h1⟩, rfl⟩
      · rw [hout s e] at hs; exact ⟨⟨cs, hs⟩, rfl⟩
    · by_cases e : s ∈ ss
      · obtain ⟨j, b, c', g', xs, _, _, _, _, h1, h2⟩ := hinn s e
        rw [h2] at hs; cases hs
      · rw [hout s e] at hs; exact ⟨⟨mt, es, hs, Nat.le_refl _⟩, rfl, rfl⟩
    · by_cases e : s ∈ ss
      · obtain ⟨j, b, c', g', xs, _, _, _, _, h1, h2⟩ := hinn s e
        rw [h2] at hs; cases hs
      · rw [hout s e] at hs; exact ⟨⟨es, hs⟩, rfl⟩
  have livesame : ∀ s, live (H' s) ↔ live (ρ.ob s) := by
    intro s
    by_cases e : s ∈ ss
    · obtain ⟨j, b, c', g', xs, _, _, _, _, h1, h2⟩ := hinn s e
      rw [h1, h2]; exact Iff.rfl
    · rw [hout s e]
  have outblk : ∀ s b, s ∉ ss → live (ρ.ob s) → G.m s = some b → w'.heap[b]? = w.heap[b]? := by
    intro s b hs hl hm
    refine left.base.block b (h.lt hl hm) fun hmem => ?_
    obtain ⟨j, hj⟩ := mem_get hmem
    have hjl := (List.getElem?_eq_some_iff.1 hj).1
    have hsj : ss[j]? = some (ss[j]'(by omega)) := List.getElem?_eq_getElem (by omega)
    have hm' := hb j _ b hsj hj
    obtain ⟨g, xs, hbx⟩ := hbox _ (List.mem_of_getElem? hsj)
    have := h.inj s _ b hl (by rw [hbx]; trivial) hm hm'
    exact hs (this ▸ List.mem_of_getElem? hsj)
  have munew : ∀ b o, b < w.heap.size → G.mu b o = none → mu' b o = none := by
    intro b o hlt hn
    cases k : mu' b o with
    | none => rfl
    | some v =>
      rcases left.new b o v k with h1 | h1
      · rw [hn] at h1; cases h1
      · omega
  refine ⟨⟨h.size, fun i => (h.slots i).later later, ?_, left.hmu, ?_, ?_, ?_, ?_, ?_, ?_, ?_, h.iom, ?_, Nat.le_trans h.cB left.base.size, fun b o v k => left.keep _ _ _ (h.mu0 b o v k), ?_, h.defers, fun x u hx => (h.kept x u hx).later later, fun k o hk => ?_, fun s b hl hm => h.restm s b ((livesame s).1 hl) hm⟩, later⟩
  · intro s
    by_cases e : s ∈ ss
    · obtain ⟨j, b, c', g', xs, hj, hbj, hcj, hm, h1, h2⟩ := hinn s e
      show RepOb { G with mu := mu' } H' w' s (H' s)
      rw [h2]
      have box := left.box j b c' hbj hcj
      refine ⟨b, hm, box.lt, fun x hx => ?_, fun o ho => box.frozen o (by simpa using ho), fun o x ho => ?_⟩
      · obtain ⟨y, hy, rfl⟩ := List.mem_map.1 hx
        have := box.flat y hy
        cases y <;> first | rfl | (simp [V.flat] at this)
      · rw [List.getElem?_map] at ho
        cases hy : c'[o]? with
        | none => rw [hy] at ho; cases ho
        | some y =>
          rw [hy] at ho
          simp only [Option.map_some, Option.some.injEq] at ho
          subst ho
          obtain ⟨u, hu, hr⟩ := box.cell o y hy
          exact ⟨u, hu, .v hr⟩
    · show RepOb { G with mu := mu' } H' w' s (H' s)
      rw [hout s e]
      cases hs : ρ.ob s with
      | none g => trivial
      | _ =>
        rw [← hs]
        exact (h.objs s).step later rfl rfl (fun b hm _ => outblk s b e (by rw [hs]; trivial) hm) left.base.size
  · intro b o v k
    have hc := h.hlam b o v k
    rw [cell_eq (left.base.block b (cell_lt hc) fun hmem => ?_) o]
    · exact hc
    · obtain ⟨j, hj⟩ := mem_get hmem
      have hjl := (List.getElem?_eq_some_iff.1 hj).1
      have hsj : ss[j]? = some (ss[j]'(by omega)) := List.getElem?_eq_getElem (by omega)
      obtain ⟨g, xs, hbx⟩ := hbox _ (List.mem_of_getElem? hsj)
      rw [h.sepl _ b o (by rw [hbx]; trivial) (hb j _ b hsj hj)] at k
      cases k
  · intro s s' b hl hl' hm hm'
    exact h.inj s s' b ((livesame s).1 hl) ((livesame s').1 hl') hm hm'
  · intro s b hl hm
    exact h.place s b ((livesame s).1 hl) hm
  · intro s b o hl hm
    exact h.sepl s b o ((livesame s).1 hl) hm
  · intro s g cs b o hs hm
    have hl : live (ρ.ob s) := (livesame s).1 (by show live (H' s); rw [show H' s = .box g cs from hs]; trivial)
    refine munew b o (h.lt hl hm) ?_
    by_cases e : s ∈ ss
    · obtain ⟨j, b', c', g', xs, _, _, _, _, h1, h2⟩ := hinn s e
      exact h.sepb s g' xs b o h1 hm
    · have hs' : H' s = .box g cs := hs
      rw [hout s e] at hs'
      exact h.sepb s g cs b o hs' hm
  · intro s g mt z es b o hs hm hx
    have hs' : H' s = .row g mt z es := hs
    have hl : live (ρ.ob s) := (livesame s).1 (by rw [hs']; trivial)
    refine munew b o (h.lt hl hm) ?_
    by_cases e : s ∈ ss
    · obtain ⟨j, b', c', g', xs, _, _, _, _, h1, h2⟩ := hinn s e
      rw [h2] at hs'; cases hs'
    · rw [hout s e] at hs'
      exact h.sepr s g mt z es b o hs' hm hx
  · intro s g mt z es hs
    have hs' : H' s = .row g mt z es := hs
    by_cases e : s ∈ ss
    · obtain ⟨j, b', c', g', xs, _, _, _, _, h1, h2⟩ := hinn s e
      rw [h2] at hs'; cases hs'
    · rw [hout s e] at hs'
      exact h.rown s g mt z es hs'
  · refine ⟨left.base.os.trans h.base.os, left.base.tape.trans h.base.tape, left.base.output.trans h.base.output, Nat.le_trans h.base.size left.base.size, fun k hk hk' => ?_⟩
    rw [left.base.block k (Nat.lt_of_lt_of_le hk h.cB) fun hmem => ?_]
    · exact h.base.block k hk hk'
    · obtain ⟨j, hj⟩ := mem_get hmem
      have hjl := (List.getElem?_eq_some_iff.1 hj).1
      have hsj : ss[j]? = some (ss[j]'(by omega)) := List.getElem?_eq_getElem (by omega)
      obtain ⟨g, xs, hbx⟩ := hbox _ (List.mem_of_getElem? hsj)
      rcases h.place _ k (by rw [hbx]; trivial) (hb j _ k hsj hj) with hp | ⟨_, hp⟩
      · omega
      · exact hk' hp
  · intro b o v k
    rcases left.new b o v k with h1 | h1
    · exact h.mu1 b o v h1
    · exact .inr (Nat.le_trans h.cB h1)
  · have hk' := h.rest k o hk
    refine (left.base.block k (Array.getElem?_eq_some_iff.1 hk').1 fun hmem => ?_).trans hk'
    obtain ⟨j, hj⟩ := mem_get hmem
    have hjl := (List.getElem?_eq_some_iff.1 hj).1
    have hsj : ss[j]? = some (ss[j]'(by omega)) := List.getElem?_eq_getElem (by omega)
    obtain ⟨g, xs, hbx⟩ := hbox _ (List.mem_of_getElem? hsj)
    rw [h.restm _ k (by rw [hbx]; trivial) (hb j _ k hsj hj)] at hk
    cases hk

/-- The world has grown. -/
theorem Inv.grown (h : Inv c G ρ a w) {w' : World} {mu' : Mem} (left : Left G.mu [] [] w w' mu') : Inv c { G with mu := mu' } ρ a w' ∧ Later G ρ.ob { G with mu := mu' } ρ.ob :=
  Inv.afterCall h (ss := []) (bs := []) (cs' := []) rfl (fun j s b hj => by simp at hj) (fun s hs => by simp at hs) left (H' := ρ.ob) (fun _ _ => rfl) (fun j s c hj => by simp at hj)

open Classical in
/-- What a callee may look at, beside the sealed memory: what was lent before, and the cells of own rows. -/
noncomputable def lentTo (G : Gh) (H : Nat → Ob) (w : World) : Mem := fun b o =>
  match G.lam b o with
  | some v => some v
  | none => if rowCell G H b o then w.cell? ⟨b, o, none⟩ else none

theorem lentTo_spec {H : Nat → Ob} {b o : Nat} {v : Value} (h : lentTo G H w b o = some v) : G.lam b o = some v ∨ (rowCell G H b o ∧ w.cell? ⟨b, o, none⟩ = some v) := by
  unfold lentTo at h
  split at h
  · rename_i k; cases h; exact .inl k
  · split at h
    · rename_i k; exact .inr ⟨k, h⟩
    · cases h

theorem callRes (vs : List V) (us : List Value) {H : Nat → Ob} (h : RepL G.mu vs us) : RepX G H (resX vs) (tupV us) := by
  have tup : RepX G H (.tup (vs.map X.v)) (.tuple us.toArray) := by
    refine .tup (by simpa using h.1) fun i x u hi hu => ?_
    rw [List.getElem?_map] at hi
    cases hy : vs[i]? with
    | none => rw [hy] at hi; cases hi
    | some y =>
      rw [hy] at hi
      simp only [Option.map_some, Option.some.injEq] at hi
      subst hi
      exact .v (h.2 i y u hy hu)
  match vs, us, h with
  | [], [], h => exact tup
  | [v], [u], h => exact .v (h.2 0 v u rfl rfl)
  | _ :: _ :: _, _ :: _ :: _, h => exact tup
  | [], _ :: _, h => simp [RepL] at h
  | _ :: _, [], h => simp [RepL] at h
  | [_], _ :: _ :: _, h => have := h.1; simp at this
  | _ :: _ :: _, [_], h => have := h.1; simp at this

/-- How a function is run, and what is asked of its end. -/
abbrev RunKind := FuncId → Array Value → World → (Ending → World → Prop) → Prop
/-- What calls answer, they answer, however they are run. -/
def CallOkR (Run : RunKind) (L : Lite) (call : Call1) : Prop :=
  ∀ f fn args cs res cs', L.fn.getD f .none = some fn → call f args cs = some (res, cs') → ∀ (w : World) (mu lam : Mem) (bs : List Nat) (us : List Value), Entry L.gm mu lam bs cs w → args.length = us.length →
    (∀ (j : Nat) (x : X) (u : Value), args[j]? = some x → us[j]? = some u → RepX (ioGh fn.ntmps mu lam bs) (ioOb fn.ntmps cs) x u) →
    Run f us.toArray w fun e w' => ∃ mu', Left mu bs cs' w w' mu' ∧ EndRep res mu' e

theorem sound_callR {Run : RunKind} (mono : ∀ f xs w (Q Q' : Ending → World → Prop), Run f xs w Q → (∀ e w', Q e w' → Q' e w') → Run f xs w Q')
    {call : Call1} (cok : CallOkR Run L call) (hgm : ∀ b o v, L.gm b o = some v → c.mu0 b o = some v) (h : Inv c G ρ a w) {f : FuncId} {xs : List X} {us : List Value} {oc : Outc} {H' : Nat → Ob} (hl : xs.length = us.length)
    (hx : ∀ (j : Nat) (x : X) (u : Value), xs[j]? = some x → us[j]? = some u → RepX G ρ.ob x u) (hgo : (callF L call f xs).go ρ.ob oc H') :
    (∃ fn, L.fn.getD f .none = some fn) ∧ Run f us.toArray w fun e w' => ∃ G', G'.lam = G.lam ∧ Inv c G' { ρ with ob := H' } a w' ∧
      match oc with
      | .val x => ∃ u, e = .returned u ∧ RepX G' H' x u
      | .pan v => ∃ u, e = .panicked [{ v := u, recovered := false }] ∧ RepV G'.mu v u := by
  unfold callF at hgo
  split at hgo
  · exact (go_fail hgo).elim
  · rename_i fn hfn
    refine ⟨⟨fn, hfn⟩, ?_⟩
    obtain ⟨ys, G1, H1, hlam1, i1, la1, hyl, hyr, hgo1⟩ : ∃ ys G' H1, G'.lam = G.lam ∧ Inv c G' { ρ with ob := H1 } a w ∧ Later G ρ.ob G' H1 ∧ ys.length = us.length ∧
        (∀ (j : Nat) (y : X) (u : Value), ys[j]? = some y → us[j]? = some u → RepX G' H1 y u) ∧ (hand fn.ntmps ys [] [] fun args ss cs =>
          match call f args cs with
          | .none => .fail
          | some (.ret vs, cs') => putAll ss cs' (.ret (.val (resX vs)))
          | some (.pan v, cs') => putAll ss cs' (.ret (.pan v))).go H1 oc H' := by
      split at hgo
      · exact sound_frzOwn xs us h hl hx hgo
      · exact ⟨xs, G, ρ.ob, rfl, h, .refl _ _, hl, hx, hgo⟩
    obtain ⟨as, ss, cs, hgo2, hal, _, hsc, hnd, hbx, har⟩ := sound_hand (ρ := { ρ with ob := H1 }) fn.ntmps i1 ys us [] [] hyl hyr rfl (by simp) (fun j s ys hj => by simp at hj) hgo1
    have hboxes : ∀ s ∈ ss, ∃ g xs, H1 s = .box g xs := by
      intro s hs
      obtain ⟨j, hj⟩ := mem_get hs
      have hjl := (List.getElem?_eq_some_iff.1 hj).1
      obtain ⟨g, xs, h1, _⟩ := hbx j s _ hj (List.getElem?_eq_getElem (by omega))
      exact ⟨g, xs, h1⟩
    let bs := ss.map fun s => (G1.m s).getD 0
    have hbs : ∀ (j s b : Nat), ss[j]? = some s → bs[j]? = some b → G1.m s = some b := by
      intro j s b hj hb
      have hb' : (ss.map fun s => (G1.m s).getD 0)[j]? = some b := hb
      rw [List.getElem?_map, hj] at hb'
      simp only [Option.map_some, Option.some.injEq] at hb'
      obtain ⟨g, xs, h1⟩ := hboxes s (List.mem_of_getElem? hj)
      obtain ⟨b', h2, _⟩ := (i1.objs s).block (by rw [show ({ ρ with ob := H1 } : St).ob s = H1 s from rfl, h1]; trivial)
      rw [h2] at hb' ⊢
      simpa using hb'
    have hbs' : ∀ (j s : Nat), ss[j]? = some s → bs[j]? = G1.m s := by
      intro j s hj
      have hjl := (List.getElem?_eq_some_iff.1 hj).1
      have hb : bs[j]? = some (bs[j]'(by show j < (ss.map _).length; simpa using hjl)) := List.getElem?_eq_getElem _
      rw [hb, hbs j s _ hj hb]
    have hbl : bs.length = ss.length := by show (ss.map _).length = _; simp
    have inss : ∀ b ∈ bs, ∃ s g xs, s ∈ ss ∧ G1.m s = some b ∧ H1 s = .box g xs := by
      intro b hb
      obtain ⟨j, hj⟩ := mem_get hb
      have hjl := (List.getElem?_eq_some_iff.1 hj).1
      have hsj : ss[j]? = some (ss[j]'(by omega)) := List.getElem?_eq_getElem (by omega)
      obtain ⟨g, xs, h1⟩ := hboxes _ (List.mem_of_getElem? hsj)
      exact ⟨_, g, xs, List.mem_of_getElem? hsj, hbs j _ b hsj hj, h1⟩
    have entry : Entry L.gm G1.mu (lentTo G1 H1 w) bs cs w := by
      refine ⟨i1.hmu, fun b o v k => ?_, by omega, ?_, fun j b cc hj hc => ?_, fun b hb o => ?_, fun b o v k => i1.mu0 b o v (hgm b o v k)⟩
      · rcases lentTo_spec k with k | ⟨_, k⟩
        · exact i1.hlam b o v k
        · exact k
      · show (ss.map fun s => (G1.m s).getD 0).Nodup
        refine List.pairwise_map.2 (List.Pairwise.imp_of_mem (fun {s t} hs ht hne => ?_) hnd)
        obtain ⟨g1, xs1, h1⟩ := hboxes s hs
        obtain ⟨g2, xs2, h2⟩ := hboxes t ht
        obtain ⟨b1, h3, _⟩ := (i1.objs s).block (by rw [show ({ ρ with ob := H1 } : St).ob s = H1 s from rfl, h1]; trivial)
        obtain ⟨b2, h4, _⟩ := (i1.objs t).block (by rw [show ({ ρ with ob := H1 } : St).ob t = H1 t from rfl, h2]; trivial)
        rw [h3, h4]
        intro e
        simp at e
        subst e
        exact hne (i1.inj s t b1 (by show live (H1 s); rw [h1]; trivial) (by show live (H1 t); rw [h2]; trivial) h3 h4)
      · have hjl := (List.getElem?_eq_some_iff.1 hj).1
        have hsj : ss[j]? = some (ss[j]'(by omega)) := List.getElem?_eq_getElem (by omega)
        have hm := hbs j _ b hsj hj
        obtain ⟨g, xs, h1, h2⟩ := hbx j _ cc hsj hc
        obtain ⟨hxl, hxg⟩ := xvs_get h2
        obtain ⟨b', hb', hlt, hcf, hfz, hcs⟩ : RepOb G1 H1 w _ (.box g xs) := by have := i1.objs (ss[j]'(by omega)); rwa [show ({ ρ with ob := H1 } : St).ob (ss[j]'(by omega)) = .box g xs from h1] at this
        rw [hm] at hb'; cases hb'
        refine ⟨hlt, fun y hy => ?_, fun o ho => hfz o (by omega), fun o y ho => ?_⟩
        · obtain ⟨o, ho⟩ := mem_get hy
          obtain ⟨x, hx1, hx2⟩ := hxg o y ho
          have := hcf x (List.mem_of_getElem? hx1)
          unfold xv at hx2
          split at hx2
          · cases hx2; cases y <;> first | rfl | (simp [cellX] at this)
          · cases hx2; rfl
          · cases hx2
        · obtain ⟨x, hx1, hx2⟩ := hxg o y ho
          obtain ⟨u, hu, hr⟩ := hcs o x hx1
          exact ⟨u, hu, xv_rep hr hx2⟩
      · obtain ⟨s, g, xs, hs, hm, h1⟩ := inss b hb
        refine ⟨i1.sepb s g xs b o h1 hm, ?_⟩
        cases k : lentTo G1 H1 w b o with
        | none => rfl
        | some v =>
          exfalso
          rcases lentTo_spec k with k | ⟨⟨s', g', mt, z, es, h3, h4, _⟩, _⟩
          · rw [i1.sepl s b o (by show live (H1 s); rw [h1]; trivial) hm] at k; cases k
          · have := i1.inj s s' b (by show live (H1 s); rw [h1]; trivial) (by show live (H1 s'); rw [h3]; trivial) hm h4
            subst this
            rw [h1] at h3; cases h3
    have hargs : ∀ (j : Nat) (x : X) (u : Value), as[j]? = some x → us[j]? = some u → RepX (ioGh fn.ntmps G1.mu (lentTo G1 H1 w) bs) (ioOb fn.ntmps cs) x u := by
      intro j x u hj hu
      have hr := har j x u hj hu
      unfold ArgRep at hr
      split at hr
      · exact .v hr
      · refine .lent (hr.mono (fun b o v k => ?_) (fun _ _ _ k => k))
        rcases k with k | ⟨k1, k2⟩
        · rcases k with k | k
          · exact .inl k
          · refine .inr ?_
            show lentTo G1 H1 w b o = some v
            unfold lentTo; rw [k]
        · refine .inr ?_
          show lentTo G1 H1 w b o = some v
          unfold lentTo
          obtain ⟨s', g', mt, z, es, h3, h4, h5⟩ := k2
          have h3' : H1 s' = .row g' mt z es := h3
          rw [i1.sepl s' b o (by show live (H1 s'); rw [h3']; trivial) h4]
          simp only
          rw [if_pos ⟨s', g', mt, z, es, h3, h4, h5⟩]
          exact k1
      · subst hr
        exact .clo (cvs := []) rfl (fun i c u h => by simp at h)
      · rename_i k
        obtain ⟨s, b, hk, hs, hm, rfl⟩ := hr
        refine .addr (Nat.zero_le _) fun cs2 hcs2 => ⟨b, ?_, rfl⟩
        show (if fn.ntmps ≤ k then bs[k - fn.ntmps]? else none) = some b
        rw [if_pos hk, hbs' _ s hs, hm]
      · exact hr.elim
    split at hgo2
    · exact (go_fail hgo2).elim
    · rename_i vs cs' hcall
      obtain ⟨hscl, H2, hgo3, hout, hin⟩ := go_putAll ss cs' hnd hgo2
      obtain ⟨e, rfl⟩ := go_ret hgo3
      subst e
      refine mono _ _ _ _ _ (cok f fn as cs (.ret vs) cs' hfn hcall w G1.mu (lentTo G1 H1 w) bs us entry hal hargs) fun e w' ⟨mu', left, hend⟩ => ?_
      obtain ⟨vals, hrl, rfl⟩ := hend
      obtain ⟨i2, la2⟩ := Inv.afterCall (ρ := { ρ with ob := H1 }) i1 hbl hbs hboxes left hout hin
      exact ⟨{ G1 with mu := mu' }, hlam1, i2, _, rfl, callRes (G := { G1 with mu := mu' }) vs vals hrl⟩
    · rename_i v cs' hcall
      obtain ⟨hscl, H2, hgo3, hout, hin⟩ := go_putAll ss cs' hnd hgo2
      obtain ⟨e, rfl⟩ := go_ret hgo3
      subst e
      refine mono _ _ _ _ _ (cok f fn as cs (.pan v) cs' hfn hcall w G1.mu (lentTo G1 H1 w) bs us entry hal hargs) fun e w' ⟨mu', left, hend⟩ => ?_
      obtain ⟨val, hrl, rfl⟩ := hend
      obtain ⟨i2, la2⟩ := Inv.afterCall (ρ := { ρ with ob := H1 }) i1 hbl hbs hboxes left hout hin
      exact ⟨{ G1 with mu := mu' }, hlam1, i2, _, rfl, hrl⟩

/-- The fence that lets all functions in; r: the loop over a function in whose round the code lies. -/
def openF (r : Option Nat) : Fence := { fn := fun _ => True, depth := none, alive := false, round := r }

theorem callsIn_openF {r : Option Nat} {n : Nat} {f : FuncId} {us : Array Value} {R : Ending → World → Prop} (h : Calls P f us w R) : CallsIn (openF r) n P f us w R :=
  show CallsIn Fence.wide n P f us w R from callsIn_wide.2 h

theorem sound_callF {r : Option Nat} {n : Nat} {call : Call1} (cok : CallOk P L call) (hgm : ∀ b o v, L.gm b o = some v → c.mu0 b o = some v) (h : Inv c G ρ a w) {f : FuncId} {xs : List X} {us : List Value} {oc : Outc} {H' : Nat → Ob} (hl : xs.length = us.length)
    (hx : ∀ (j : Nat) (x : X) (u : Value), xs[j]? = some x → us[j]? = some u → RepX G ρ.ob x u) (hgo : (callF L call f xs).go ρ.ob oc H') :
    (∃ fn, L.fn.getD f .none = some fn) ∧ CallsIn (openF r) n P f us.toArray w fun e w' => ∃ G', G'.lam = G.lam ∧ Inv c G' { ρ with ob := H' } a w' ∧
      match oc with
      | .val x => ∃ u, e = .returned u ∧ RepX G' H' x u
      | .pan v => ∃ u, e = .panicked [{ v := u, recovered := false }] ∧ RepV G'.mu v u :=
  sound_callR (Run := fun f us w R => CallsIn (openF r) n P f us w R) (fun _ _ _ _ _ hr hq => CallsIn.mono hr hq) (fun f fn args cs res cs' h1 h2 w mu lam bs us h3 h4 h5 => callsIn_openF (cok f fn args cs res cs' h1 h2 w mu lam bs us h3 h4 h5)) hgm h hl hx hgo

end
end Go.Dv

namespace Go.Dv
open Go

/-- A step that ends in no panic. -/
def NoPan (e : Ef Outc) : Prop := ∀ H v H', ¬ e.go H (.pan v) H'

theorem NoPan.ret (x : X) : NoPan (.ret (.val x)) := fun H v H' h => by obtain ⟨e, _⟩ := go_ret h; cases e
theorem NoPan.fail : NoPan .fail := fun H v H' h => go_fail h
theorem NoPan.get {s : Nat} {k : Ob → Ef Outc} (h : ∀ o, NoPan (k o)) : NoPan (.get s k) := fun H v H' g => h _ _ _ _ (go_get g)
theorem NoPan.put {s : Nat} {o : Ob} {k : Ef Outc} (h : NoPan k) : NoPan (.put s o k) := fun H v H' g => h _ _ _ (go_put g)
theorem NoPan.ov {α : Type} {x : Option α} {k : α → Ef Outc} (h : ∀ y, NoPan (k y)) : NoPan (ov x k) := fun H v H' g => let ⟨y, _, g⟩ := go_ov g; h y _ _ _ g
theorem NoPan.num {x : X} {k : Int → Ef Outc} (h : ∀ y, NoPan (k y)) : NoPan (num x k) := fun H v H' g => let ⟨_, n, _, g⟩ := go_num g; h n _ _ _ g
theorem NoPan.makeGen {L : Lite} {t : TypeId} {d : Option Nat} {k : Nat → Nat → Ef Outc} (h : ∀ s g, NoPan (k s g)) : NoPan (makeGen L t d k) := fun H v H' g => let ⟨s, _, _, _, g⟩ := go_makeGen g; h s _ _ _ _ g
theorem NoPan.nextGen {d : Option Nat} {k : Nat → Nat → Ef Outc} (h : ∀ s g, NoPan (k s g)) : NoPan (nextGen d k) := fun H v H' g => let ⟨s, _, g⟩ := go_nextGen g; h s _ _ _ _ g
theorem NoPan.frz {x : X} {k : V → Ef Outc} (h : ∀ y, NoPan (k y)) : NoPan (frz x k) := by
  unfold Dv.frz
  repeat' first | exact h _ | exact NoPan.fail | refine NoPan.get fun _ => ?_ | refine NoPan.put ?_ | split
theorem NoPan.frzs : ∀ {xs : List X} {k : List V → Ef Outc} (_ : ∀ y, NoPan (k y)), NoPan (frzs xs k)
  | [], _, h => h _
  | _ :: _, _, h => NoPan.frz fun _ => NoPan.frzs fun _ => h _
theorem NoPan.rdSl {x : X} {k : Nat → List (List V) → Ef Outc} (h : ∀ z y, NoPan (k z y)) : NoPan (rdSl x k) := by
  unfold Dv.rdSl
  repeat' first | exact h _ _ | exact NoPan.fail | refine NoPan.get fun _ => ?_ | split
theorem NoPan.bounds {n : Int} {lo hi : Option X} {k : Nat → Nat → Ef Outc} (h : ∀ z y, NoPan (k z y)) : NoPan (bounds n lo hi k) := by
  unfold Dv.bounds
  cases lo <;> cases hi <;> simp only <;> repeat' first | exact h _ _ | exact NoPan.fail | refine NoPan.num fun _ => ?_ | split

theorem plain_noPan (L : Lite) (call : Call1) (d : Option Nat) (o : Oper) (r : Operand → X) (hp : plainOp o.op = true) : NoPan (act L call d o r) := by
  unfold act
  split
  all_goals first
    | (rename_i hop; rw [hop] at hp; simp [plainOp] at hp; done)
    | skip
  all_goals
    try unfold actLoad
    try unfold actStore
    try unfold actField
    try unfold actFieldAddr
    try unfold actIndexAddr
    try unfold actIndex
    try unfold actSlice
    try unfold actConvert
    try unfold actBuild
    try unfold actBuildSlice
    try unfold actMake
    try unfold actBin
    try unfold actNil
    try unfold actAssert
    try unfold actBuiltin
    try unfold actMakeMap
    try unfold actLookup
    try unfold actMapUpdate
    repeat' first
      | exact NoPan.ret _
      | refine NoPan.makeGen fun _ _ => ?_
      | exact NoPan.fail
      | refine NoPan.get fun _ => ?_
      | refine NoPan.put ?_
      | refine NoPan.ov fun _ => ?_
      | refine NoPan.num fun _ => ?_
      | refine NoPan.nextGen fun _ _ => ?_
      | refine NoPan.frz fun _ => ?_
      | refine NoPan.frzs fun _ => ?_
      | refine NoPan.rdSl fun _ _ => ?_
      | refine NoPan.bounds fun _ _ => ?_
      | unfold loadC
      | unfold loadV
      | unfold shift
      | unfold srcOf
      | unfold actAppend
      | unfold actCopy
      | unfold actLen
      | unfold actLenMap
      | unfold actMM
      | unfold nilRes
      | split
      | dsimp only

section
variable {P : Program} {L : Lite} {c : Ctx} {G : Gh} {ρ : St} {a : Act} {w : World}

theorem strsOf_spec : ∀ {es : List (List V)} {l : List ByteArray}, strsOf es = some l → l.length = es.length ∧ ∀ (j : Nat) (x : ByteArray), l[j]? = some x → es[j]? = some [.lit (.string x)]
  | [], l, h => by
    simp only [strsOf, Option.some.injEq] at h
    subst h
    exact ⟨rfl, fun j x hx => by simp at hx⟩
  | e :: es, l, h => by
    unfold strsOf at h
    split at h
    · rename_i he; cases he
    · rename_i s r heq
      cases heq
      split at h
      · rename_i l' hl'
        cases h
        obtain ⟨h1, h2⟩ := strsOf_spec hl'
        refine ⟨by simp [h1], fun j x hx => ?_⟩
        cases j with
        | zero => simp at hx; subst hx; rfl
        | succ j => simp at hx ⊢; exact h2 j x hx
      · cases h
    · cases h

/-- What is to hold behind an operation: 'K' where it ends, 'Q' where it panics. -/
theorem sound_oper {r : Option Nat} {n : Nat} (ok : LiteOk P L) {call : Call1} (cok : CallOk P L call) (hgm : ∀ b o v, L.gm b o = some v → c.mu0 b o = some v) (h : Inv c G ρ a w) {o : Oper} {oc : Outc} {H' : Nat → Ob}
    (hgo : (act L call (siteOf o.dst ρ.n) o ρ.opd).go ρ.ob oc H') {K : Act → World → Prop} {Q : Exit → Act → World → Prop}
    (hk : ∀ x, oc = .val x → ∀ u w' G', G'.lam = G.lam → Inv c G' { ρ with ob := H' } a w' → RepX G' H' x u → K (a.put o.dst u) w')
    (hq : ∀ v, oc = .pan v → ∀ u w' G', G'.lam = G.lam → Inv c G' { ρ with ob := H' } a w' → RepV G'.mu v u → Q (.panic [{ v := u, recovered := false }]) a w') : o.wpIn (openF r) n P a w K Q := by
  refine ⟨fun _ _ => trivial, ?_⟩
  rw [Oper.semAt_eq _ _ _ (fun cl hop => by unfold act at hgo; rw [hop] at hgo; exact go_fail hgo)]
  by_cases hp : plainOp o.op = true
  · -- no call
    have hval : ∃ x, oc = .val x := by
      cases oc with
      | val x => exact ⟨x, rfl⟩
      | pan v =>
        exact (plain_noPan L call _ o _ hp _ _ _ hgo).elim
    obtain ⟨x, rfl⟩ := hval
    obtain ⟨v, w', G', h1, h2, h3, h4⟩ := sound_act ok h hp hgo
    rcases h1 with h1 | ⟨h1, rfl⟩
    · rw [h1, Oper.uponIn_value]; exact hk x rfl v w' G' h2 h3 h4
    · rw [h1, Oper.uponIn_skip]; exact hk x rfl undef w' G' h2 h3 h4
  · unfold act at hgo
    split at hgo
    all_goals first
      | (rename_i hop; exact absurd (by rw [hop]; rfl) hp)
      | skip
    · rename_i y hop
      split at hgo
      · rename_i t v hv
        obtain ⟨e, rfl⟩ := go_ret hgo
        have hy := opd_rep h y
        rw [hv] at hy
        obtain ⟨hy, hs⟩ := lit_val hy
        have : (execOp a.eval o).run P w = .halt (.panic (.iface t v)) w := by
          simp [execOp, hop, hy, Instr.panic]
        rw [this, Oper.uponIn_panic]
        exact hq _ e.symm (.iface t v) w G rfl h (.lit _ rfl)
      · exact (go_fail hgo).elim
    · rename_i f args argTypes hop
      split at hgo
      · rename_i g caps hf
        have hfv := opd_rep h f
        rw [hf] at hfv
        generalize hu : a.eval f = u at hfv
        cases hfv with
        | @clo _ _ cvs hcl hcr =>
          have hlen : (args.toList.map ρ.opd ++ caps).length = (args.toList.map a.eval ++ cvs).length := by simp [hcl]
          have harep : ∀ (j : Nat) (x : X) (v : Value), (args.toList.map ρ.opd ++ caps)[j]? = some x → (args.toList.map a.eval ++ cvs)[j]? = some v → RepX G ρ.ob x v := fun j x v hj hv => by
            rw [append_get] at hj hv
            simp only [List.length_map] at hj hv
            split at hj
            · rename_i hlt
              rw [if_pos hlt] at hv
              exact opds_rep h args.toList j x v hj hv
            · rename_i hlt
              rw [if_neg hlt] at hv
              exact hcr _ x v hj hv
          have harr : args.map a.eval ++ cvs.toArray = (args.toList.map a.eval ++ cvs).toArray := by apply Array.ext'; simp
          split at hgo
          · rename_i hxb
            unfold actByteAt at hgo
            split at hgo
            · rename_i sb x hxs
              obtain ⟨rfl, rfl⟩ := go_ret hgo
              rw [hxs] at harep hlen
              obtain ⟨u1, u2, hus⟩ : ∃ u1 u2, args.toList.map a.eval ++ cvs = [u1, u2] := by
                generalize args.toList.map a.eval ++ cvs = us at hlen
                match us, hlen with
                | [u1, u2], _ => exact ⟨u1, u2, rfl⟩
              rw [hus] at harep harr
              obtain ⟨hu1, _⟩ := lit_val (harep 0 _ u1 rfl rfl)
              obtain ⟨hu2, _⟩ := lit_val (harep 1 _ u2 rfl rfl)
              subst hu1 hu2
              have hrun : (execOp a.eval o).run P w = .ok (.value (.int .i64 (firstIdx sb x.toNat.toUInt8))) w := by
                have hcf := ok.xb g hxb sb x w
                simp only [execOp, hop, resolve, hu, Deferred.ofValue, Sem.run_bind, Sem.run_pure, Result.andThen_ok, invoke]
                simp only [Array.empty_append, Array.append_empty, harr] at hcf ⊢
                first | exact hcf | simpa using hcf
              rw [hrun, Oper.uponIn_value]
              exact hk _ rfl _ w G rfl h (.v (.lit _ rfl))
            · exact (go_fail hgo).elim
          split at hgo
          · rename_i it hit
            unfold actIt at hgo
            split at hgo
            · rename_i cs hxs
              split at hgo
              case isFalse => exact (go_fail hgo).elim
              rename_i hcl4
              obtain ⟨rfl, rfl⟩ := go_ret hgo
              rw [hxs] at harep hlen
              obtain ⟨u1, hus⟩ : ∃ u1, args.toList.map a.eval ++ cvs = [u1] := by
                generalize args.toList.map a.eval ++ cvs = us at hlen
                match us, hlen with
                | [u1], _ => exact ⟨u1, rfl⟩
              rw [hus] at harep harr
              have hu1 := harep 0 _ u1 rfl rfl
              cases hu1 with
              | v hu1 =>
                cases hu1 with
                | @agg _ vs hfl hvl hvr =>
                  obtain ⟨hcf, hcalls⟩ := ok.its g it hit cs vs G.mu w hcl4 (.agg hfl hvl hvr) h.hmu
                  have hrun : (execOp a.eval o).run P w = .ok (.enter g #[.agg vs.toArray]) w := by
                    simp only [execOp, hop, resolve, hu, Deferred.ofValue, Sem.run_bind, Sem.run_pure, Result.andThen_ok, invoke]
                    simp only [Array.empty_append, Array.append_empty, harr] at hcf ⊢
                    first | exact hcf | simpa using hcf
                  rw [hrun, Oper.uponIn_enter]
                  refine ⟨fun h => by simp [openF] at h, ?_⟩
                  refine CallsIn.mono (callsIn_openF hcalls) fun e w' ⟨b, mu', hb, h1, h2, h3, he, hrep⟩ => ?_
                  subst he
                  obtain ⟨i2, l2⟩ := h.grown (w' := w') (mu' := mu') ⟨hb, h1, h2, h3, rfl, fun j b c hj => by simp at hj⟩
                  refine hk _ rfl _ w' { G with mu := mu' } rfl i2 (.clo (cvs := [.pointer (some ⟨b, 0, none⟩)]) rfl fun i cx u hi hu => ?_)
                  cases i with
                  | succ i => simp at hi
                  | zero =>
                    simp only [List.getElem?_cons_zero, Option.some.injEq] at hi hu
                    subst hi hu
                    exact .ro hfl (fun _ => rfl) (hrep.mono (fun b o v hv => .inl hv) (fun _ _ _ k => k))
            · exact (go_fail hgo).elim
          split at hgo
          · rename_i hjn
            unfold actJoin at hgo
            split at hgo
            · rename_i x sep hxs
              rw [hxs] at harep hlen
              obtain ⟨u1, u2, hus⟩ : ∃ u1 u2, args.toList.map a.eval ++ cvs = [u1, u2] := by
                generalize args.toList.map a.eval ++ cvs = us at hlen
                match us, hlen with
                | [u1, u2], _ => exact ⟨u1, u2, rfl⟩
              rw [hus] at harep harr
              obtain ⟨hu2, _⟩ := lit_val (harep 1 _ u2 rfl rfl)
              subst hu2
              obtain ⟨z, es, hr, hgo⟩ := sound_rdSl h (harep 0 _ u1 rfl rfl) hgo
              obtain ⟨l, hl, hgo⟩ := go_ov hgo
              split at hgo
              · rename_i hbig
                obtain ⟨rfl, rfl⟩ := go_ret hgo
                obtain ⟨ad, n, rfl, hz, hff, hc, hn, hsp, hm⟩ := hr
                obtain ⟨hll, hlg⟩ := strsOf_spec hl
                obtain ⟨hcf, hcalls⟩ := ok.jn g hjn ad n l sep w (fun e => by have := (hn e).2; subst this; simp [strsOf] at hl; exact hl)
                  (fun ad' e hne => hsp ad' e (fun e0 => by subst e0; simp [strsOf] at hl; exact hne hl))
                  (fun ad' j x e hx => by
                    have hj := hlg j x hx
                    obtain ⟨u, hu, hrep⟩ := hm ad' j _ 0 _ e hj rfl
                    cases hrep
                    have hz1 : z = 1 := by have := hz _ (List.mem_of_getElem? hj); simpa using this.symm
                    subst hz1
                    simpa using hu) (by omega) hbig.2 hbig.1
                rw [← hll] at harr
                have hrun : (execOp a.eval o).run P w = .ok (.enter g #[.slice ad l.length n, .string sep]) w := by
                  simp only [execOp, hop, resolve, hu, Deferred.ofValue, Sem.run_bind, Sem.run_pure, Result.andThen_ok, invoke]
                  simp only [Array.empty_append, Array.append_empty, harr] at hcf ⊢
                  first | exact hcf | simpa using hcf
                rw [hrun, Oper.uponIn_enter]
                refine ⟨fun h => by simp [openF] at h, ?_⟩
                refine CallsIn.mono (callsIn_openF hcalls) fun e w' ⟨hb, he⟩ => ?_
                subst he
                obtain ⟨i2, l2⟩ := h.grown (w' := w') (mu' := G.mu) ⟨hb, fun _ _ _ k => k, fun _ _ _ k => .inl k, fun b o v k => (cell_eq (hb.block b (cell_lt (h.hmu b o v k)) (by simp)) o).trans (h.hmu b o v k), rfl, fun j b c hj => by simp at hj⟩
                exact hk _ rfl _ w' G rfl i2 (.v (.lit _ rfl))
              · exact (go_fail hgo).elim
            · exact (go_fail hgo).elim
          · obtain ⟨⟨fn, hfn⟩, hcalls⟩ := sound_callF (P := P) (r := r) (n := n - 1) cok hgm h (us := args.toList.map a.eval ++ cvs) hlen harep hgo
            obtain ⟨h1, h2, h3⟩ := ok.fn g fn hfn
            have hrun : (execOp a.eval o).run P w = .ok (.enter g (args.toList.map a.eval ++ cvs).toArray) w := by
              have hnone : fn.body.isNone = false := by cases hb : fn.body <;> simp_all
              simp only [execOp, hop, resolve, hu, Deferred.ofValue, Sem.run_bind, Sem.run_pure, Result.andThen_ok, invoke, callFunc, run_program, h1, h3, hnone, Bool.false_eq_true, if_false]
              simp [harr]
            rw [hrun, Oper.uponIn_enter]
            refine ⟨fun h => by simp [openF] at h, ?_⟩
            refine CallsIn.mono hcalls fun e w' ⟨G', g1, g2, g3⟩ => ?_
            cases oc with
            | val x =>
              obtain ⟨u, rfl, hr⟩ := g3
              exact hk x rfl u w' G' g1 g2 hr
            | pan v =>
              obtain ⟨u, rfl, hr⟩ := g3
              exact hq v rfl u w' G' g1 g2 hr
      · exact (go_fail hgo).elim
    · exact (go_fail hgo).elim

end
end Go.Dv

namespace Go.Dv
open Go

/-! ### what an operation reads and writes -/
theorem run_local {α : Type} : ∀ (e : Ef α) (H K : Nat → Ob) (x : α) (H1 : Nat → Ob) (r wr : List Nat), e.run H = some (x, H1, r, wr) → (∀ s ∈ r, K s = H s) →
    (∃ K1, e.run K = some (x, K1, r, wr) ∧ ∀ s, K1 s = if s ∈ wr then H1 s else K s) ∧ ∀ s, s ∉ wr → H1 s = H s
  | .ret a, H, K, x, H1, r, wr, h, _ => by
    simp only [Ef.run, Option.some.injEq, Prod.mk.injEq] at h
    obtain ⟨rfl, rfl, rfl, rfl⟩ := h
    exact ⟨⟨K, rfl, fun s => by simp⟩, fun _ _ => rfl⟩
  | .fail, H, K, x, H1, r, wr, h, _ => by simp [Ef.run] at h
  | .get s k, H, K, x, H1, r, wr, h, hag => by
    simp only [Ef.run] at h
    split at h
    · rename_i a H2 r2 w2 e
      simp only [Option.some.injEq, Prod.mk.injEq] at h
      obtain ⟨rfl, rfl, rfl, rfl⟩ := h
      obtain ⟨⟨K1, h1, h2⟩, h3⟩ := run_local (k (H s)) H K _ _ _ _ e (fun t ht => hag t (by simp [ht]))
      refine ⟨⟨K1, ?_, h2⟩, h3⟩
      simp only [Ef.run, hag s (by simp), h1]
    · cases h
  | .put s o k, H, K, x, H1, r, wr, h, hag => by
    simp only [Ef.run] at h
    split at h
    · rename_i a H2 r2 w2 e
      simp only [Option.some.injEq, Prod.mk.injEq] at h
      obtain ⟨rfl, rfl, rfl, rfl⟩ := h
      obtain ⟨⟨K1, h1, h2⟩, h3⟩ := run_local k (upd H s o) (upd K s o) _ _ _ _ e (fun t ht => by
        by_cases e : t = s
        · subst e; rw [upd_same, upd_same]
        · rw [upd_ne _ _ e, upd_ne _ _ e]; exact hag t ht)
      refine ⟨⟨K1, ?_, fun t => ?_⟩, fun t ht => ?_⟩
      · simp only [Ef.run, h1]
      · rw [h2]
        by_cases e1 : t ∈ w2
        · simp [e1]
        · by_cases e2 : t = s
          · subst e2; simp [e1, h3 t e1]
          · simp [e1, e2, upd_ne _ _ e2]
      · simp only [List.mem_cons, not_or] at ht
        rw [h3 t ht.2, upd_ne _ _ ht.1]
    · cases h

theorem act_congr (L : Lite) (call : Call1) (d : Option Nat) (o : Oper) {r r' : Operand → X} (h : ∀ x ∈ o.op.operands, r x = r' x) : act L call d o r = act L call d o r' := by
  obtain ⟨dst, op, type, pos, after, guard⟩ := o
  have pairs : ∀ ps : Array (Nat × Operand), (∀ x ∈ (ps.toList.map (·.2)), r x = r' x) → (ps.toList.map fun p => (p.1, r p.2)) = (ps.toList.map fun p => (p.1, r' p.2)) := fun ps hp =>
    List.map_congr_left fun p hm => by rw [hp p.2 (List.mem_map.2 ⟨p, hm, rfl⟩)]
  have args : ∀ xs : Array Operand, (∀ x ∈ xs, r x = r' x) → xs.toList.map r = xs.toList.map r' := fun xs hp => List.map_congr_left fun x hx => hp x (by simpa using hx)
  cases op <;> simp only [Op.operands] at h <;> simp only [act]
  case move x => rw [h x (by simp)]
  case assign x => rw [h x (by simp)]
  case pick c a b => rw [h c (by simp), h a (by simp), h b (by simp)]
  case box t x => rw [h x (by simp)]
  case build t ps => rw [pairs ps fun x hx => h x (by simpa using hx)]
  case buildSlice t n ps => rw [pairs ps fun x hx => h x (by simpa using hx)]
  case load t x => rw [h x (by simp)]
  case store t a v => rw [h a (by simp), h v (by simp)]
  case nilCheck x => rw [h x (by simp)]
  case binOp op t x y yt => rw [h x (by simp), h y (by simp)]
  case typeAssert x xt t b => rw [h x (by simp)]
  case unOp op t x => rw [h x (by simp)]
  case convert s d x => rw [h x (by simp)]
  case makeMap t hint =>
    have : hint.map r = hint.map r' := by cases hint with | none => rfl | some l => simp [h l (by simp)]
    rw [this]
  case lookup t x i b => rw [h x (by simp), h i (by simp)]
  case mapUpdate t x i y => rw [h x (by simp), h i (by simp), h y (by simp)]
  case makeSlice t x y => rw [h x (by simp), h y (by simp)]
  case slice t x lo hi mx =>
    cases mx with
    | some m => rfl
    | none =>
      have hx := h x (by simp)
      have hlo : lo.map r = lo.map r' := by cases lo with | none => rfl | some l => simp [h l (by simp)]
      have hhi : hi.map r = hi.map r' := by cases hi with | none => rfl | some l => simp [h l (by simp)]
      simp only [hx, hlo, hhi]
  case fieldAddr t x f => rw [h x (by simp)]
  case field t x f => rw [h x (by simp)]
  case indexAddr t x i => rw [h x (by simp), h i (by simp)]
  case index t x i => rw [h x (by simp), h i (by simp)]
  case extract x i => rw [h x (by simp)]
  case makeFunc fn first caps =>
    cases fn with
    | func f => simp only [args caps fun x hx => h x (by simp [hx])]
    | _ => rfl
  case makeInterface t x => rw [h x (by simp)]
  case panic x => rw [h x (by simp)]
  case call c =>
    obtain ⟨callee, as, ats⟩ := c
    cases callee with
    | builtin b => simp only [args as fun x hx => h x (by simp [Call.operands, hx])]
    | value f => simp only [args as fun x hx => h x (by simp [Call.operands, hx]), h f (by simp [Call.operands])]
    | invoke a b => rfl

/-- Two operations that have nothing to do with each other. -/
def clash (f g : List Nat × List Nat) : Bool := f.2.any (fun s => g.1.contains s || g.2.contains s) || g.2.any (fun s => f.1.contains s)

theorem clash_spec {f g : List Nat × List Nat} (h : clash f g = false) : (∀ s ∈ f.2, s ∉ g.1 ∧ s ∉ g.2) ∧ ∀ s ∈ g.2, s ∉ f.1 ∧ s ∉ f.2 := by
  unfold clash at h
  simp only [Bool.or_eq_false_iff, List.any_eq_false, Bool.not_eq_true, List.contains_iff_mem] at h
  have h1 : ∀ s ∈ f.2, s ∉ g.1 ∧ s ∉ g.2 := fun s hs => by
    have := h.1 s hs
    simp at this; exact this
  have h2 : ∀ s ∈ g.2, s ∉ f.1 := fun s hs => by
    have := h.2 s hs
    simpa using this
  exact ⟨h1, fun s hs => ⟨h2 s hs, fun hf => (h1 s hf).2 hs⟩⟩

section
variable {L : Lite} {call : Call1} {ops : Array Oper}

def putS (n : Nat) (f : Nat → X) (d : Option Tmp) (x : X) : Nat → X :=
  match d with
  | some t => if t < n then upd f t x else f
  | none => f

theorem put_eq (ρ : St) (d : Option Tmp) (x : X) : ρ.put d x = ⟨ρ.n, putS ρ.n ρ.sl d x, ρ.ob⟩ := by
  cases d with
  | none => rfl
  | some t =>
    show (if t < ρ.n then { ρ with sl := upd ρ.sl t x } else ρ) = ⟨ρ.n, if t < ρ.n then upd ρ.sl t x else ρ.sl, ρ.ob⟩
    split <;> rfl

theorem putS_ne (n : Nat) (f : Nat → X) {d : Option Tmp} (x : X) {s : Nat} (h : ∀ t, d = some t → s ≠ t) : putS n f d x s = f s := by
  cases d with
  | none => rfl
  | some t =>
    show (if t < n then upd f t x else f) s = f s
    split
    · exact upd_ne _ _ (h t rfl)
    · rfl

theorem putS_comm (n : Nat) (f : Nat → X) {d e : Option Tmp} (x y : X) (h : ∀ t, d = some t → e ≠ some t) : putS n (putS n f d x) e y = putS n (putS n f e y) d x := by
  cases d with
  | none => rfl
  | some t =>
    cases e with
    | none => rfl
    | some s =>
      have hne : ¬ s = t := fun k => h t rfl (by rw [k])
      have hne' : ¬ t = s := fun k => hne k.symm
      funext k
      simp only [putS]
      by_cases h1 : t < n <;> by_cases h2 : s < n <;> simp only [h1, h2, if_true, if_false, upd]
      by_cases k1 : k = s
      · subst k1; simp [hne]
      · simp [k1]

theorem opd_ne {n : Nat} {f : Nat → X} {H K : Nat → Ob} {d : Option Tmp} {x : X} {y : Operand} (h : ∀ t, d = some t → y ≠ .tmp t) : (St.mk n (putS n f d x) K).opd y = (St.mk n f H).opd y := by
  cases y with
  | tmp s => exact putS_ne n f x fun t ht e => h t ht (e ▸ rfl)
  | _ => rfl

theorem guard_ne {n : Nat} {f : Nat → X} {H K : Nat → Ob} {d : Option Tmp} {x : X} {o : Oper} (h : ∀ t, d = some t → t ∉ o.looksAt ops) :
    guardX ops o (St.mk n (putS n f d x) K) = guardX ops o (St.mk n f H) := by
  unfold guardX
  cases hg : o.guard with
  | none => rfl
  | some gw =>
    obtain ⟨g, want⟩ := gw
    simp only
    cases ht : (ops[g]?).bind (·.dst) with
    | none => rfl
    | some t =>
      simp only
      rw [putS_ne n f x (s := t)]
      intro t' ht' e
      subst e
      exact h t ht' (by simp [Oper.looksAt, hg, ht])

theorem acts_ne {n : Nat} {f : Nat → X} {H K : Nat → Ob} {d : Option Tmp} {x : X} {o : Oper} (h : ∀ t, d = some t → t ∉ o.looksAt ops) (s : Option Nat) :
    act L call s o (St.mk n (putS n f d x) K).opd = act L call s o (St.mk n f H).opd :=
  act_congr L call s o fun y hy => opd_ne fun t ht e => h t ht (by
    subst e
    exact List.mem_append_left _ (List.mem_filterMap.2 ⟨.tmp t, by simpa using hy, rfl⟩))

/-- What an operation that goes through does. -/
theorem dop_spec {o : Oper} {n : Nat} {f : Nat → X} {H : Nat → Ob} {ρ' : St} {r wr : List Nat} (h : dop L call ops o ⟨n, f, H⟩ = some (none, ρ', r, wr)) :
    ∃ b x H1, guardX ops o ⟨n, f, H⟩ = some b ∧ ρ' = ⟨n, putS n f o.dst x, H1⟩ ∧
      ((b = true ∧ (act L call (siteOf o.dst n) o (St.mk n f H).opd).run H = some (.val x, H1, r, wr)) ∨ (b = false ∧ x = .tup [] ∧ H1 = H ∧ r = [] ∧ wr = [])) := by
  unfold dop at h
  split at h
  · rename_i hg
    split at h
    · rename_i x H1 r' w' hr
      simp only [Option.some.injEq, Prod.mk.injEq, true_and] at h
      obtain ⟨rfl, rfl, rfl⟩ := h
      exact ⟨true, x, H1, hg, put_eq _ _ _, .inl ⟨rfl, hr⟩⟩
    · cases h
    · cases h
  · rename_i hg
    simp only [Option.some.injEq, Prod.mk.injEq, true_and] at h
    obtain ⟨rfl, rfl, rfl⟩ := h
    exact ⟨false, .tup [], H, hg, put_eq _ _ _, .inr ⟨rfl, rfl, rfl, rfl, rfl⟩⟩
  · cases h

theorem dop_mk {o : Oper} {n : Nat} {f : Nat → X} {H : Nat → Ob} {b : Bool} {x : X} {H1 : Nat → Ob} {r wr : List Nat} (hg : guardX ops o ⟨n, f, H⟩ = some b)
    (h : (b = true ∧ (act L call (siteOf o.dst n) o (St.mk n f H).opd).run H = some (.val x, H1, r, wr)) ∨ (b = false ∧ x = .tup [] ∧ H1 = H ∧ r = [] ∧ wr = [])) :
    dop L call ops o ⟨n, f, H⟩ = some (none, ⟨n, putS n f o.dst x, H1⟩, r, wr) := by
  unfold dop
  rw [hg]
  rcases h with ⟨rfl, hr⟩ | ⟨rfl, rfl, rfl, rfl, rfl⟩
  · simp only [hr, put_eq]
  · simp only [put_eq]

/-- Two operations that have nothing to do with each other may be carried out in either order. -/
theorem dop_swap {oj oi : Oper} {ρ ρ1 ρ2 : St} {fj fi : List Nat × List Nat} (hap : oj.apart ops oi = true) (hcl : clash fj fi = false)
    (hj : dop L call ops oj ρ = some (none, ρ1, fj.1, fj.2)) (hi : dop L call ops oi ρ1 = some (none, ρ2, fi.1, fi.2)) :
    ∃ ρ1', dop L call ops oi ρ = some (none, ρ1', fi.1, fi.2) ∧ dop L call ops oj ρ1' = some (none, ρ2, fj.1, fj.2) := by
  obtain ⟨n, f, H⟩ := ρ
  obtain ⟨ha1, ha2, ha3⟩ := Oper.apart_spec hap
  obtain ⟨hc1, hc2⟩ := clash_spec hcl
  obtain ⟨bj, xj, Hj, gj, rfl, cj⟩ := dop_spec hj
  obtain ⟨bi, xi, Hi, gi, rfl, ci⟩ := dop_spec hi
  rw [guard_ne (H := H) ha1] at gi
  rw [acts_ne (H := H) ha1] at ci
  -- j alone: what it leaves
  have hjl : ∀ s, s ∉ fj.2 → Hj s = H s := by
    rcases cj with ⟨_, hr⟩ | ⟨_, _, rfl, _, _⟩
    · exact (run_local _ H H _ _ _ _ hr (fun _ _ => rfl)).2
    · exact fun _ _ => rfl
  -- i first
  obtain ⟨Hi', ci', hHi'⟩ : ∃ Hi', ((bi = true ∧ (act L call (siteOf oi.dst n) oi (St.mk n f H).opd).run H = some (.val xi, Hi', fi.1, fi.2)) ∨ (bi = false ∧ xi = .tup [] ∧ Hi' = H ∧ fi.1 = [] ∧ fi.2 = [])) ∧
      ∀ s, Hi' s = if s ∈ fi.2 then Hi s else H s := by
    rcases ci with ⟨hb, hr⟩ | ⟨hb, hx, hH, hr, hw⟩
    · obtain ⟨⟨K1, k1, k2⟩, _⟩ := run_local _ Hj H _ _ _ _ hr (fun s hs => (hjl s fun hm => (hc1 s hm).1 hs).symm)
      exact ⟨K1, .inl ⟨hb, k1⟩, k2⟩
    · exact ⟨H, .inr ⟨hb, hx, rfl, hr, hw⟩, fun s => by rw [hw]; simp⟩
  have hil : ∀ s, s ∉ fi.2 → Hi s = Hj s := by
    rcases ci with ⟨_, hr⟩ | ⟨_, _, rfl, _, _⟩
    · exact (run_local _ Hj Hj _ _ _ _ hr (fun _ _ => rfl)).2
    · exact fun _ _ => rfl
  refine ⟨_, dop_mk gi ci', ?_⟩
  -- then j
  have hfin : putS n (putS n f oj.dst xj) oi.dst xi = putS n (putS n f oi.dst xi) oj.dst xj := putS_comm n f xj xi ha2
  rw [hfin]
  refine dop_mk (by rw [guard_ne (H := H) ha3]; exact gj) ?_
  rw [acts_ne (H := H) ha3]
  rcases cj with ⟨hb, hr⟩ | ⟨hb, hx, hH, hr, hw⟩
  · obtain ⟨⟨K1, k1, k2⟩, _⟩ := run_local _ H Hi' _ _ _ _ hr (fun s hs => by
      rw [hHi' s, if_neg (fun hm => (hc2 s hm).1 hs)])
    have : K1 = Hi := by
      funext s
      rw [k2 s]
      by_cases h1 : s ∈ fj.2
      · rw [if_pos h1, hil s (hc1 s h1).2]
      · rw [if_neg h1, hHi' s]
        by_cases h2 : s ∈ fi.2
        · rw [if_pos h2]
        · rw [if_neg h2, hil s h2, hjl s h1]
    rw [this] at k1
    exact .inl ⟨hb, k1⟩
  · have : Hi = Hi' := by
      funext s
      rw [hHi' s]
      by_cases h2 : s ∈ fi.2
      · rw [if_pos h2]
      · rw [if_neg h2, hil s h2, hH]
    exact .inr ⟨hb, hx, this, hr, hw⟩

/-- Operations, one behind the other, each reading and writing what 'fp' says. -/
inductive Runs (L : Lite) (call : Call1) (ops : Array Oper) (fp : Nat → List Nat × List Nat) : List Nat → St → St → Prop
  | nil (ρ : St) : Runs L call ops fp [] ρ ρ
  | cons {i : Nat} {l : List Nat} {o : Oper} {ρ ρ1 ρ2 : St} (ho : ops[i]? = some o) (hd : dop L call ops o ρ = some (none, ρ1, (fp i).1, (fp i).2)) (h : Runs L call ops fp l ρ1 ρ2) : Runs L call ops fp (i :: l) ρ ρ2

def Indep (ops : Array Oper) (fp : Nat → List Nat × List Nat) (j i : Nat) : Prop := (∀ oj oi, ops[j]? = some oj → ops[i]? = some oi → oj.apart ops oi = true) ∧ clash (fp j) (fp i) = false

theorem Runs.front {fp : Nat → List Nat × List Nat} {i : Nat} {r2 : List Nat} : ∀ {r1 : List Nat} {ρ ρF : St}, (∀ j ∈ r1, Indep ops fp j i) → Runs L call ops fp (r1 ++ i :: r2) ρ ρF → Runs L call ops fp (i :: (r1 ++ r2)) ρ ρF
  | [], ρ, ρF, _, h => h
  | j :: r1, ρ, ρF, hind, h => by
    cases h with
    | @cons _ _ oj _ ρ1 _ ho hd h =>
      have ih := Runs.front (fun k hk => hind k (by simp [hk])) h
      cases ih with
      | @cons _ _ oi _ ρ2 _ ho2 hd2 h2 =>
        obtain ⟨h3, h4⟩ := hind j (by simp)
        obtain ⟨ρ1', k1, k2⟩ := dop_swap (h3 oj oi ho ho2) h4 hd hd2
        exact .cons ho2 k1 (.cons ho k2 h2)

end
end Go.Dv

namespace Go.Dv
open Go

/-! ### which operations wait for which -/
def maskStep (acc : List Nat) (s : Nat) (e : Edge) : Nat := if Region.binds .any e then s ||| 2 ^ e.on ||| acc.getD e.on 0 else s
def maskOf (acc : List Nat) (o : Oper) : Nat := o.after.toList.foldl (maskStep acc) 0

def befs : List Oper → List Nat → List Nat
  | [], acc => acc
  | o :: r, acc => befs r (acc ++ [maskOf acc o])

/-- Pairs of operations neither of which waits for the other. -/
def openPairs (ops : Array Oper) : List (Nat × Nat) :=
  let bs := befs ops.toList []
  (List.range ops.size).flatMap fun i => ((List.range i).filter fun j => !(bs.getD i 0).testBit j).map fun j => (j, i)

def apartAt (ops : Array Oper) (p : Nat × Nat) : Bool := match ops[p.1]?, ops[p.2]? with | some oj, some oi => oj.apart ops oi | _, _ => true

def backEdges : List Oper → Nat → Bool
  | [], _ => true
  | o :: r, i => o.after.all (fun e => !Region.binds .any e || decide (e.on < i)) && backEdges r (i + 1)

def staticOk (ops : Array Oper) : Bool := backEdges ops.toList 0 && (openPairs ops).all (apartAt ops)

def evalOps (L : Lite) (call : Call1) (ops : Array Oper) : List Oper → St → Option (Option V × St)
  | [], ρ => some (.none, ρ)
  | o :: r, ρ => match dop L call ops o ρ with
    | some (.none, ρ', _, _) => evalOps L call ops r ρ'
    | some (some v, ρ', _, _) => some (some v, ρ')
    | .none => .none

def runOps (L : Lite) (call : Call1) (ops : Array Oper) : List Oper → St → Option (St × List (List Nat × List Nat))
  | [], ρ => some (ρ, [])
  | o :: r, ρ => match dop L call ops o ρ with
    | some (.none, ρ', rd, wr) => match runOps L call ops r ρ' with
      | some (ρ2, fps) => some (ρ2, (rd, wr) :: fps)
      | .none => .none
    | _ => .none

/-- Up to the operation that panics: what it says; the state; what the operations before it read and wrote. -/
def runPan (L : Lite) (call : Call1) (ops : Array Oper) : List Oper → St → Option (V × St × List (List Nat × List Nat))
  | [], _ => .none
  | o :: r, ρ => match dop L call ops o ρ with
    | some (.none, ρ', rd, wr) => match runPan L call ops r ρ' with
      | some (v, ρ2, fps) => some (v, ρ2, (rd, wr) :: fps)
      | .none => .none
    | some (some v, ρ', _, _) => some (v, ρ', [])
    | .none => .none

def panOk (ops : Array Oper) (fps : List (List Nat × List Nat)) : Bool := (openPairs ops).all fun p =>
  if p.2 < fps.length then !clash (fps.getD p.1 ([], [])) (fps.getD p.2 ([], [])) else if p.2 = fps.length then (fps.getD p.1 ([], [])).2.isEmpty else decide (p.1 ≠ fps.length)

/-- What is known of the slots is forgotten. -/
def St.wipe (ρ : St) : St := { ρ with sl := fun _ => .undef }

def drawOk (ops : Array Oper) (fps : List (List Nat × List Nat)) : Bool := (openPairs ops).all fun p => !clash (fps.getD p.1 ([], [])) (fps.getD p.2 ([], []))

def evalRegion (L : Lite) (call : Call1) (ops : Array Oper) (draw : Bool) (ρ : St) : Option (Option V × St) :=
  if draw then
    if staticOk ops then
      match runOps L call ops ops.toList ρ with
      | some (ρ', fps) => if drawOk ops fps then some (.none, ρ') else .none
      | .none => match runPan L call ops ops.toList ρ with
        | some (v, ρ', fps) => if panOk ops fps then some (some v, ρ'.wipe) else .none
        | .none => .none
    else .none
  else evalOps L call ops ops.toList ρ

/-- i waits for j by an edge of its own. -/
def Edge1 (ops : Array Oper) (j i : Nat) : Prop := ∃ o e, ops[i]? = some o ∧ e ∈ o.after ∧ Region.binds .any e = true ∧ e.on = j

inductive Waits (ops : Array Oper) : Nat → Nat → Prop
  | one {j i : Nat} (h : Edge1 ops j i) : Waits ops j i
  | more {j k i : Nat} (h : Edge1 ops k i) (t : Waits ops j k) : Waits ops j i

theorem mask_bit (acc : List Nat) (j : Nat) : ∀ (l : List Edge) (s : Nat), (l.foldl (maskStep acc) s).testBit j = true → s.testBit j = true ∨ ∃ e ∈ l, Region.binds .any e = true ∧ (e.on = j ∨ (acc.getD e.on 0).testBit j = true)
  | [], s, h => .inl h
  | e :: l, s, h => by
    rw [List.foldl_cons] at h
    rcases mask_bit acc j l _ h with h | ⟨e', he', h⟩
    · unfold maskStep at h
      split at h
      · rename_i hb
        rw [Nat.testBit_or, Nat.testBit_or] at h
        simp only [Bool.or_eq_true] at h
        rcases h with (h | h) | h
        · exact .inl h
        · refine .inr ⟨e, by simp, hb, .inl ?_⟩
          rw [Nat.testBit_two_pow] at h
          simpa using h
        · exact .inr ⟨e, by simp, hb, .inr h⟩
      · exact .inl h
    · exact .inr ⟨e', by simp [he'], h⟩

theorem befs_spec {ops : Array Oper} : ∀ (rest pre : List Oper) (acc : List Nat), ops.toList = pre ++ rest → acc.length = pre.length → (∀ (i m : Nat), acc[i]? = some m → ∀ j, m.testBit j = true → Waits ops j i) →
    ∀ (i m : Nat), (befs rest acc)[i]? = some m → ∀ j, m.testBit j = true → Waits ops j i
  | [], pre, acc, _, _, h => h
  | o :: r, pre, acc, hp, hl, h => by
    refine befs_spec r (pre ++ [o]) (acc ++ [maskOf acc o]) (by simp [hp]) (by simp [hl]) fun i m hi j hj => ?_
    rw [append_get] at hi
    split at hi
    · exact h i m hi j hj
    · rename_i hlt
      cases hk : i - acc.length with
      | succ k => rw [hk] at hi; simp at hi
      | zero =>
        rw [hk] at hi
        simp at hi
        subst hi
        have hie : i = pre.length := by omega
        have hoi : ops[i]? = some o := by
          rw [← Array.getElem?_toList, hp, hie]; simp
        rcases mask_bit acc j _ 0 hj with h0 | ⟨e, he, hb, h1⟩
        · simp at h0
        · have hed : Edge1 ops e.on i := ⟨o, e, hoi, by simpa using he, hb, rfl⟩
          rcases h1 with rfl | h1
          · exact .one hed
          · refine .more hed ?_
            cases ha : acc[e.on]? with
            | none => rw [List.getD_eq_getElem?_getD, ha] at h1; simp at h1
            | some m => rw [List.getD_eq_getElem?_getD, ha] at h1; exact h e.on m ha j h1

theorem open_of {ops : Array Oper} {j i : Nat} (hji : j < i) (hi : i < ops.size) (hw : ¬ Waits ops j i) : (j, i) ∈ openPairs ops := by
  unfold openPairs
  simp only [List.mem_flatMap, List.mem_range, List.mem_map, List.mem_filter]
  refine ⟨i, hi, j, ⟨hji, ?_⟩, rfl⟩
  cases hb : ((befs ops.toList []).getD i 0).testBit j with
  | false => rfl
  | true =>
    exfalso
    apply hw
    cases hm : (befs ops.toList [])[i]? with
    | none => rw [List.getD_eq_getElem?_getD, hm] at hb; simp at hb
    | some m => rw [List.getD_eq_getElem?_getD, hm] at hb; exact befs_spec ops.toList [] [] (by simp) rfl (fun i m h => by simp at h) i m hm j hb

theorem backEdges_spec {ops : Array Oper} : ∀ (rest pre : List Oper), ops.toList = pre ++ rest → backEdges rest pre.length = true → ∀ i o, pre.length ≤ i → ops[i]? = some o → ∀ e ∈ o.after, Region.binds .any e = true → e.on < i
  | [], pre, hp, _, i, o, hle, ho, e, he, hb => by
    have := (Array.getElem?_eq_some_iff.1 ho).1
    have hs : ops.size = pre.length := by rw [← Array.length_toList, hp]; simp
    omega
  | q :: r, pre, hp, h, i, o, hle, ho, e, he, hb => by
    simp only [backEdges, Bool.and_eq_true] at h
    by_cases hi : i = pre.length
    · have : ops[i]? = some q := by rw [← Array.getElem?_toList, hp, hi]; simp
      rw [this] at ho; cases ho
      have := Array.all_eq_true_iff_forall_mem.1 h.1 e he
      simp [hb] at this
      omega
    · exact backEdges_spec r (pre ++ [q]) (by simp [hp]) (by simpa using h.2) i o (by simp; omega) ho e he hb

section
variable {P : Program} {L : Lite} {c : Ctx} {G : Gh} {ρ : St} {a : Act} {w : World} {call : Call1} {ops : Array Oper}

theorem guard_sound (h : Inv c G ρ a w) {o : Oper} {b : Bool} (hg : guardX ops o ρ = some b) : Region.wanted o (yielded ops a.tmps) = b := by
  unfold guardX at hg
  unfold Region.wanted
  cases hgd : o.guard with
  | none => rw [hgd] at hg; simp at hg; simp [hg]
  | some gw =>
    obtain ⟨j, want⟩ := gw
    rw [hgd] at hg
    simp only at hg ⊢
    cases ht : (ops[j]?).bind (·.dst) with
    | none => rw [ht] at hg; cases hg
    | some t =>
      rw [ht] at hg
      simp only at hg
      have hs := h.slots t
      unfold yielded
      rw [ht]
      simp only [Option.bind_some]
      split at hg
      · rename_i p hp
        cases hg
        rw [hp] at hs
        obtain ⟨hs, _⟩ := lit_val hs
        have : a.tmps[t]? = some (.bool p) := by
          rw [Array.getD_eq_getD_getElem?] at hs
          cases hk : a.tmps[t]? with
          | none => rw [hk] at hs; cases hs
          | some u => rw [hk] at hs; simp at hs; rw [hs]
        rw [this]
        cases p <;> cases want <;> rfl
      · rename_i hp
        cases hg
        rw [hp] at hs
        have : ∀ u, a.tmps[t]? = some u → u = .tuple #[] := by
          intro u hu
          rw [Array.getD_eq_getD_getElem?, hu] at hs
          simp only [Option.getD_some] at hs
          generalize hv : u = v at hs
          cases hs with
          | @tup _ vs hl _ =>
            have : vs = [] := List.eq_nil_of_length_eq_zero (by simpa using hl.symm)
            subst this; rfl
        cases hk : a.tmps[t]? with
        | none => rfl
        | some u => rw [this u hk]; rfl
      · cases hg

theorem sound_dop {r0 : Option Nat} {n : Nat} (ok : LiteOk P L) (cok : CallOk P L call) (hgm : ∀ b o v, L.gm b o = some v → c.mu0 b o = some v) (h : Inv c G ρ a w) {i : Nat} {o : Oper} (hi : ops[i]? = some o) {pv : Option V} {ρ' : St} {r wr : List Nat}
    (hd : dop L call ops o ρ = some (pv, ρ', r, wr)) {K : Act → World → Prop} {Q : Exit → Act → World → Prop} (hk : pv = none → ∀ G' a' w', G'.lam = G.lam → Inv c G' ρ' a' w' → K a' w')
    (hq : ∀ v, pv = some v → ∀ u G' a' w', G'.lam = G.lam → Inv c G' ρ' a' w' → RepV G'.mu v u → Q (.panic [{ v := u, recovered := false }]) a' w') : wpOpIn (openF r0) n P ops Q i K a w := by
  unfold wpOpIn
  simp only [hi]
  unfold dop at hd
  split at hd
  · rename_i hg
    rw [guard_sound h hg]
    simp only [if_true]
    split at hd
    · rename_i x H1 r' w' hr
      simp only [Option.some.injEq, Prod.mk.injEq] at hd
      obtain ⟨rfl, rfl, _, _⟩ := hd
      refine sound_oper ok cok hgm h ⟨_, _, hr⟩ (fun x' hx' u w'' G' g1 g2 g3 => ?_) (fun v hv => by cases hv)
      cases hx'
      exact hk rfl G' _ w'' g1 (Inv.put (ρ := { ρ with ob := H1 }) g2 o.dst g3)
    · rename_i v H1 r' w' hr
      simp only [Option.some.injEq, Prod.mk.injEq] at hd
      obtain ⟨rfl, rfl, _, _⟩ := hd
      refine sound_oper ok cok hgm h ⟨_, _, hr⟩ (fun x' hx' => by cases hx') (fun v' hv' u w'' G' g1 g2 g3 => ?_)
      cases hv'
      exact hq _ rfl u G' a w'' g1 g2 g3
    · cases hd
  · rename_i hg
    rw [guard_sound h hg]
    simp only [Bool.false_eq_true, if_false]
    simp only [Option.some.injEq, Prod.mk.injEq] at hd
    obtain ⟨rfl, rfl, _, _⟩ := hd
    exact ⟨fun _ _ => trivial, hk rfl G _ w rfl (h.put o.dst (.tup (vs := []) rfl (fun i c u h => by simp at h)))⟩
  · cases hd

theorem sound_ops {r0 : Option Nat} {n : Nat} (ok : LiteOk P L) (cok : CallOk P L call) (hgm : ∀ b o v, L.gm b o = some v → c.mu0 b o = some v) {Q : Exit → Act → World → Prop} : ∀ (l : List Oper) (k : Nat) {G : Gh} {ρ : St} {a : Act} {w : World} (h : Inv c G ρ a w) {pv : Option V} {ρ' : St}, ops.toList.drop k = l →
    evalOps L call ops l ρ = some (pv, ρ') → (pv = none → ∀ G' a' w', G'.lam = G.lam → Inv c G' ρ' a' w' → Q .normal a' w') →
    (∀ v, pv = some v → ∀ u G' a' w', G'.lam = G.lam → Inv c G' ρ' a' w' → RepV G'.mu v u → Q (.panic [{ v := u, recovered := false }]) a' w') → wpOpsIn (openF r0) n P ops Q (List.range' k l.length) a w
  | [], k, G, ρ, a, w, h, pv, ρ', hl, he, hk, hq => by
    simp only [evalOps, Option.some.injEq, Prod.mk.injEq] at he
    obtain ⟨rfl, rfl⟩ := he
    exact hk rfl G a w rfl h
  | o :: l, k, G, ρ, a, w, h, pv, ρ', hl, he, hk, hq => by
    have ho : ops[k]? = some o := by
      have := congrArg (fun l => l[0]?) hl
      simp only [List.getElem?_drop, Nat.add_zero, Array.getElem?_toList, List.getElem?_cons_zero] at this
      exact this
    have hl' : ops.toList.drop (k + 1) = l := by
      rw [← List.tail_drop, hl, List.tail_cons]
    rw [List.length_cons, List.range'_succ, wpOpsIn_cons]
    unfold evalOps at he
    split at he
    · rename_i ρ1 r wr hd
      exact sound_dop ok cok hgm h ho hd (fun _ G' a' w' g1 g2 => sound_ops ok cok hgm l (k + 1) g2 hl' he (fun hp G2 a2 w2 l2 i2 => hk hp G2 a2 w2 (l2.trans g1) i2)
        (fun v hv u G2 a2 w2 l2 i2 r2 => hq v hv u G2 a2 w2 (l2.trans g1) i2 r2)) (fun v hv => by cases hv)
    · rename_i v ρ1 r wr hd
      simp only [Option.some.injEq, Prod.mk.injEq] at he
      obtain ⟨rfl, rfl⟩ := he
      exact sound_dop ok cok hgm h ho hd (fun hp => by cases hp) (fun v' hv' u G' a' w' g1 g2 g3 => by cases hv'; exact hq _ rfl u G' a' w' g1 g2 g3)
    · cases he

theorem runOps_runs {fp : Nat → List Nat × List Nat} : ∀ (l : List Oper) (k : Nat) {ρ ρ' : St} {fps : List (List Nat × List Nat)}, ops.toList.drop k = l → runOps L call ops l ρ = some (ρ', fps) →
    (∀ (i : Nat) (f : List Nat × List Nat), fps[i]? = some f → fp (k + i) = f) → fps.length = l.length ∧ Runs L call ops fp (List.range' k l.length) ρ ρ'
  | [], k, ρ, ρ', fps, hl, h, hf => by
    simp only [runOps, Option.some.injEq, Prod.mk.injEq] at h
    obtain ⟨rfl, rfl⟩ := h
    exact ⟨rfl, .nil _⟩
  | o :: l, k, ρ, ρ', fps, hl, h, hf => by
    have ho : ops[k]? = some o := by
      have := congrArg (fun l => l[0]?) hl
      simp only [List.getElem?_drop, Nat.add_zero, Array.getElem?_toList, List.getElem?_cons_zero] at this
      exact this
    have hl' : ops.toList.drop (k + 1) = l := by
      rw [← List.tail_drop, hl, List.tail_cons]
    unfold runOps at h
    split at h
    · rename_i ρ1 rd wr hd
      split at h
      · rename_i ρ2 fps2 hr
        simp only [Option.some.injEq, Prod.mk.injEq] at h
        obtain ⟨rfl, rfl⟩ := h
        obtain ⟨h1, h2⟩ := runOps_runs (fp := fp) l (k + 1) hl' hr (fun i f hi => by rw [← hf (i + 1) f (by simpa using hi)]; congr 1; omega)
        refine ⟨by simp [h1], ?_⟩
        rw [List.length_cons, List.range'_succ]
        have hfk := hf 0 (rd, wr) rfl
        rw [Nat.add_zero] at hfk
        exact .cons ho (by rw [hfk]; exact hd) h2
      · cases h
    · cases h

/-- From any point at which the operations that are left still go through, in the text's order: in every order. -/
theorem sound_any {r0 : Option Nat} {n : Nat} (ok : LiteOk P L) (cok : CallOk P L call) (hgm : ∀ b o v, L.gm b o = some v → c.mu0 b o = some v) {Q : Exit → Act → World → Prop} {fp : Nat → List Nat × List Nat} {ρF : St} (hst : staticOk ops = true)
    (hcl : ∀ j i, (j, i) ∈ openPairs ops → clash (fp j) (fp i) = false) : ∀ (fuel : Nat) (rest : List Nat) (listed : Array Bool) {G : Gh} {ρ : St} {a : Act} {w : World} (h : Inv c G ρ a w), rest.length = fuel → listed.size = ops.size →
    rest.Pairwise (· < ·) → (∀ i, i ∈ rest ↔ (i < ops.size ∧ listed.getD i true = false)) → (∀ i, i < ops.size → listed.getD i true = true → ∀ j, Edge1 ops j i → listed.getD j false = true) →
    Runs L call ops fp rest ρ ρF → (∀ G' a' w', G'.lam = G.lam → Inv c G' ρF a' w' → Q .normal a' w') → wpAnyIn (openF r0) n P .any ops Q fuel listed a w := by
  obtain ⟨hback, hap⟩ : backEdges ops.toList 0 = true ∧ (openPairs ops).all (apartAt ops) = true := by
    unfold staticOk at hst
    simpa using hst
  have back := fun i o (ho : ops[i]? = some o) => backEdges_spec ops.toList [] (by simp) hback i o (Nat.zero_le _) ho
  intro fuel
  induction fuel with
  | zero =>
    intro rest listed G ρ a w h hlen hsz hpw hmem hclosed hruns hk
    have hr0 : rest = [] := List.eq_nil_of_length_eq_zero hlen
    subst hr0
    refine ⟨?_, ?_⟩
    · refine List.eq_nil_iff_forall_not_mem.2 fun i hi => ?_
      obtain ⟨h1, o, ho, _⟩ := mem_ready.1 hi
      have := (hmem i).2 ⟨(Array.getElem?_eq_some_iff.1 ho).1, h1⟩
      simp at this
    · cases hruns; exact hk G a w rfl h
  | succ fuel ih =>
    intro rest listed G ρ a w h hlen hsz hpw hmem hclosed hruns hk
    have unl : ∀ i, i ∉ rest → i < ops.size → listed.getD i false = true := by
      intro i hi hlt
      cases hb : listed.getD i true with
      | false => exact absurd ((hmem i).2 ⟨hlt, hb⟩) hi
      | true =>
        rw [Array.getD_eq_getD_getElem?, Array.getElem?_eq_getElem (by omega)] at hb ⊢
        exact hb
    refine ⟨fun hr => ?_, fun i hi => ?_⟩
    · -- something is always ready
      exfalso
      cases hrest : rest with
      | nil => rw [hrest] at hlen; simp at hlen
      | cons i r =>
        obtain ⟨hil, hl⟩ := (hmem i).1 (by rw [hrest]; simp)
        have : i ∈ Region.ready .any ops listed := by
          refine mem_ready.2 ⟨hl, ops[i], Array.getElem?_eq_getElem hil, fun e he hb => ?_⟩
          have hlt := back i _ (Array.getElem?_eq_getElem hil) e he hb
          refine unl e.on (fun hm => ?_) (by omega)
          rw [hrest] at hm hpw
          rcases List.mem_cons.1 hm with k | k
          · omega
          · have := (List.pairwise_cons.1 hpw).1 _ k; omega
        rw [hr] at this; simp at this
    · obtain ⟨hl, o, ho, hed⟩ := mem_ready.1 hi
      have hilt := (Array.getElem?_eq_some_iff.1 ho).1
      obtain ⟨r1, r2, hsplit⟩ := List.append_of_mem ((hmem i).2 ⟨hilt, hl⟩)
      have hpw' : (r1 ++ i :: r2).Pairwise (· < ·) := by rw [← hsplit]; exact hpw
      have hind : ∀ j ∈ r1, Indep ops fp j i := by
        intro j hj
        have hji : j < i := (List.pairwise_append.1 hpw').2.2 j hj i (by simp)
        have hjl : listed.getD j true = false := ((hmem j).1 (by rw [hsplit]; simp [hj])).2
        have hjf : listed.getD j false = false := by
          rw [Array.getD_eq_getD_getElem?, Array.getElem?_eq_getElem (by omega)] at hjl ⊢
          exact hjl
        have hnw : ¬ Waits ops j i := by
          have closed : ∀ k, k < ops.size → listed.getD k false = true → ∀ j, Waits ops j k → listed.getD j false = true := by
            intro k hk hlk j hw
            induction hw with
            | one hE =>
              exact hclosed _ hk (by rw [Array.getD_eq_getD_getElem?, Array.getElem?_eq_getElem (by omega)] at hlk ⊢; exact hlk) _ hE
            | @more k' i' hE t iht =>
              rename_i kk
              have hk' := hclosed _ hk (by rw [Array.getD_eq_getD_getElem?, Array.getElem?_eq_getElem (by omega)] at hlk ⊢; exact hlk) _ hE
              obtain ⟨o', e', ho', he', hb', rfl⟩ := hE
              have hlt' := back _ o' ho' e' he' hb'
              exact iht (by omega) hk'
          intro hw
          have first : ∀ k, Edge1 ops k i → listed.getD k false = true := by
            intro k ⟨o', e', ho', he', hb', he⟩
            rw [ho] at ho'; cases ho'
            rw [← he]; exact hed e' he' hb'
          cases hw with
          | one hE => rw [first j hE] at hjf; cases hjf
          | @more k _ hE t =>
            obtain ⟨o', e', ho', he', hb', rfl⟩ := hE
            have hlt' := back _ o' ho' e' he' hb'
            rw [closed e'.on (by omega) (first _ ⟨o', e', ho', he', hb', rfl⟩) j t] at hjf
            cases hjf
        have hop := open_of hji hilt hnw
        refine ⟨fun oj oi hoj hoi => ?_, hcl j i hop⟩
        have := List.all_eq_true.1 hap (j, i) hop
        unfold apartAt at this
        simp only [hoj, hoi] at this
        exact this
      rw [hsplit] at hruns
      cases Runs.front hind hruns with
      | @cons _ _ o' _ ρ1 _ ho' hd hrest =>
        rw [ho] at ho'; cases ho'
        refine sound_dop ok cok hgm h ho hd (fun _ G' a' w' g1 g2 => ?_) (fun v hv => by cases hv)
        refine ih (r1 ++ r2) (listed.setIfInBounds i true) g2 ?_ (by simpa using hsz) ?_ (fun k => ?_) (fun k hk hlk j hE => ?_) hrest (fun G2 a2 w2 l2 i2 => hk G2 a2 w2 (l2.trans g1) i2)
        · rw [hsplit] at hlen; simp at hlen ⊢; omega
        · have := List.pairwise_append.1 hpw'
          exact List.pairwise_append.2 ⟨this.1, (List.pairwise_cons.1 this.2.1).2, fun x hx y hy => this.2.2 x hx y (by simp [hy])⟩
        · by_cases hki : k = i
          · subst hki
            have hnot : k ∉ r1 ++ r2 := by
              intro hm
              have hnd := List.pairwise_append.1 hpw'
              rcases List.mem_append.1 hm with hm | hm
              · have := hnd.2.2 k hm k (by simp); omega
              · have := (List.pairwise_cons.1 hnd.2.1).1 k hm; omega
            constructor
            · intro hm; exact absurd hm hnot
            · intro ⟨_, hf⟩
              rw [Array.getD_eq_getD_getElem?, Array.getElem?_setIfInBounds_self_of_lt (by omega)] at hf
              simp at hf
          · rw [getD_set_ne true (fun e => hki e.symm), ← hmem k, hsplit]
            simp [hki]
        · by_cases hki : k = i
          · subst hki
            obtain ⟨o', e', ho', he', hb', rfl⟩ := hE
            rw [ho] at ho'; cases ho'
            exact getD_set_true (hed e' he' hb')
          · rw [getD_set_ne true (fun e => hki e.symm)] at hlk
            exact getD_set_true (hclosed k hk hlk j hE)

/-- An operation that panics, behind one that writes nothing and that it does not look at. -/
theorem dop_back {oj oi : Oper} {ρ ρ1 ρ2 : St} {v : V} {fj fi : List Nat × List Nat} (hap : oj.apart ops oi = true) (hw : fj.2 = [])
    (hj : dop L call ops oj ρ = some (none, ρ1, fj.1, fj.2)) (hi : dop L call ops oi ρ1 = some (some v, ρ2, fi.1, fi.2)) :
    ∃ ρ2', dop L call ops oi ρ = some (some v, ρ2', fi.1, fi.2) ∧ ρ2'.ob = ρ2.ob ∧ ρ2'.n = ρ2.n := by
  obtain ⟨n, f, H⟩ := ρ
  obtain ⟨ha1, ha2, ha3⟩ := Oper.apart_spec hap
  obtain ⟨bj, xj, Hj, gj, rfl, cj⟩ := dop_spec hj
  have hHj : Hj = H := by
    rcases cj with ⟨_, hr⟩ | ⟨_, _, rfl, _, _⟩
    · funext s
      exact (run_local _ H H _ _ _ _ hr (fun _ _ => rfl)).2 s (by rw [hw]; simp)
    · rfl
  subst hHj
  unfold dop at hi ⊢
  rw [guard_ne (H := Hj) ha1] at hi
  cases hg : guardX ops oi ⟨n, f, Hj⟩ with
  | none => rw [hg] at hi; cases hi
  | some b =>
    rw [hg] at hi
    cases b with
    | false => simp at hi
    | true =>
      simp only at hi ⊢
      rw [acts_ne (H := Hj) ha1] at hi
      split at hi
      · cases hi
      · rename_i v' H2 r w hr
        simp only [Option.some.injEq, Prod.mk.injEq] at hi
        obtain ⟨rfl, rfl, h1, h2⟩ := hi
        exact ⟨⟨n, f, H2⟩, by rw [h1, h2], rfl, rfl⟩
      · cases hi

theorem runs_back {fp : Nat → List Nat × List Nat} {p : Nat} {op : Oper} {v : V} {fi : List Nat × List Nat} (hp : ops[p]? = some op) : ∀ {l : List Nat} {ρ ρp ρ2 : St}, (∀ j ∈ l, (∀ oj oi, ops[j]? = some oj → ops[p]? = some oi → oj.apart ops oi = true) ∧ (fp j).2 = []) →
    Runs L call ops fp l ρ ρp → dop L call ops op ρp = some (some v, ρ2, fi.1, fi.2) → ∃ ρ2', dop L call ops op ρ = some (some v, ρ2', fi.1, fi.2) ∧ ρ2'.ob = ρ2.ob ∧ ρ2'.n = ρ2.n
  | [], ρ, ρp, ρ2, _, h, hd => by cases h; exact ⟨_, hd, rfl, rfl⟩
  | j :: l, ρ, ρp, ρ2, hind, h, hd => by
    cases h with
    | @cons _ _ oj _ ρ1 _ ho hdj h =>
      obtain ⟨ρ2', k1, k2, k3⟩ := runs_back hp (fun k hk => hind k (by simp [hk])) h hd
      obtain ⟨h3, h4⟩ := hind j (by simp)
      obtain ⟨ρ3, m1, m2, m3⟩ := dop_back (h3 oj op ho hp) h4 hdj k1
      exact ⟨ρ3, m1, m2.trans k2, m3.trans k3⟩

theorem runPan_runs {fp : Nat → List Nat × List Nat} : ∀ (l : List Oper) (k : Nat) {ρ ρ' : St} {v : V} {fps : List (List Nat × List Nat)}, ops.toList.drop k = l → runPan L call ops l ρ = some (v, ρ', fps) →
    (∀ (i : Nat) (f : List Nat × List Nat), fps[i]? = some f → fp (k + i) = f) → ∃ op ρp fi, ops[k + fps.length]? = some op ∧ Runs L call ops fp (List.range' k fps.length) ρ ρp ∧ dop L call ops op ρp = some (some v, ρ', (fi : List Nat × List Nat).1, fi.2)
  | [], k, ρ, ρ', v, fps, hl, h, hf => by simp [runPan] at h
  | o :: l, k, ρ, ρ', v, fps, hl, h, hf => by
    have ho : ops[k]? = some o := by
      have := congrArg (fun l => l[0]?) hl
      simp only [List.getElem?_drop, Nat.add_zero, Array.getElem?_toList, List.getElem?_cons_zero] at this
      exact this
    have hl' : ops.toList.drop (k + 1) = l := by
      rw [← List.tail_drop, hl, List.tail_cons]
    unfold runPan at h
    split at h
    · rename_i ρ1 rd wr hd
      split at h
      · rename_i v2 ρ2 fps2 hr
        simp only [Option.some.injEq, Prod.mk.injEq] at h
        obtain ⟨rfl, rfl, rfl⟩ := h
        obtain ⟨op, ρp, fi, h1, h2, h3⟩ := runPan_runs (fp := fp) l (k + 1) hl' hr (fun i f hi => by rw [← hf (i + 1) f (by simpa using hi)]; congr 1; omega)
        refine ⟨op, ρp, fi, ?_, ?_, h3⟩
        · rw [List.length_cons, show k + (fps2.length + 1) = k + 1 + fps2.length by omega]; exact h1
        · rw [List.length_cons, List.range'_succ]
          have hfk := hf 0 (rd, wr) rfl
          rw [Nat.add_zero] at hfk
          exact .cons ho (by rw [hfk]; exact hd) h2
      · cases h
    · rename_i v2 ρ1 rd wr hd
      simp only [Option.some.injEq, Prod.mk.injEq] at h
      obtain ⟨rfl, rfl, rfl⟩ := h
      exact ⟨o, ρ, (rd, wr), by simpa using ho, .nil _, hd⟩
    · cases h

theorem Inv.wipe (h : Inv c G ρ a w) : Inv c G ρ.wipe a w :=
  ⟨h.size, fun i => .undef _, h.objs, h.hmu, h.hlam, h.inj, h.place, h.sepl, h.sepb, h.sepr, h.rown, h.iom, h.base, h.cB, h.mu0, h.mu1, h.defers, h.kept, h.rest, h.restm⟩

/-- An operation panics, in the text's order: in every order the same panic. -/
theorem sound_anyP {r0 : Option Nat} {n : Nat} (ok : LiteOk P L) (cok : CallOk P L call) (hgm : ∀ b o v, L.gm b o = some v → c.mu0 b o = some v) {Q : Exit → Act → World → Prop} {fp : Nat → List Nat × List Nat} {p : Nat} {op : Oper} {v : V} {fi : List Nat × List Nat} {ρF : St} (hst : staticOk ops = true)
    (hp : ops[p]? = some op)
    (hcl : ∀ j i, (j, i) ∈ openPairs ops → (i < p → clash (fp j) (fp i) = false) ∧ (i = p → (fp j).2 = []) ∧ j ≠ p) : ∀ (fuel : Nat) (pre rest : List Nat) (listed : Array Bool) {G : Gh} {ρ ρp ρ2 : St} {a : Act} {w : World} (h : Inv c G ρ a w), rest.length = fuel → listed.size = ops.size →
    rest.Pairwise (· < ·) → (∀ i, i ∈ rest ↔ (i < ops.size ∧ listed.getD i true = false)) → (∀ i, i < ops.size → listed.getD i true = true → ∀ j, Edge1 ops j i → listed.getD j false = true) →
    p ∈ rest → pre.Pairwise (· < ·) → (∀ i, i ∈ pre ↔ i ∈ rest ∧ i < p) →
    Runs L call ops fp pre ρ ρp → dop L call ops op ρp = some (some v, ρ2, fi.1, fi.2) → ρ2.ob = ρF.ob → ρ2.n = ρF.n → (∀ u G' a' w', G'.lam = G.lam → Inv c G' ρF.wipe a' w' → RepV G'.mu v u → Q (.panic [{ v := u, recovered := false }]) a' w') → wpAnyIn (openF r0) n P .any ops Q fuel listed a w := by
  obtain ⟨hback, hap⟩ : backEdges ops.toList 0 = true ∧ (openPairs ops).all (apartAt ops) = true := by
    unfold staticOk at hst
    simpa using hst
  have back := fun i o (ho : ops[i]? = some o) => backEdges_spec ops.toList [] (by simp) hback i o (Nat.zero_le _) ho
  have hpl := (Array.getElem?_eq_some_iff.1 hp).1
  intro fuel
  induction fuel with
  | zero =>
    intro pre rest listed G ρ ρp ρ2 a w h hlen hsz hpw hmem hclosed hpr
    have hr0 : rest = [] := List.eq_nil_of_length_eq_zero hlen
    subst hr0
    simp at hpr
  | succ fuel ih =>
    intro pre rest listed G ρ ρp ρ2 a w h hlen hsz hpw hmem hclosed hpr hprew hpre hruns hpan hob hn hq
    have unl : ∀ i, i ∉ rest → i < ops.size → listed.getD i false = true := by
      intro i hi hlt
      cases hb : listed.getD i true with
      | false => exact absurd ((hmem i).2 ⟨hlt, hb⟩) hi
      | true =>
        rw [Array.getD_eq_getD_getElem?, Array.getElem?_eq_getElem (by omega)] at hb ⊢
        exact hb
    have lf : ∀ j ∈ rest, listed.getD j false = false := by
      intro j hj
      obtain ⟨hjl, hjf⟩ := (hmem j).1 hj
      rw [Array.getD_eq_getD_getElem?, Array.getElem?_eq_getElem (by omega)] at hjf ⊢
      exact hjf
    have closed : ∀ k, k < ops.size → listed.getD k false = true → ∀ j, Waits ops j k → listed.getD j false = true := by
      intro k hk hlk j hw
      induction hw with
      | one hE =>
        exact hclosed _ hk (by rw [Array.getD_eq_getD_getElem?, Array.getElem?_eq_getElem (by omega)] at hlk ⊢; exact hlk) _ hE
      | more hE t iht =>
        have hk' := hclosed _ hk (by rw [Array.getD_eq_getD_getElem?, Array.getElem?_eq_getElem (by omega)] at hlk ⊢; exact hlk) _ hE
        obtain ⟨o', e', ho', he', hb', rfl⟩ := hE
        have hlt' := back _ o' ho' e' he' hb'
        exact iht (by omega) hk'
    -- what is ready waits for nothing that is left
    have nowait : ∀ i, i ∈ Region.ready .any ops listed → ∀ j ∈ rest, ¬ Waits ops j i := by
      intro i hi j hj hw
      obtain ⟨hl, o, ho, hed⟩ := mem_ready.1 hi
      have hilt := (Array.getElem?_eq_some_iff.1 ho).1
      have first : ∀ k, Edge1 ops k i → listed.getD k false = true := by
        intro k ⟨o', e', ho', he', hb', he⟩
        rw [ho] at ho'; cases ho'
        rw [← he]; exact hed e' he' hb'
      have hjf := lf j hj
      cases hw with
      | one hE => rw [first j hE] at hjf; cases hjf
      | @more k _ hE t =>
        obtain ⟨o', e', ho', he', hb', rfl⟩ := hE
        have hlt' := back _ o' ho' e' he' hb'
        rw [closed e'.on (by omega) (first _ ⟨o', e', ho', he', hb', rfl⟩) j t] at hjf
        cases hjf
    refine ⟨fun hr => ?_, fun i hi => ?_⟩
    · exfalso
      cases hrest : rest with
      | nil => rw [hrest] at hlen; simp at hlen
      | cons i r =>
        obtain ⟨hil, hl⟩ := (hmem i).1 (by rw [hrest]; simp)
        have : i ∈ Region.ready .any ops listed := by
          refine mem_ready.2 ⟨hl, ops[i], Array.getElem?_eq_getElem hil, fun e he hb => ?_⟩
          have hlt := back i _ (Array.getElem?_eq_getElem hil) e he hb
          refine unl e.on (fun hm => ?_) (by omega)
          rw [hrest] at hm hpw
          rcases List.mem_cons.1 hm with k | k
          · omega
          · have := (List.pairwise_cons.1 hpw).1 _ k; omega
        rw [hr] at this; simp at this
    · have hnw := nowait i hi
      obtain ⟨hl, o, ho, hed⟩ := mem_ready.1 hi
      have hilt := (Array.getElem?_eq_some_iff.1 ho).1
      have hir : i ∈ rest := (hmem i).2 ⟨hilt, hl⟩
      have apart : ∀ j ∈ rest, j < i → (∀ oj oi, ops[j]? = some oj → ops[i]? = some oi → oj.apart ops oi = true) ∧ (j, i) ∈ openPairs ops := by
        intro j hj hji
        have hop := open_of hji hilt (hnw j hj)
        refine ⟨fun oj oi hoj hoi => ?_, hop⟩
        have := List.all_eq_true.1 hap (j, i) hop
        unfold apartAt at this
        simp only [hoj, hoi] at this
        exact this
      rcases Nat.lt_trichotomy i p with hip | hip | hip
      · -- one of those before it
        obtain ⟨r1, r2, hsplit⟩ := List.append_of_mem ((hpre i).2 ⟨hir, hip⟩)
        have hpw' : (r1 ++ i :: r2).Pairwise (· < ·) := by rw [← hsplit]; exact hprew
        have hind : ∀ j ∈ r1, Indep ops fp j i := by
          intro j hj
          have hji : j < i := (List.pairwise_append.1 hpw').2.2 j hj i (by simp)
          obtain ⟨k1, k2⟩ := apart j ((hpre j).1 (by rw [hsplit]; simp [hj])).1 hji
          exact ⟨k1, (hcl j i k2).1 hip⟩
        rw [hsplit] at hruns
        cases Runs.front hind hruns with
        | @cons _ _ o' _ ρ1 _ ho' hd hrest =>
          rw [ho] at ho'; cases ho'
          obtain ⟨s1, s2, hs⟩ := List.append_of_mem hir
          have hpws : (s1 ++ i :: s2).Pairwise (· < ·) := by rw [← hs]; exact hpw
          have hni : i ∉ s1 ++ s2 := by
            intro hm
            have hnd := List.pairwise_append.1 hpws
            rcases List.mem_append.1 hm with hm | hm
            · have := hnd.2.2 i hm i (by simp); omega
            · have := (List.pairwise_cons.1 hnd.2.1).1 i hm; omega
          have hrm : ∀ k, k ∈ s1 ++ s2 ↔ k ∈ rest ∧ k ≠ i := by
            intro k
            rw [hs]
            constructor
            · intro hk; exact ⟨by rcases List.mem_append.1 hk with h | h <;> simp [h], fun e => by subst e; exact hni hk⟩
            · intro ⟨hk, hne⟩
              rcases List.mem_append.1 hk with h | h
              · simp [h]
              · rcases List.mem_cons.1 h with h | h
                · exact absurd h hne
                · simp [h]
          have hpni : i ∉ r1 ++ r2 := by
            intro hm
            have hnd := List.pairwise_append.1 hpw'
            rcases List.mem_append.1 hm with hm | hm
            · have := hnd.2.2 i hm i (by simp); omega
            · have := (List.pairwise_cons.1 hnd.2.1).1 i hm; omega
          refine sound_dop ok cok hgm h ho hd (fun _ G' a' w' g1 g2 => ?_) (fun v hv => by cases hv)
          refine ih (r1 ++ r2) (s1 ++ s2) (listed.setIfInBounds i true) g2 ?_ (by simpa using hsz) ?_ (fun k => ?_) (fun k hk hlk j hE => ?_) ((hrm p).2 ⟨hpr, by omega⟩) ?_ (fun k => ?_) hrest hpan hob hn
            (fun u G2 a2 w2 l2 i2 r2 => hq u G2 a2 w2 (l2.trans g1) i2 r2)
          · rw [hs] at hlen; simp at hlen ⊢; omega
          · have := List.pairwise_append.1 hpws
            exact List.pairwise_append.2 ⟨this.1, (List.pairwise_cons.1 this.2.1).2, fun x hx y hy => this.2.2 x hx y (by simp [hy])⟩
          · rw [hrm k, hmem k]
            by_cases hki : k = i
            · subst hki
              rw [show (listed.setIfInBounds k true).getD k true = true from by rw [Array.getD_eq_getD_getElem?, Array.getElem?_setIfInBounds_self_of_lt (by omega)]; rfl]
              simp
            · rw [getD_set_ne true (fun e => hki e.symm)]
              simp [hki]
          · by_cases hki : k = i
            · subst hki
              obtain ⟨o', e', ho', he', hb', rfl⟩ := hE
              rw [ho] at ho'; cases ho'
              exact getD_set_true (hed e' he' hb')
            · rw [getD_set_ne true (fun e => hki e.symm)] at hlk
              exact getD_set_true (hclosed k hk hlk j hE)
          · have := List.pairwise_append.1 hpw'
            exact List.pairwise_append.2 ⟨this.1, (List.pairwise_cons.1 this.2.1).2, fun x hx y hy => this.2.2 x hx y (by simp [hy])⟩
          · rw [hrm k]
            have hk1 := hpre k
            rw [hsplit] at hk1
            constructor
            · intro hk
              have hne : k ≠ i := fun e => by subst e; exact hpni hk
              obtain ⟨k1, k2⟩ := hk1.1 (by rcases List.mem_append.1 hk with h | h <;> simp [h])
              exact ⟨⟨k1, hne⟩, k2⟩
            · intro ⟨⟨k1, hne⟩, k2⟩
              rcases List.mem_append.1 (hk1.2 ⟨k1, k2⟩) with h | h
              · simp [h]
              · rcases List.mem_cons.1 h with h | h
                · exact absurd h hne
                · simp [h]
      · -- it
        subst hip
        rw [hp] at ho; cases ho
        obtain ⟨ρ2', k1, k2, k3⟩ := runs_back hp (fun j hj => by
          obtain ⟨m1, m2⟩ := (hpre j).1 hj
          obtain ⟨n1, n2⟩ := apart j m1 m2
          exact ⟨n1, (hcl j i n2).2.1 rfl⟩) hruns hpan
        refine sound_dop ok cok hgm h hp k1 (fun hv => by cases hv) (fun v' hv u G' a' w' g1 g2 g3 => ?_)
        cases hv
        refine hq u G' a' w' g1 ?_ g3
        have hw := g2.wipe
        have e : ρ2'.wipe = ρF.wipe := by
          unfold St.wipe
          rw [k2, k3, hob, hn]
        rwa [e] at hw
      · -- one behind it
        exfalso
        exact (hcl p i (open_of hip hilt (hnw p hpr))).2.2 rfl

theorem sound_region {r0 : Option Nat} {n : Nat} (ok : LiteOk P L) (cok : CallOk P L call) (hgm : ∀ b o v, L.gm b o = some v → c.mu0 b o = some v) (h : Inv c G ρ a w) {id : Nat} {draw : Bool} {pv : Option V} {ρ' : St} (he : evalRegion L call ops draw ρ = some (pv, ρ')) {Q : Exit → Act → World → Prop}
    (hk : pv = none → ∀ G' a' w', G'.lam = G.lam → Inv c G' ρ' a' w' → Q .normal a' w')
    (hq : ∀ v, pv = some v → ∀ u G' a' w', G'.lam = G.lam → Inv c G' ρ' a' w' → RepV G'.mu v u → Q (.panic [{ v := u, recovered := false }]) a' w') : (Code.region id ops draw).wpIn (openF r0) n P Q a w := by
  unfold evalRegion at he
  cases draw with
  | false =>
    simp only [Bool.false_eq_true, if_false] at he
    refine wpIn_region ?_
    have := sound_ops (r0 := r0) (n := n) ok cok hgm ops.toList 0 h (by simp) he hk hq
    rw [Array.length_toList, ← List.range_eq_range'] at this
    exact this
  | true =>
    simp only [if_true] at he
    split at he
    · rename_i hst
      split at he
      · rename_i ρ1 fps hr
        split at he
        · rename_i hdr
          simp only [Option.some.injEq, Prod.mk.injEq] at he
          obtain ⟨rfl, rfl⟩ := he
          obtain ⟨h1, h2⟩ := runOps_runs (fp := fun i => fps.getD i ([], [])) ops.toList 0 (by simp) hr (fun i f hi => by rw [Nat.zero_add, List.getD_eq_getElem?_getD, hi]; rfl)
          rw [Array.length_toList, ← List.range_eq_range'] at h2
          refine wpIn_region_any ok.mixed ?_
          refine sound_any ok cok hgm hst (fun j i hp => ?_) ops.size (List.range ops.size) (Array.replicate ops.size false) (h.drew rfl rfl rfl rfl) (by simp) (by simp) List.pairwise_lt_range (fun i => ?_) (fun i hi hl => ?_) h2 (hk rfl)
          · have := List.all_eq_true.1 hdr (j, i) hp
            simpa using this
          · simp only [List.mem_range]
            constructor
            · intro hi; exact ⟨hi, by simp [hi]⟩
            · intro hi; exact hi.1
          · rw [Array.getD_eq_getD_getElem?] at hl
            simp [hi] at hl
        · cases he
      · split at he
        · rename_i v ρ1 fps hr
          split at he
          · rename_i hpo
            simp only [Option.some.injEq, Prod.mk.injEq] at he
            obtain ⟨rfl, rfl⟩ := he
            obtain ⟨op, ρp, fi, h1, h2, h3⟩ := runPan_runs (fp := fun i => fps.getD i ([], [])) ops.toList 0 (by simp) hr (fun i f hi => by rw [Nat.zero_add, List.getD_eq_getElem?_getD, hi]; rfl)
            rw [Nat.zero_add] at h1
            rw [← List.range_eq_range'] at h2
            have hpl := (Array.getElem?_eq_some_iff.1 h1).1
            refine wpIn_region_any ok.mixed ?_
            refine sound_anyP ok cok hgm hst h1 (fun j i hp => ?_) ops.size (List.range fps.length) (List.range ops.size) (Array.replicate ops.size false) (h.drew rfl rfl rfl rfl) (by simp) (by simp) List.pairwise_lt_range (fun i => ?_) (fun i hi hl => ?_)
              (List.mem_range.2 hpl) List.pairwise_lt_range (fun i => ?_) h2 h3 rfl rfl (hq v rfl)
            · have hh := List.all_eq_true.1 hpo (j, i) hp
              have hji : j < i := by
                unfold openPairs at hp
                simp only [List.mem_flatMap, List.mem_range, List.mem_map, List.mem_filter] at hp
                obtain ⟨x, _, y, ⟨hy, _⟩, e⟩ := hp
                cases e; exact hy
              simp only at hh
              split at hh
              · rename_i hlt
                exact ⟨fun _ => by simpa using hh, fun e => by omega, by omega⟩
              · rename_i hlt
                split at hh
                · rename_i he
                  exact ⟨fun h => absurd h hlt, fun _ => by simpa using hh, by omega⟩
                · rename_i he
                  exact ⟨fun h => absurd h hlt, fun e => absurd e he, by simpa using hh⟩
            · simp only [List.mem_range]
              constructor
              · intro hi; exact ⟨hi, by simp [hi]⟩
              · intro hi; exact hi.1
            · rw [Array.getD_eq_getD_getElem?] at hl
              simp [hi] at hl
            · simp only [List.mem_range]
              constructor
              · intro hi; exact ⟨by omega, hi⟩
              · intro hi; exact hi.2
          · cases he
        · cases he
    · cases he

end
end Go.Dv

namespace Go.Dv
open Go

inductive Ex where
  | normal
  | exit (id : Nat)
  | ret
  | pan (v : V)

def loopN (f : St → Option (Ex × St)) : Nat → St → Option (Ex × St)
  | 0, _ => .none
  | n + 1, ρ => match f ρ with
    | some (.normal, ρ') => loopN f n ρ'
    | r => r

def evalCode (L : Lite) (call : Call1) (n : Nat) : Code → St → Option (Ex × St)
  | .skip, ρ => some (.normal, ρ)
  | .label _, ρ => some (.normal, ρ)
  | .region _ ops draw, ρ => match evalRegion L call ops draw ρ with
    | some (.none, ρ') => some (.normal, ρ')
    | some (some v, ρ') => some (.pan v, ρ')
    | .none => .none
  | .seq a b, ρ => match evalCode L call n a ρ with
    | some (.normal, ρ') => evalCode L call n b ρ'
    | r => r
  | .cond c x y, ρ => match ρ.opd c with
    | .v (.lit (.bool p)) => if p then evalCode L call n x ρ else evalCode L call n y ρ
    | _ => .none
  | .block id c, ρ => match evalCode L call n c ρ with
    | some (.exit i, ρ') => if i = id then some (.normal, ρ') else some (.exit i, ρ')
    | r => r
  | .loop c, ρ => loopN (evalCode L call n c) n ρ
  | .exit id, ρ => some (.exit id, ρ)
  | .scope c, ρ => evalCode L call n c ρ
  | .ret, ρ => some (.ret, ρ)
  | _, _ => .none

/-- The results, kept for good. -/
def resEf (L : Lite) (sl : Nat → X) : List ResultVar → (List V → Ef (List V)) → Ef (List V)
  | [], k => k []
  | .tmp t :: r, k => frz (sl t) fun v => resEf L sl r fun vs => k (v :: vs)
  | .cell a t :: r, k => match sl a with
    | .addr s g off => .get s fun o => match o with
      | .box g' cs => if g = g' then
          (if (L.ti t).kd = 2 then
            if off + (L.ti t).size ≤ cs.length then ov (xvs ((cs.drop off).take (L.ti t).size)) fun ys => resEf L sl r fun vs => k (.agg ys :: vs) else .fail
          else if (L.ti t).kd = 1 then ov cs[off]? fun x => frz x fun v => resEf L sl r fun vs => k (v :: vs) else .fail) else .fail
      | _ => .fail
    | _ => .fail

def outs (H : Nat → Ob) (n : Nat) : Nat → Option (List (List V))
  | 0 => some []
  | m + 1 => match H n with
    | .box _ xs => match xvs xs, outs H (n + 1) m with
      | some ys, some r => some (ys :: r)
      | _, _ => .none
    | _ => .none

def enterSt (fn : Func) (as : List X) (cs : List (List V)) : St := ⟨fn.ntmps, fun i => as.getD i .undef, ioOb fn.ntmps cs⟩

def runFn (L : Lite) (call : Call1) (n : Nat) (fn : Func) (as : List X) (cs : List (List V)) : Option (Res × List (List V)) :=
  match fn.body with
  | .none => .none
  | some c =>
    if as.length ≤ fn.ntmps then
      match evalCode L call n c (enterSt fn as cs) with
      | some (.pan v, ρ) => match outs ρ.ob fn.ntmps cs.length with
        | some r => some (.pan v, r)
        | .none => .none
      | some (.exit _, _) => .none
      | some (_, ρ) => match (resEf L ρ.sl fn.results.toList .ret).run ρ.ob with
        | some (vs, H, _, _) => match outs H fn.ntmps cs.length with
          | some r => some (.ret vs, r)
          | .none => .none
        | .none => .none
      | .none => .none
    else .none

/-- How a function is run that is told by a contract of its own: over the calls that it may make, with so much fuel. -/
abbrev Runner := Call1 → Nat → List X → List (List V) → Option (Res × List (List V))
/-- Functions told by contracts of their own. -/
abbrev Ext := FuncId → Option Runner

def evalF (L : Lite) (ext : Ext) : Nat → Call1
  | 0, _, _, _ => .none
  | k + 1, f, as, cs => match ext f with
    | some e => e (evalF L ext k) (k + 1) as cs
    | .none => match L.fn.getD f .none with
      | some fn => runFn L (evalF L ext k) (k + 1) fn as cs
      | .none => .none

section
variable {P : Program} {L : Lite} {c : Ctx} {G : Gh} {ρ : St} {a : Act} {w : World} {call : Call1}

/-- What is asked behind code that ends so. -/
def endQ (Q : Exit → Act → World → Prop) (c : Ctx) (G : Gh) (ρ' : St) : Ex → Prop
  | .normal => ∀ G' a' w', G'.lam = G.lam → Inv c G' ρ' a' w' → Q .normal a' w'
  | .exit id => ∀ G' a' w', G'.lam = G.lam → Inv c G' ρ' a' w' → Q (.exit id) a' w'
  | .ret => ∀ G' a' w', G'.lam = G.lam → Inv c G' ρ' a' w' → Q .ret a' w'
  | .pan v => ∀ u G' a' w', G'.lam = G.lam → Inv c G' ρ' a' w' → RepV G'.mu v u → Q (.panic [{ v := u, recovered := false }]) a' w'

theorem endQ.lam {Q : Exit → Act → World → Prop} {G' : Gh} {ρ' : St} (hl : G'.lam = G.lam) : ∀ {e : Ex}, endQ Q c G ρ' e → endQ Q c G' ρ' e
  | .normal, h => fun G2 a w l i => h G2 a w (l.trans hl) i
  | .exit id, h => fun G2 a w l i => h G2 a w (l.trans hl) i
  | .ret, h => fun G2 a w l i => h G2 a w (l.trans hl) i
  | .pan v, h => fun u G2 a w l i r => h u G2 a w (l.trans hl) i r

theorem wpIn_scope_straight {F : Fence} {N : Nat} {Q : Exit → Act → World → Prop} {cd : Code} (h : cd.wpIn F N P (Exit.noGoto Q) a w) : (Code.scope cd).wpIn F N P Q a w := by
  intro b k cs hro hb hr
  have h0 : (lone (b.atR a (.code (.scope cd) :: k)) cs w).fenced P F := fenced_calm hb hr rfl
  have s0 : step P (lone (b.atR a (.code (.scope cd) :: k)) cs w) = .next (lone (b.atR a (.code cd :: .inScope cd :: k)) cs w) := step_lone_go (by simp [stepG, stepG.exec, Frame.atR])
  obtain ⟨e, a₁, w₁, hq, harr⟩ := h b (.inScope cd :: k) cs hro hb hr
  have s1 : step P (lone (b.atR a₁ (.inScope cd :: k)) cs w₁) = .next (lone (b.atR a₁ k) cs w₁) := step_lone_go (by simp [stepG, stepG.exec, Frame.atR])
  cases e with
  | normal => exact ⟨.normal, a₁, w₁, hq, .head h0 s0 (StepsIn.trans harr (.one (fenced_calm hb hr rfl) s1))⟩
  | exit id =>
    have hx : exitTo id (.inScope cd :: k) = exitTo id k := by simp [exitTo]
    exact ⟨.exit id, a₁, w₁, hq, fun k' hk => .head h0 s0 (harr.1 k' (by rw [hx]; exact hk)),
      fun hr' hk => let ⟨k₁, h1, h2⟩ := harr.2 hr' (by rw [hx]; exact hk); ⟨k₁, h1, .head h0 s0 h2⟩⟩
  | goto l => exact hq.elim
  | ret => exact ⟨_, a₁, w₁, hq, .of_steps (.one h0 s0) harr⟩
  | panic ch => exact ⟨_, a₁, w₁, hq, .of_steps (.one h0 s0) harr⟩
  | outgrown => exact ⟨_, a₁, w₁, hq, .of_steps (.one h0 s0) harr⟩

theorem sound_codeIn {r0 : Option Nat} {N : Nat} (ok : LiteOk P L) (cok : CallOk P L call) (hgm : ∀ b o v, L.gm b o = some v → c.mu0 b o = some v) {n : Nat} : ∀ (cd : Code) {G : Gh} {ρ : St} {a : Act} {w : World} (h : Inv c G ρ a w) {e : Ex} {ρ' : St} {Q : Exit → Act → World → Prop},
    evalCode L call n cd ρ = some (e, ρ') → endQ Q c G ρ' e → cd.wpIn (openF r0) N P Q a w
  | .skip, G, ρ, a, w, h, e, ρ', Q, he, hq => by
    simp only [evalCode, Option.some.injEq, Prod.mk.injEq] at he
    obtain ⟨rfl, rfl⟩ := he
    exact wpIn_skip (hq G a w rfl h)
  | .label _, G, ρ, a, w, h, e, ρ', Q, he, hq => by
    simp only [evalCode, Option.some.injEq, Prod.mk.injEq] at he
    obtain ⟨rfl, rfl⟩ := he
    exact wpIn_label (hq G a w rfl h)
  | .region id ops draw, G, ρ, a, w, h, e, ρ', Q, he, hq => by
    simp only [evalCode] at he
    split at he
    · rename_i ρ1 hr
      simp only [Option.some.injEq, Prod.mk.injEq] at he
      obtain ⟨rfl, rfl⟩ := he
      exact sound_region ok cok hgm h hr (fun _ G' a' w' l i => hq G' a' w' l i) (fun v hv => by cases hv)
    · rename_i v ρ1 hr
      simp only [Option.some.injEq, Prod.mk.injEq] at he
      obtain ⟨rfl, rfl⟩ := he
      exact sound_region ok cok hgm h hr (fun hp => by cases hp) (fun v hv u G' a' w' l i r => by cases hv; exact hq u G' a' w' l i r)
    · cases he
  | .seq x y, G, ρ, a, w, h, e, ρ', Q, he, hq => by
    simp only [evalCode] at he
    refine wpIn_seq ?_
    split at he
    · rename_i ρ1 hx
      exact sound_codeIn ok cok hgm x h hx (fun G' a' w' l i => sound_codeIn ok cok hgm y i he (hq.lam l))
    · rename_i hne
      refine sound_codeIn ok cok hgm x h he ?_
      cases e with
      | normal => exact absurd he (hne _)
      | exit id => exact hq
      | ret => exact hq
      | pan v => exact hq
  | .cond cc x y, G, ρ, a, w, h, e, ρ', Q, he, hq => by
    simp only [evalCode] at he
    have hc := opd_rep h cc
    split at he
    · rename_i p hp
      rw [hp] at hc
      obtain ⟨hc, _⟩ := lit_val hc
      refine wpIn_cond hc ?_
      cases p with
      | true => exact sound_codeIn ok cok hgm x h he hq
      | false => exact sound_codeIn ok cok hgm y h he hq
    · cases he
  | .block id x, G, ρ, a, w, h, e, ρ', Q, he, hq => by
    simp only [evalCode] at he
    refine wpIn_block ?_
    split at he
    · rename_i i ρ1 hx
      refine sound_codeIn ok cok hgm x h hx ?_
      intro G' a' w' l iv
      show (if i = id then Q .normal a' w' else Q (.exit i) a' w')
      split at he
      · rename_i hii
        simp only [Option.some.injEq, Prod.mk.injEq] at he
        obtain ⟨rfl, rfl⟩ := he
        rw [if_pos hii]; exact hq G' a' w' l iv
      · rename_i hii
        simp only [Option.some.injEq, Prod.mk.injEq] at he
        obtain ⟨rfl, rfl⟩ := he
        rw [if_neg hii]; exact hq G' a' w' l iv
    · rename_i hne
      refine sound_codeIn ok cok hgm x h he ?_
      cases e with
      | normal => exact hq
      | exit i => exact absurd he (hne _ _)
      | ret => exact hq
      | pan v => exact hq
  | .loop x, G, ρ, a, w, h, e, ρ', Q, he, hq => by
    simp only [evalCode] at he
    have key : ∀ (m : Nat) {G : Gh} {ρ : St} {a : Act} {w : World} (h : Inv c G ρ a w), loopN (evalCode L call n x) m ρ = some (e, ρ') → endQ Q c G ρ' e → Code.roundsIn (openF r0) N P x Q m a w := by
      intro m
      induction m with
      | zero => intro G ρ a w h hm; simp [loopN] at hm
      | succ m ih =>
        intro G ρ a w h hm hq
        rw [roundsIn_succ]
        simp only [loopN] at hm
        split at hm
        · rename_i ρ1 hx
          exact sound_codeIn ok cok hgm x h hx (fun G' a' w' l i => ih i hm (hq.lam l))
        · rename_i hne
          refine sound_codeIn ok cok hgm x h hm ?_
          cases e with
          | normal => exact absurd hm (hne _)
          | exit i => exact hq
          | ret => exact hq
          | pan v => exact hq
    exact wpIn_loop_rounds n (key n h he hq)
  | .exit id, G, ρ, a, w, h, e, ρ', Q, he, hq => by
    simp only [evalCode, Option.some.injEq, Prod.mk.injEq] at he
    obtain ⟨rfl, rfl⟩ := he
    exact wpIn_exit (hq G a w rfl h)
  | .scope x, G, ρ, a, w, h, e, ρ', Q, he, hq => by
    simp only [evalCode] at he
    refine wpIn_scope_straight (sound_codeIn ok cok hgm x h he ?_)
    cases e with
    | normal => exact hq
    | exit i => exact hq
    | ret => exact hq
    | pan v => exact hq
  | .ret, G, ρ, a, w, h, e, ρ', Q, he, hq => by
    simp only [evalCode, Option.some.injEq, Prod.mk.injEq] at he
    obtain ⟨rfl, rfl⟩ := he
    exact wpIn_ret (hq G a w rfl h)
  | .rangeFunc .., G, ρ, a, w, h, e, ρ', Q, he, hq => by simp [evalCode] at he
  | .goto _, G, ρ, a, w, h, e, ρ', Q, he, hq => by simp [evalCode] at he
  | .refuse _, G, ρ, a, w, h, e, ρ', Q, he, hq => by simp [evalCode] at he

theorem sound_code (ok : LiteOk P L) (cok : CallOk P L call) (hgm : ∀ b o v, L.gm b o = some v → c.mu0 b o = some v) {n : Nat} (cd : Code) {G : Gh} {ρ : St} {a : Act} {w : World} (h : Inv c G ρ a w) {e : Ex} {ρ' : St} {Q : Exit → Act → World → Prop}
    (he : evalCode L call n cd ρ = some (e, ρ')) (hq : endQ Q c G ρ' e) : cd.wp P Q a w :=
  wpIn_wide.1 (show cd.wpIn Fence.wide 0 P Q a w from sound_codeIn (r0 := none) (N := 0) ok cok hgm cd h he hq)


def resOne (tmps : Array Value) : ResultVar → Sem Value
  | .tmp t => pure (tmps.getD t undef)
  | .cell b t => do loadVar t (← asAddr (tmps.getD b undef))

theorem asAddr_ptr (ad : Addr) : asAddr (.pointer (some ad)) = pure ad := rfl

/-- The results of a frame, run in the world where it ends. -/
theorem sound_res (ok : LiteOk P L) {sl : Nat → X} : ∀ (rs : List ResultVar) {G : Gh} {ρ : St} (h : Inv c G ρ a w) {k : List V → Ef (List V)} {o : List V} {H' : Nat → Ob}, (∀ i, RepX G ρ.ob (sl i) (a.tmps.getD i undef)) →
    (resEf L sl rs k).go ρ.ob o H' → ∃ vs us G' H1, G'.lam = G.lam ∧ Inv c G' { ρ with ob := H1 } a w ∧ Later G ρ.ob G' H1 ∧ RepL G'.mu vs us ∧ (k vs).go H1 o H' ∧
      (rs.mapM (resOne a.tmps)).run P w = .ok us w
  | [], G, ρ, h, k, o, H', hs, hgo => ⟨[], [], G, ρ.ob, rfl, h, .refl _ _, ⟨rfl, fun j y u hj => by simp at hj⟩, hgo, by simp⟩
  | .tmp t :: r, G, ρ, h, k, o, H', hs, hgo => by
    obtain ⟨y, G1, H1, l1, i1, la1, r1, g1⟩ := sound_frz h (hs t) hgo
    obtain ⟨vs, us, G2, H2, l2, i2, la2, r2, g2, m2⟩ := sound_res ok r (ρ := { ρ with ob := H1 }) i1 (fun i => (hs i).later la1) g1
    refine ⟨y :: vs, a.tmps.getD t undef :: us, G2, H2, l2.trans l1, i2, la1.trans la2, ⟨by simp [r2.1], fun j y' u hj hu => ?_⟩, g2, ?_⟩
    · cases j with
      | zero => simp only [List.getElem?_cons_zero, Option.some.injEq] at hj hu; subst hj; subst hu; exact r1.mono la2.mu
      | succ j => exact r2.2 j y' u (by simpa using hj) (by simpa using hu)
    · rw [List.mapM_cons]
      simp only [resOne, Sem.run_bind, Sem.run_pure, Result.andThen_ok, m2]
  | .cell b t :: r, G, ρ, h, k, o, H', hs, hgo => by
    simp only [resEf] at hgo
    have hb := hs b
    split at hgo
    · rename_i s g off he
      rw [he] at hb
      generalize hu : a.tmps.getD b undef = bu at hb
      cases hb with
      | @addr _ _ _ ad hg hh =>
        replace hgo := go_get hgo
        split at hgo
        · rename_i g' cs hbx
          split at hgo
          · rename_i e; subst e
            obtain ⟨bl, hbl, rfl⟩ := hh cs hbx
            split at hgo
            · rename_i hk
              split at hgo
              · rename_i hle
                obtain ⟨ys, hys, g1⟩ := go_ov hgo
                have hload : (loadC L t cs off).go ρ.ob (.val (.v (.agg ys))) ρ.ob := by
                  refine ⟨[], [], ?_⟩
                  unfold loadC
                  rw [if_pos hk, if_pos hle, hys]; rfl
                obtain ⟨_, v, hv, hr⟩ := sound_loadC (P := P) (ρ := ρ) ok h hbx hbl hload
                obtain ⟨vs, us, G2, H2, l2, i2, la2, r2, g2, m2⟩ := sound_res ok r h hs g1
                refine ⟨.agg ys :: vs, v :: us, G2, H2, l2, i2, la2, ⟨by simp [r2.1], fun j y' u hj hu => ?_⟩, g2, ?_⟩
                · cases j with
                  | zero =>
                    simp only [List.getElem?_cons_zero, Option.some.injEq] at hj hu; subst hj; subst hu
                    cases hr with
                    | v hr => exact hr.mono la2.mu
                  | succ j => exact r2.2 j y' u (by simpa using hj) (by simpa using hu)
                · rw [List.mapM_cons]
                  simp only [resOne, Sem.run_bind, hu, asAddr_ptr, Sem.run_pure, Result.andThen_ok, hv, m2]
              · exact (go_fail hgo).elim
            · split at hgo
              · rename_i hk
                obtain ⟨x, hx, g0⟩ := go_ov hgo
                have hload : (loadC L t cs off).go ρ.ob (.val x) ρ.ob := by
                  refine ⟨[], [], ?_⟩
                  unfold loadC
                  rw [if_neg (by omega), if_pos hk, hx]; rfl
                obtain ⟨_, v, hv, hr⟩ := sound_loadC (P := P) (ρ := ρ) ok h hbx hbl hload
                obtain ⟨y, G1, H1, l1, i1, la1, r1, g1⟩ := sound_frz h hr g0
                obtain ⟨vs, us, G2, H2, l2, i2, la2, r2, g2, m2⟩ := sound_res ok r (ρ := { ρ with ob := H1 }) i1 (fun i => (hs i).later la1) g1
                refine ⟨y :: vs, v :: us, G2, H2, l2.trans l1, i2, la1.trans la2, ⟨by simp [r2.1], fun j y' u hj hu => ?_⟩, g2, ?_⟩
                · cases j with
                  | zero => simp only [List.getElem?_cons_zero, Option.some.injEq] at hj hu; subst hj; subst hu; exact r1.mono la2.mu
                  | succ j => exact r2.2 j y' u (by simpa using hj) (by simpa using hu)
                · rw [List.mapM_cons]
                  simp only [resOne, Sem.run_bind, hu, asAddr_ptr, Sem.run_pure, Result.andThen_ok, hv, m2]
              · exact (go_fail hgo).elim
          · exact (go_fail hgo).elim
        · exact (go_fail hgo).elim
    · exact (go_fail hgo).elim

theorem outs_spec {H : Nat → Ob} : ∀ (m n : Nat) {r : List (List V)}, outs H n m = some r → r.length = m ∧ ∀ (j : Nat) (ys : List V), r[j]? = some ys → BoxOf H (n + j) ys
  | 0, n, r, h => by simp only [outs, Option.some.injEq] at h; subst h; exact ⟨rfl, fun j ys hj => by simp at hj⟩
  | m + 1, n, r, h => by
    unfold outs at h
    split at h
    · rename_i g xs hb
      split at h
      · rename_i ys r' hx ho
        cases h
        obtain ⟨h1, h2⟩ := outs_spec m (n + 1) ho
        refine ⟨by simp [h1], fun j ys' hj => ?_⟩
        cases j with
        | zero => simp at hj; subst hj; exact ⟨g, xs, hb, hx⟩
        | succ j =>
          simp at hj
          have := h2 j ys' hj
          rwa [show n + 1 + j = n + (j + 1) by omega] at this
      · cases h
    · cases h

theorem enter_inv {fn : Func} {mu lam : Mem} {bs : List Nat} {cs : List (List V)} {as : List X} {us : List Value} (he : Entry L.gm mu lam bs cs w) (hl : as.length = us.length) (hn : as.length ≤ fn.ntmps)
    (hx : ∀ (j : Nat) (x : X) (u : Value), as[j]? = some x → us[j]? = some u → RepX (ioGh fn.ntmps mu lam bs) (ioOb fn.ntmps cs) x u) :
    Inv { B := w.heap.size, ios := bs, W := w, mu0 := mu } (ioGh fn.ntmps mu lam bs) (enterSt fn as cs) { tmps := us.toArray ++ Array.replicate (fn.ntmps - us.toArray.size) undef, defers := [] } w := by
  have inbs : ∀ s b, live (ioOb fn.ntmps cs s) → (ioGh fn.ntmps mu lam bs).m s = some b → fn.ntmps ≤ s ∧ bs[s - fn.ntmps]? = some b := by
    intro s b hlv hm
    have hm' : (if fn.ntmps ≤ s then bs[s - fn.ntmps]? else none) = some b := hm
    split at hm'
    · exact ⟨‹_›, hm'⟩
    · cases hm'
  have norow : ∀ s g mt z es, ioOb fn.ntmps cs s ≠ .row g mt z es := by
    intro s g mt z es h
    unfold ioOb at h
    split at h
    · split at h <;> cases h
    · cases h
  refine ⟨?_, fun i => ?_, fun s => ?_, he.hmu, he.hlam, ?_, ?_, ?_, ?_, ?_, ?_, ?_, ⟨rfl, rfl, rfl, Nat.le_refl _, fun _ _ _ => rfl⟩, Nat.le_refl _, fun _ _ _ k => k, fun _ _ _ k => .inl k, rfl, (fun x u hx => hx.elim), (fun k o hk => by cases hk), fun _ _ _ _ => rfl⟩
  · show (us.toArray ++ Array.replicate (fn.ntmps - us.toArray.size) undef).size = fn.ntmps
    simp; omega
  · show RepX _ (ioOb fn.ntmps cs) (as.getD i .undef) ((us.toArray ++ Array.replicate (fn.ntmps - us.toArray.size) undef).getD i undef)
    by_cases hi : i < us.length
    · have h1 : as[i]? = some (as[i]'(by omega)) := List.getElem?_eq_getElem (by omega)
      have h2 : us[i]? = some us[i] := List.getElem?_eq_getElem hi
      have h3 : (us.toArray ++ Array.replicate (fn.ntmps - us.toArray.size) undef).getD i undef = us[i] := by
        rw [Array.getD_eq_getD_getElem?, Array.getElem?_append_left (by simpa using hi)]
        simp [hi]
      rw [h3, List.getD_eq_getElem?_getD, h1]
      exact hx i _ _ h1 h2
    · rw [List.getD_eq_getElem?_getD, List.getElem?_eq_none (by omega)]
      exact .undef _
  · show RepOb _ (ioOb fn.ntmps cs) w s (ioOb fn.ntmps cs s)
    by_cases hs : fn.ntmps ≤ s
    · cases hc : cs[s - fn.ntmps]? with
      | none =>
        have : ioOb fn.ntmps cs s = .none 0 := by unfold ioOb; rw [if_pos hs, hc]
        rw [this]; trivial
      | some cc =>
        have hob : ioOb fn.ntmps cs s = .box 0 (cc.map X.v) := by unfold ioOb; rw [if_pos hs, hc]
        have hlt := (List.getElem?_eq_some_iff.1 hc).1
        have hb : bs[s - fn.ntmps]? = some (bs[s - fn.ntmps]'(by have := he.len; omega)) := List.getElem?_eq_getElem (by have := he.len; omega)
        have box := he.box _ _ _ hb hc
        rw [hob]
        refine ⟨_, by show (if fn.ntmps ≤ s then bs[s - fn.ntmps]? else none) = _; rw [if_pos hs]; exact hb, box.lt, fun x hx => ?_, fun o ho => box.frozen o (by simpa using ho), fun o x ho => ?_⟩
        · obtain ⟨y, hy, rfl⟩ := List.mem_map.1 hx
          have := box.flat y hy
          cases y <;> first | rfl | (simp [V.flat] at this)
        · rw [List.getElem?_map] at ho
          cases hy : cc[o]? with
          | none => rw [hy] at ho; cases ho
          | some y =>
            rw [hy] at ho
            simp only [Option.map_some, Option.some.injEq] at ho
            subst ho
            obtain ⟨u, hu, hr⟩ := box.cell o y hy
            exact ⟨u, hu, .v hr⟩
    · have : ioOb fn.ntmps cs s = .none 0 := by unfold ioOb; rw [if_neg hs]
      rw [this]; trivial
  · intro s s' b hlv hlv' hm hm'
    obtain ⟨h1, h2⟩ := inbs s b hlv hm
    obtain ⟨h3, h4⟩ := inbs s' b hlv' hm'
    have h5 := (List.getElem?_eq_some_iff.1 h2).1
    have h6 := (List.getElem?_eq_some_iff.1 h4).1
    have : s - fn.ntmps = s' - fn.ntmps := by
      refine (List.getElem?_inj h5 he.nodup).1 (h2.trans h4.symm)
    omega
  · intro s b hlv hm
    obtain ⟨h1, h2⟩ := inbs s b hlv hm
    exact .inr ⟨h1, List.mem_of_getElem? h2⟩
  · intro s b o hlv hm
    exact (he.apart b (List.mem_of_getElem? (inbs s b hlv hm).2) o).2
  · intro s g cc b o hob hm
    exact (he.apart b (List.mem_of_getElem? (inbs s b (by rw [show ioOb fn.ntmps cs s = .box g cc from hob]; trivial) hm).2) o).1
  · intro s g mt z es b o hob
    exact absurd hob (norow s g mt z es)
  · intro s g mt z es hob
    exact absurd hob (norow s g mt z es)
  · intro j b hj
    show (if fn.ntmps ≤ fn.ntmps + j then bs[fn.ntmps + j - fn.ntmps]? else none) = some b
    rw [if_pos (by omega), show fn.ntmps + j - fn.ntmps = j by omega]; exact hj

theorem left_of {fn : Func} {mu lam : Mem} {bs : List Nat} {cs cs' : List (List V)} {G' : Gh} {ρ' : St} {a' : Act} {w' : World} (he : Entry L.gm mu lam bs cs w) (hn : ρ'.n = fn.ntmps)
    (h : Inv { B := w.heap.size, ios := bs, W := w, mu0 := mu } G' ρ' a' w') (ho : outs ρ'.ob fn.ntmps cs.length = some cs') : Left mu bs cs' w w' G'.mu := by
  obtain ⟨h1, h2⟩ := outs_spec _ _ ho
  refine ⟨h.base, h.mu0, h.mu1, h.hmu, by rw [h1]; exact he.len, fun j b cc hj hc => ?_⟩
  obtain ⟨g, xs, hb, hx⟩ := h2 j cc hc
  have hm := h.iom j b hj
  rw [hn] at hm
  obtain ⟨b', hb', hlt, hcf, hfz, hcs⟩ : RepOb G' ρ'.ob w' (fn.ntmps + j) (.box g xs) := by have := h.objs (fn.ntmps + j); rwa [hb] at this
  rw [hm] at hb'; cases hb'
  obtain ⟨hxl, hxg⟩ := xvs_get hx
  refine ⟨hlt, fun y hy => ?_, fun o ho => hfz o (by omega), fun o y ho => ?_⟩
  · obtain ⟨o, ho⟩ := mem_get hy
    obtain ⟨x, hx1, hx2⟩ := hxg o y ho
    have := hcf x (List.mem_of_getElem? hx1)
    unfold xv at hx2
    split at hx2
    · cases hx2; cases y <;> first | rfl | (simp [cellX] at this)
    · cases hx2; rfl
    · cases hx2
  · obtain ⟨x, hx1, hx2⟩ := hxg o y ho
    obtain ⟨u, hu, hr⟩ := hcs o x hx1
    exact ⟨u, hu, xv_rep hr hx2⟩

theorem evalRegion_n {ops : Array Oper} {draw : Bool} {ρ ρ' : St} {pv : Option V} (h : evalRegion L call ops draw ρ = some (pv, ρ')) : ρ'.n = ρ.n := by
  have hdop : ∀ o (ρ : St) pv ρ' r wr, dop L call ops o ρ = some (pv, ρ', r, wr) → ρ'.n = ρ.n := by
    intro o ρ pv ρ' r wr hd
    unfold dop at hd
    split at hd
    · split at hd
      · simp only [Option.some.injEq, Prod.mk.injEq] at hd
        obtain ⟨_, rfl, _⟩ := hd
        rw [put_eq]
      · simp only [Option.some.injEq, Prod.mk.injEq] at hd
        obtain ⟨_, rfl, _⟩ := hd
        rfl
      · cases hd
    · simp only [Option.some.injEq, Prod.mk.injEq] at hd
      obtain ⟨_, rfl, _⟩ := hd
      rw [put_eq]
    · cases hd
  have hops : ∀ (l : List Oper) (ρ : St) pv ρ', evalOps L call ops l ρ = some (pv, ρ') → ρ'.n = ρ.n := by
    intro l
    induction l with
    | nil =>
      intro ρ pv ρ' h
      simp only [evalOps, Option.some.injEq, Prod.mk.injEq] at h
      rw [h.2]
    | cons o l ih =>
      intro ρ pv ρ' h
      unfold evalOps at h
      split at h
      · rename_i hd; rw [ih _ _ _ h, hdop _ _ _ _ _ _ hd]
      · rename_i hd
        simp only [Option.some.injEq, Prod.mk.injEq] at h
        rw [← h.2, hdop _ _ _ _ _ _ hd]
      · cases h
  have hrun : ∀ (l : List Oper) (ρ : St) ρ' fps, runOps L call ops l ρ = some (ρ', fps) → ρ'.n = ρ.n := by
    intro l
    induction l with
    | nil =>
      intro ρ ρ' fps h
      simp only [runOps, Option.some.injEq, Prod.mk.injEq] at h
      rw [h.1]
    | cons o l ih =>
      intro ρ ρ' fps h
      unfold runOps at h
      split at h
      · rename_i hd
        split at h
        · rename_i hr
          simp only [Option.some.injEq, Prod.mk.injEq] at h
          rw [← h.1, ih _ _ _ hr, hdop _ _ _ _ _ _ hd]
        · cases h
      · cases h
  have hpan : ∀ (l : List Oper) (ρ : St) v ρ' fps, runPan L call ops l ρ = some (v, ρ', fps) → ρ'.n = ρ.n := by
    intro l
    induction l with
    | nil =>
      intro ρ v ρ' fps h
      simp [runPan] at h
    | cons o l ih =>
      intro ρ v ρ' fps h
      unfold runPan at h
      split at h
      · rename_i hd
        split at h
        · rename_i hr
          simp only [Option.some.injEq, Prod.mk.injEq] at h
          rw [← h.2.1, ih _ _ _ _ hr, hdop _ _ _ _ _ _ hd]
        · cases h
      · rename_i hd
        simp only [Option.some.injEq, Prod.mk.injEq] at h
        rw [← h.2.1, hdop _ _ _ _ _ _ hd]
      · cases h
  unfold evalRegion at h
  split at h
  · split at h
    · split at h
      · rename_i hr
        split at h
        · simp only [Option.some.injEq, Prod.mk.injEq] at h
          rw [← h.2, hrun _ _ _ _ hr]
        · cases h
      · split at h
        · rename_i hr
          split at h
          · simp only [Option.some.injEq, Prod.mk.injEq] at h
            rw [← h.2]
            rw [show ∀ σ : St, σ.wipe.n = σ.n from fun _ => rfl]
            exact hpan _ _ _ _ _ hr
          · cases h
        · cases h
    · cases h
  · exact hops _ _ _ _ h

theorem evalCode_n {n : Nat} : ∀ (cd : Code) {ρ ρ' : St} {e : Ex}, evalCode L call n cd ρ = some (e, ρ') → ρ'.n = ρ.n
  | .skip, ρ, ρ', e, h => by simp only [evalCode, Option.some.injEq, Prod.mk.injEq] at h; rw [h.2]
  | .label _, ρ, ρ', e, h => by simp only [evalCode, Option.some.injEq, Prod.mk.injEq] at h; rw [h.2]
  | .exit _, ρ, ρ', e, h => by simp only [evalCode, Option.some.injEq, Prod.mk.injEq] at h; rw [h.2]
  | .ret, ρ, ρ', e, h => by simp only [evalCode, Option.some.injEq, Prod.mk.injEq] at h; rw [h.2]
  | .scope c, ρ, ρ', e, h => by simp only [evalCode] at h; exact evalCode_n c h
  | .region _ ops draw, ρ, ρ', e, h => by
    simp only [evalCode] at h
    split at h
    · rename_i hr; simp only [Option.some.injEq, Prod.mk.injEq] at h; rw [← h.2]; exact evalRegion_n hr
    · rename_i hr; simp only [Option.some.injEq, Prod.mk.injEq] at h; rw [← h.2]; exact evalRegion_n hr
    · cases h
  | .seq x y, ρ, ρ', e, h => by
    simp only [evalCode] at h
    split at h
    · rename_i hx; rw [evalCode_n y h, evalCode_n x hx]
    · exact evalCode_n x h
  | .cond c x y, ρ, ρ', e, h => by
    simp only [evalCode] at h
    split at h
    · split at h
      · exact evalCode_n x h
      · exact evalCode_n y h
    · cases h
  | .block id x, ρ, ρ', e, h => by
    simp only [evalCode] at h
    split at h
    · rename_i hx
      split at h
      · simp only [Option.some.injEq, Prod.mk.injEq] at h; rw [← h.2]; exact evalCode_n x hx
      · simp only [Option.some.injEq, Prod.mk.injEq] at h; rw [← h.2]; exact evalCode_n x hx
    · exact evalCode_n x h
  | .loop x, ρ, ρ', e, h => by
    simp only [evalCode] at h
    have key : ∀ (m : Nat) (ρ : St), loopN (evalCode L call n x) m ρ = some (e, ρ') → ρ'.n = ρ.n := by
      intro m
      induction m with
      | zero => intro ρ h; simp [loopN] at h
      | succ m ih =>
        intro ρ h
        simp only [loopN] at h
        split at h
        · rename_i hx; rw [ih _ h, evalCode_n x hx]
        · exact evalCode_n x h
    exact key n ρ h
  | .rangeFunc .., ρ, ρ', e, h => by simp [evalCode] at h
  | .goto _, ρ, ρ', e, h => by simp [evalCode] at h
  | .refuse _, ρ, ρ', e, h => by simp [evalCode] at h

theorem results_run {fn : Func} {tmps : Array Value} {us : List Value} (h : (fn.results.toList.mapM (resOne tmps)).run P w = .ok us w) : (results fn tmps).run P w = .ok (tupV us) w := by
  have hm : (fn.results.mapM (resOne tmps)).run P w = .ok us.toArray w := by
    have : fn.results.mapM (resOne tmps) = List.toArray <$> fn.results.toList.mapM (resOne tmps) := by
      generalize fn.results = rs
      obtain ⟨l⟩ := rs
      simp
    rw [this, Sem.run_map, h]; rfl
  have e : ∀ (g : ResultVar → Sem Value), (∀ x, g x = resOne tmps x) → (fn.results.mapM g).run P w = .ok us.toArray w := by
    intro g hg
    rw [show g = resOne tmps from funext hg]; exact hm
  unfold results
  rw [Sem.run_bind, e _ (fun x => by cases x <;> rfl), Result.andThen_ok]
  rcases us with _ | ⟨u, _ | ⟨v, r⟩⟩ <;> simp [tupV]

theorem sound_fn (ok : LiteOk P L) (cok : CallOk P L call) {n : Nat} {f : FuncId} {fn : Func} (hf : L.fn.getD f .none = some fn) {as : List X} {cs cs' : List (List V)} {res : Res} (hrun : runFn L call n fn as cs = some (res, cs'))
    (w : World) (mu lam : Mem) (bs : List Nat) (us : List Value) (he : Entry L.gm mu lam bs cs w) (hl : as.length = us.length)
    (hx : ∀ (j : Nat) (x : X) (u : Value), as[j]? = some x → us[j]? = some u → RepX (ioGh fn.ntmps mu lam bs) (ioOb fn.ntmps cs) x u) :
    Calls P f us.toArray w fun e w' => ∃ mu', Left mu bs cs' w w' mu' ∧ EndRep res mu' e := by
  obtain ⟨hpf, _, _⟩ := ok.fn f fn hf
  unfold runFn at hrun
  split at hrun
  · cases hrun
  · rename_i cd hbody
    split at hrun
    · rename_i hn
      have h0 := enter_inv (fn := fn) he hl hn hx
      refine calls_of_wp hpf hbody ?_
      split at hrun
      · rename_i v ρ' hev
        split at hrun
        · rename_i r hout
          cases hrun
          refine sound_code ok cok he.hgm cd h0 hev ?_
          intro u G' a' w' _ hi hr
          refine ⟨hi.defers, G'.mu, left_of (fn := fn) he (evalCode_n cd hev) hi hout, u, hr, rfl⟩
        · cases hrun
      · cases hrun
      · rename_i ex ρ' hne1 hne2 hev
        split at hrun
        · rename_i vs H rr wr hres
          split at hrun
          · rename_i r hout
            cases hrun
            have fin : ∀ G' a' w', G'.lam = (ioGh fn.ntmps mu lam bs).lam → Inv { B := w.heap.size, ios := bs, W := w, mu0 := mu } G' ρ' a' w' →
                a'.defers = [] ∧ ∃ v, (results fn a'.tmps).run P w' = .ok v w' ∧ ∃ mu', Left mu bs cs' w w' mu' ∧ EndRep (.ret vs) mu' (.returned v) := by
              intro G' a' w' _ hi
              obtain ⟨vs2, us2, G2, H2, l2, i2, la2, r2, g2, m2⟩ := sound_res (P := P) ok fn.results.toList hi hi.slots ⟨rr, wr, hres⟩
              obtain ⟨rfl, rfl⟩ := go_ret g2
              exact ⟨hi.defers, tupV us2, results_run m2, G2.mu, left_of (fn := fn) (ρ' := { ρ' with ob := H2 }) he (evalCode_n cd hev) i2 hout, us2, r2, rfl⟩
            refine sound_code ok cok he.hgm cd h0 hev ?_
            cases ex with
            | normal => exact fin
            | ret => exact fin
            | exit id => exact absurd rfl (hne2 id)
            | pan v => exact absurd rfl (hne1 v)
          · cases hrun
        · cases hrun
      · cases hrun
    · cases hrun

/-- What is asked of the functions that are told by contracts of their own. -/
def ExtOk (P : Program) (L : Lite) (ext : Ext) : Prop := ∀ call, CallOk P L call → ∀ n, CallOk P L fun f xs cs => match ext f with | some e => e call n xs cs | .none => .none

theorem sound_evalF (ok : LiteOk P L) {ext : Ext} (eok : ExtOk P L ext) : ∀ k, CallOk P L (evalF L ext k)
  | 0 => fun f fn as cs res cs' hf hc w mu lam bs us he hl hx => by
    simp [evalF] at hc
  | k + 1 => fun f fn as cs res cs' hf hc w mu lam bs us he hl hx => by
    unfold evalF at hc
    split at hc
    · rename_i e hext
      exact eok _ (sound_evalF ok eok k) (k + 1) f fn as cs res cs' hf (by simp only [hext]; exact hc) w mu lam bs us he hl hx
    · rw [hf] at hc
      exact sound_fn ok (sound_evalF ok eok k) hf hc w mu lam bs us he hl hx

end
end Go.Dv
