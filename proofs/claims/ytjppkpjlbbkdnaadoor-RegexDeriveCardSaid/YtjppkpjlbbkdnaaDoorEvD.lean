/-
  What is proved here: loops over functions' values for the evaluator; sets of bytes as words; rules for single operations. Conditions: those that stand at each theorem.
-/
import Derived.Test.YtjppkpjlbbkdnaaDoorEvC
import Derived.RangeFuncRecord
import Derived.RangeFuncSeq
import Derived.Below
import Derived.RangeFuncLeaves
import Derived.Lib.TrailingZeros

namespace Go.Dv
open Go Go.RowKit

/-- What a function that yields values promises. -/
def SeqC (P : Program) (gm : Mem) (g : FuncId) (lb : Array Value) (xs : List Value) (w : World) : Prop :=
  ∀ (l : Nat) (J Jx : List Value → World → Prop) (W : World), Below w.heap.size w W →
    (∀ pre W1 W2, J pre W1 → Below W1.heap.size W1 W2 → J pre W2) → (∀ pre W1 W2, Jx pre W1 → Below W1.heap.size W1 W2 → Jx pre W2) →
    (∀ pre W1, J pre W1 → ∀ b o v, gm b o = some v → W1.cell? ⟨b, o, none⟩ = some v) →
    (∀ pre x W1, J pre W1 → (∃ post, pre ++ x :: post = xs) → YieldAt Fence.wide 0 P l #[x] W1 fun e W' => (e = .returned (.bool true) ∧ J (pre ++ [x]) W') ∨ (e = .returned (.bool false) ∧ Jx (pre ++ [x]) W')) →
    J [] W → CallsIn Fence.wide 0 P g (#[.func (.yield l) #[] #[]] ++ lb) W fun e W' => (∃ v, e = .returned v) ∧ (J xs W' ∨ ∃ pre, Jx pre W')

/-- Which values a function yields. -/
abbrev Itv := FuncId → List X → Option (List Value)

def ItOk (P : Program) (L : Lite) (itv : Itv) : Prop :=
  ∀ g caps xs, itv g caps = some xs → ∀ (G : Gh) (H : Nat → Ob) (lb : List Value) (w : World), caps.length = lb.length → (∀ (i : Nat) (x : X) (u : Value), caps[i]? = some x → lb[i]? = some u → RepX G H x u) →
    (∀ b o v, G.nu b o v → w.cell? ⟨b, o, none⟩ = some v) → SeqC P L.gm g lb.toArray xs w ∧ ∀ args w, (callFunc g args).run P w = .ok (.enter g args) w

def rounds (L : Lite) (call : Call1) (n : Nat) (p : Tmp) (assign body : Code) : List Value → St → Option (Ex × St)
  | [], ρ => some (.normal, ρ)
  | x :: xs, ρ => match evalCode L call n assign (ρ.put (some p) (.v (.lit x))) with
    | some (.normal, ρ1) => match evalCode L call n body ρ1 with
      | some (.normal, ρ2) => rounds L call n p assign body xs { ρ with ob := ρ2.ob }
      | some (.exit id, ρ2) => some (.exit id, { ρ with ob := ρ2.ob })
      | some (.ret, ρ2) => some (.ret, { ρ with ob := ρ2.ob })
      | _ => .none
    | _ => .none

def evalCodeR (L : Lite) (itv : Itv) (call : Call1) (n : Nat) : Code → St → Option (Ex × St)
  | .seq a b, ρ => match evalCodeR L itv call n a ρ with
    | some (.normal, ρ') => evalCodeR L itv call n b ρ'
    | r => r
  | .block id c, ρ => match evalCodeR L itv call n c ρ with
    | some (.exit i, ρ') => if i = id then some (.normal, ρ') else some (.exit i, ρ')
    | r => r
  | .cond c x y, ρ => match ρ.opd c with
    | .v (.lit (.bool p)) => if p then evalCodeR L itv call n x ρ else evalCodeR L itv call n y ρ
    | _ => .none
  | .scope c, ρ => evalCodeR L itv call n c ρ
  | .rangeFunc f ps assign body, ρ => match ρ.opd f, ps with
    | .clo g caps, ⟨[p]⟩ => match itv g caps with
      | some xs => if xs.all scal then rounds L call n p assign body xs ρ else .none
      | .none => .none
    | _, _ => .none
  | cd, ρ => evalCode L call n cd ρ

section
variable {P : Program} {L : Lite} {c c0 : Ctx} {G : Gh} {ρ : St} {a : Act} {w : World} {call : Call1} {itv : Itv}

theorem Inv.grow (h : Inv c G ρ a w) {w' : World} (hb : Below w.heap.size w w') : Inv c G ρ a w' :=
  (h.grown (w' := w') (mu' := G.mu) ⟨⟨hb.os, hb.tape, hb.output, hb.size, fun k hk _ => hb.block k hk⟩, fun _ _ _ k => k, fun _ _ _ k => .inl k,
    fun b o v k => (cell_eq (hb.block b (cell_lt (h.hmu b o v k))) o).trans (h.hmu b o v k), rfl, fun j b c hj => by simp at hj⟩).1

/-- A loop's record, or a block of deferred calls. -/
def isRec : Obj → Bool
  | .loop _ => true
  | .deferred _ => true
  | _ => false

theorem no_cell {w : World} {l o : Nat} {ob : Obj} (h : w.heap[l]? = some ob) (hr : isRec ob = true) : w.cell? ⟨l, o, none⟩ = none := by
  cases ob <;> simp [isRec] at hr <;> simp [World.cell?, h]

/-- A record turns. -/
theorem Inv.setRec (h : Inv c G ρ a w) {l : Nat} {o o' : Obj} (hl : c.rest l = some o) (hr : isRec o = true) (hB : c.B ≤ l) {R : Nat → Option Obj} (h1 : R l = some o') (h2 : ∀ k, k ≠ l → R k = c.rest k) :
    Inv { c with rest := R } G ρ a (w.putObj l o') := by
  have hlo := h.rest l o hl
  have hlt := (Array.getElem?_eq_some_iff.1 hlo).1
  have other : ∀ b, b ≠ l → (w.putObj l o').heap[b]? = w.heap[b]? := fun b hb => World.putObj_heap_other hb
  have nol : ∀ b o v, w.cell? ⟨b, o, none⟩ = some v → b ≠ l := fun b o v hc e => by
    subst e
    rw [no_cell hlo hr] at hc; cases hc
  refine ⟨h.size, h.slots, fun s => ?_, fun b o v k => ?_, fun b o v k => ?_, h.inj, h.place, h.sepl, h.sepb, h.sepr, h.rown, h.iom, ⟨h.base.os, h.base.tape, h.base.output, ?_, fun k hk hk' => ?_⟩, ?_, h.mu0, h.mu1, h.defers, h.kept, fun k o2 hk => ?_, fun s b hlv hm => ?_⟩
  · cases hs : ρ.ob s with
    | none g => trivial
    | _ =>
      rw [← hs]
      refine (h.objs s).step (.refl _ _) rfl rfl (fun b hm _ => other b fun e => ?_) (by simp)
      subst e
      have := h.restm s b (by rw [hs]; trivial) hm
      rw [hl] at this; cases this
  · have := h.hmu b o v k
    exact (cell_eq (other b (nol b o v this)) o).trans this
  · have := h.hlam b o v k
    exact (cell_eq (other b (nol b o v this)) o).trans this
  · simpa using h.base.size
  · have hne : k ≠ l := by
      have hk2 : k < c.B := hk
      omega
    exact (other k hne).trans (h.base.block k hk hk')
  · simpa using h.cB
  · by_cases e : k = l
    · subst e
      rw [show ({ c with rest := R } : Ctx).rest k = R k from rfl, h1] at hk
      cases hk
      exact World.putObj_heap_same hlt
    · rw [show ({ c with rest := R } : Ctx).rest k = R k from rfl, h2 k e] at hk
      exact (other k e).trans (h.rest k o2 hk)
  · have hb := h.restm s b hlv hm
    have hne : b ≠ l := fun e => by subst e; rw [hl] at hb; cases hb
    show R b = none
    rw [h2 b hne]; exact hb

def markOf (D : Nat) : Deferred := { target := .collected D, args := #[] }

/-- The frame's ground, with the marks of the loops that have run. -/
structure Marked (c0 c : Ctx) (ms : List Nat) : Prop where
  B : c.B = c0.B
  ios : c.ios = c0.ios
  W : c.W = c0.W
  mu0 : c.mu0 = c0.mu0
  nodup : ms.Nodup
  ds : c.ds = ms.map markOf
  rest : ∀ D ∈ ms, c.rest D = some (.deferred (some [])) ∧ c0.B ≤ D

/-- What is asked behind code that ends so. -/
def endM (Q : Exit → Act → World → Prop) (c0 : Ctx) (lam : Mem) (ρ' : St) : Ex → Prop
  | .normal => ∀ c ms G' a' w', Marked c0 c ms → G'.lam = lam → Inv c G' ρ' a' w' → Q .normal a' w'
  | .exit id => ∀ c ms G' a' w', Marked c0 c ms → G'.lam = lam → Inv c G' ρ' a' w' → Q (.exit id) a' w'
  | .ret => ∀ c ms G' a' w', Marked c0 c ms → G'.lam = lam → Inv c G' ρ' a' w' → Q .ret a' w'
  | .pan v => ∀ u c ms G' a' w', Marked c0 c ms → G'.lam = lam → Inv c G' ρ' a' w' → RepV G'.mu v u → Q (.panic [{ v := u, recovered := false }]) a' w'

theorem endM.toQ {Q : Exit → Act → World → Prop} {ρ' : St} {ms : List Nat} (hm : Marked c0 c ms) : ∀ {e : Ex}, endM Q c0 G.lam ρ' e → endQ Q c G ρ' e
  | .normal, h => fun G' a' w' l i => h c ms G' a' w' hm l i
  | .exit id, h => fun G' a' w' l i => h c ms G' a' w' hm l i
  | .ret, h => fun G' a' w' l i => h c ms G' a' w' hm l i
  | .pan v, h => fun u G' a' w' l i r => h u c ms G' a' w' hm l i r

theorem sound_range (ok : LiteOk P L) (cok : CallOk P L call) (iok : ItOk P L itv) (hgm0 : ∀ b o v, L.gm b o = some v → c0.mu0 b o = some v) {n : Nat} {ms : List Nat} (hm : Marked c0 c ms) (h : Inv c G ρ a w)
    {f : Operand} {p : Tmp} {assign body : Code} {g : FuncId} {caps : List X} {xs : List Value} (hf : ρ.opd f = .clo g caps) (hx : itv g caps = some xs) (hs : xs.all scal = true)
    {e : Ex} {ρ' : St} {Q : Exit → Act → World → Prop} (he : rounds L call n p assign body xs ρ = some (e, ρ')) (hq : endM Q c0 G.lam ρ' e) : (Code.rangeFunc f #[p] assign body).wpIn Fence.wide 0 P Q a w := by
  have hgm : ∀ b o v, L.gm b o = some v → c.mu0 b o = some v := fun b o v k => by rw [hm.mu0]; exact hgm0 b o v k
  refine wpIn_rangeFunc ?_
  intro fn _
  obtain ⟨D, hD⟩ : ∃ D, D = w.heap.size := ⟨_, rfl⟩
  obtain ⟨l, hl⟩ : ∃ l, l = w.heap.size + 1 := ⟨_, rfl⟩
  have hDl : D ≠ l := by omega
  obtain ⟨rec, hrec⟩ : ∃ rec : LoopState → Option Code → Loop, rec = fun st pe => { state := st, pending := pe, fn, tmps := a.tmps, params := #[p], assign, body, defers := D } := ⟨_, rfl⟩
  obtain ⟨W1, hW1⟩ : ∃ W1, (w.alloc (.deferred (some []))).alloc (.loop (rec .ready none)) = W1 := ⟨_, rfl⟩
  have hL1 : W1.heap[l]? = some (.loop (rec .ready none)) := by
    rw [← hW1, hl]; have := World.alloc_heap_new (w.alloc (.deferred (some []))) (.loop (rec .ready none)); rwa [World.size_alloc] at this
  have hK1 : W1.heap[D]? = some (.deferred (some [])) := by
    rw [← hW1, hD]; exact (Below.heap_alloc _ _ _ (by simp)).trans (World.alloc_heap_new w _)
  have hb1 : Below w.heap.size w W1 := by
    rw [← hW1]; exact (((Below.refl _ w).alloc (Nat.le_refl _) _).alloc (by simp) _)
  -- the ground with the record
  obtain ⟨R, hR⟩ : ∃ R : LoopState → Option Code → Nat → Option Obj, R = fun st pe k => if k = l then some (.loop (rec st pe)) else if k = D then some (.deferred (some [])) else c.rest k := ⟨_, rfl⟩
  have hRl : ∀ st pe, R st pe l = some (.loop (rec st pe)) := fun st pe => by rw [hR]; simp
  have hRD : ∀ st pe, R st pe D = some (.deferred (some [])) := fun st pe => by rw [hR]; simp [hDl]
  have hRo : ∀ st pe st' pe' k, k ≠ l → R st pe k = R st' pe' k := fun st pe st' pe' k hk => by rw [hR]; simp [hk]
  have hRc : ∀ st pe k, k ≠ l → k ≠ D → R st pe k = c.rest k := fun st pe k h1 h2 => by rw [hR]; simp [h1, h2]
  have hBl : c.B ≤ l := by have := h.cB; omega
  have i1 : Inv { c with rest := R .ready none } G ρ a W1 := by
    have i0 := h.grow hb1
    refine ⟨i0.size, i0.slots, i0.objs, i0.hmu, i0.hlam, i0.inj, i0.place, i0.sepl, i0.sepb, i0.sepr, i0.rown, i0.iom, i0.base, i0.cB, i0.mu0, i0.mu1, i0.defers, i0.kept, fun k o hk => ?_, fun s b hlv hmb => ?_⟩
    · have hk' : R .ready none k = some o := hk
      by_cases e1 : k = l
      · subst e1; rw [hRl] at hk'; cases hk'; exact hL1
      · by_cases e2 : k = D
        · subst e2; rw [hRD] at hk'; cases hk'; exact hK1
        · rw [hRc _ _ _ e1 e2] at hk'; exact i0.rest k o hk'
    · have hlt := h.lt hlv hmb
      show R .ready none b = none
      rw [hRc _ _ _ (by omega) (by omega)]
      exact i0.restm s b hlv hmb
  have hfv := opd_rep h f
  rw [hf] at hfv
  generalize hu : a.eval f = u at hfv
  cases hfv with
  | @clo _ _ cvs hcl hcr =>
    obtain ⟨hseq, eg⟩ := iok g caps xs hx G ρ.ob cvs w hcl hcr (fun b o v hv => hv.elim (h.hmu b o v) (h.hlam b o v))
    refine ⟨l, [markOf D], W1, { target := .fn (.func g) cvs.toArray, args := #[.func (.yield l) #[] #[]] }, W1, g, #[.func (.yield l) #[] #[]] ++ cvs.toArray, W1, ?_, ?_, fun _ _ => trivial, ?_, fun h => by simp [Fence.wide] at h, ?_⟩
    · rw [← hW1, hrec, hl, hD]; exact run_enterLoop_outer _ _ _ _ _
    · simp only [resolve, hu]
      simp [go_sem]
    · simp [invoke, go_sem, eg]
    · refine CallsIn.mono (hseq l
        (fun pre W => ∃ ob G', G'.lam = G.lam ∧ Inv { c with rest := R .ready none } G' { ρ with ob := ob } a W ∧ ∀ post, pre ++ post = xs → rounds L call n p assign body post { ρ with ob := ob } = some (e, ρ'))
        (fun pre W => ∃ ob G' jc, ρ' = { ρ with ob := ob } ∧ G'.lam = G.lam ∧ Inv { c with rest := R .done (some jc) } G' { ρ with ob := ob } a W ∧ ((e = .ret ∧ jc = .ret) ∨ ∃ id, e = .exit id ∧ jc = .exit id))
        W1 hb1 ?_ ?_ ?_ ?_ ⟨ρ.ob, G, rfl, i1, fun post hp => by rw [List.nil_append] at hp; rw [hp]; exact he⟩) ?_
      · rintro pre A B ⟨ob, G', h1, h2, h3⟩ hAB
        exact ⟨ob, G', h1, h2.grow hAB, h3⟩
      · rintro pre A B ⟨ob, G', jc, h0, h1, h2, h3⟩ hAB
        exact ⟨ob, G', jc, h0, h1, h2.grow hAB, h3⟩
      · rintro pre A ⟨ob, G', h1, h2, h3⟩ b o v hv
        exact h2.hmu b o v (h2.mu0 b o v (hgm b o v hv))
      · -- one round
        rintro pre x A ⟨ob, G', hlam, hi, hrd⟩ ⟨post, hpost⟩
        have hrl : A.heap[l]? = some (.loop (rec .ready none)) := hi.rest l _ (hRl _ _)
        have hr := hrd (x :: post) hpost
        have hscal : scal x = true := List.all_eq_true.1 hs x (by rw [← hpost]; simp)
        have hy := run_yield (P := P) (args := #[x]) hrl (by rw [hrec]; simp)
        rw [hrec] at hy
        simp only at hy
        refine ⟨fn, _, assign, body, hy, roundIn_of_wpIn trivial ?_⟩
        unfold rounds at hr
        split at hr
        · rename_i ρ1 hass
          obtain ⟨K, hK⟩ : ∃ K : X → Value → Prop, K = fun y u => (∃ i, y = ρ.sl i ∧ u = a.tmps.getD i undef) ∨ c.kp y u := ⟨_, rfl⟩
          have hA0 : Inv { c with rest := R .ready none, ds := [], kp := K } G' { ρ with ob := ob } { tmps := a.tmps, defers := [] } A := by
            refine ⟨hi.size, hi.slots, hi.objs, hi.hmu, hi.hlam, hi.inj, hi.place, hi.sepl, hi.sepb, hi.sepr, hi.rown, hi.iom, hi.base, hi.cB, hi.mu0, hi.mu1, rfl, fun y u hyu => ?_, hi.rest, hi.restm⟩
            have hyu' : K y u := hyu
            rw [hK] at hyu'
            rcases hyu' with ⟨i, rfl, rfl⟩ | hk
            · exact hi.slots i
            · exact hi.kept y u hk
          have hA1 := hA0.put (some p) (x := .v (.lit x)) (u := x) (rep_lit hscal)
          -- what a round leaves, for the frame
          have back : ∀ {st pe G2 ρ2 a2 w2}, ρ2.n = ρ.n → Inv { c with rest := R st pe, ds := [], kp := K } G2 ρ2 a2 w2 → Inv { c with rest := R st pe } G2 { ρ with ob := ρ2.ob } a w2 := by
            intro st pe G2 ρ2 a2 w2 hn i2
            refine ⟨hi.size, fun i => i2.kept _ _ (by show K _ _; rw [hK]; exact .inl ⟨i, rfl, rfl⟩), i2.objs, i2.hmu, i2.hlam, i2.inj, fun s b h1 h2 => by rw [show ({ ρ with ob := ρ2.ob } : St).n = ρ2.n from hn.symm]; exact i2.place s b h1 h2, i2.sepl, i2.sepb, i2.sepr,
              fun s g mt z es h1 => by rw [show ({ ρ with ob := ρ2.ob } : St).n = ρ2.n from hn.symm]; exact i2.rown s g mt z es h1, fun j b h1 => by rw [show ({ ρ with ob := ρ2.ob } : St).n = ρ2.n from hn.symm]; exact i2.iom j b h1, i2.base, i2.cB, i2.mu0, i2.mu1, h.defers,
              fun y u hyu => i2.kept y u (by show K y u; rw [hK]; exact .inr hyu), i2.rest, i2.restm⟩
          have hn1 : ρ1.n = ρ.n := by rw [evalCode_n assign hass, put_eq]
          have htm : (#[p].zip #[x]).foldl (fun tmps (t, v) => tmps.setIfInBounds t v) a.tmps = (({ tmps := a.tmps, defers := [] } : Act).put (some p) x).tmps := by simp [Act.put]
          show assign.wpIn (openF (some l)) 0 P _ _ _
          have hact : ({ tmps := (#[p].zip #[x]).foldl (fun tmps (t, v) => tmps.setIfInBounds t v) a.tmps, defers := [] } : Act) = ({ tmps := a.tmps, defers := [] } : Act).put (some p) x := by
            rw [htm]; rfl
          first | rw [hact] | (simp only [hact])
          refine sound_codeIn (c := { c with rest := R .ready none, ds := [], kp := K }) ok cok hgm assign hA1 hass ?_
          intro G2 a2 w2 hl2 i2
          have hrl2 : w2.heap[l]? = some (.loop (rec .ready none)) := i2.rest l _ (hRl _ _)
          refine ⟨_, run_beginRound hrl2 (by rw [hrec]), ?_⟩
          have i3 : Inv { c with rest := R .busy none, ds := [], kp := K } G2 ρ1 a2 (w2.putObj l (.loop { rec .ready none with state := .busy })) := by
            have := i2.setRec (l := l) (o := .loop (rec .ready none)) (o' := .loop (rec .busy none)) (R := R .busy none) (hRl _ _) rfl hBl (hRl _ _) (fun k hk => hRo _ _ _ _ k hk)
            rw [hrec] at this ⊢
            exact this
          have recb : ∀ {G3 : Gh} {ρ3 a3 w3}, Inv { c with rest := R .busy none, ds := [], kp := K } G3 ρ3 a3 w3 → ∀ pe : Option Code, ∃ w4, (Instr.endRound l pe).run P w3 = .ok (.bool pe.isNone) w4 ∧
              Inv { c with rest := R (if pe.isNone then .ready else .done) pe, ds := [], kp := K } G3 ρ3 a3 w4 := by
            intro G3 ρ3 a3 w3 i pe
            have hb : w3.heap[l]? = some (.loop (rec .busy none)) := i.rest l _ (hRl _ _)
            refine ⟨_, run_endRound pe hb, ?_⟩
            have := i.setRec (l := l) (o := .loop (rec .busy none)) (o' := .loop (rec (if pe.isNone then .ready else .done) pe)) (R := R (if pe.isNone then .ready else .done) pe) (hRl _ _) rfl hBl (hRl _ _) (fun k hk => hRo _ _ _ _ k hk)
            rw [hrec] at this ⊢
            exact this
          split at hr
          · rename_i ρ2 hbody
            have hn2 : ρ2.n = ρ.n := by rw [evalCode_n body hbody, hn1]
            refine sound_codeIn (r0 := some l) (c := { c with rest := R .busy none, ds := [], kp := K }) ok cok hgm body i3 hbody ?_
            intro G3 a3 w3 hl3 i4
            obtain ⟨w4, k1, k2⟩ := recb i4 none
            refine ⟨_, w4, k1, .inl ⟨rfl, ρ2.ob, G3, hl3.trans (hl2.trans hlam), back hn2 k2, fun post' hp' => ?_⟩⟩
            have : post' = post := by
              have : pre ++ [x] ++ post' = pre ++ x :: post := hp'.trans hpost.symm
              simpa using this
            rw [this]; exact hr
          · rename_i id ρ2 hbody
            have hn2 : ρ2.n = ρ.n := by rw [evalCode_n body hbody, hn1]
            simp only [Option.some.injEq, Prod.mk.injEq] at hr
            obtain ⟨rfl, rfl⟩ := hr
            refine sound_codeIn (r0 := some l) (c := { c with rest := R .busy none, ds := [], kp := K }) ok cok hgm body i3 hbody ?_
            intro G3 a3 w3 hl3 i4
            obtain ⟨w4, k1, k2⟩ := recb i4 (some (.exit id))
            exact ⟨_, w4, k1, .inr ⟨rfl, ρ2.ob, G3, .exit id, rfl, hl3.trans (hl2.trans hlam), back hn2 k2, .inr ⟨id, rfl, rfl⟩⟩⟩
          · rename_i ρ2 hbody
            have hn2 : ρ2.n = ρ.n := by rw [evalCode_n body hbody, hn1]
            simp only [Option.some.injEq, Prod.mk.injEq] at hr
            obtain ⟨rfl, rfl⟩ := hr
            refine sound_codeIn (r0 := some l) (c := { c with rest := R .busy none, ds := [], kp := K }) ok cok hgm body i3 hbody ?_
            intro G3 a3 w3 hl3 i4
            obtain ⟨w4, k1, k2⟩ := recb i4 (some .ret)
            exact ⟨_, w4, k1, .inr ⟨rfl, ρ2.ob, G3, .ret, rfl, hl3.trans (hl2.trans hlam), back hn2 k2, .inl ⟨rfl, rfl⟩⟩⟩
          · cases hr
        · cases hr
      · -- behind the loop
        have after : ∀ {st pe G2 ob w2}, st ≠ .busy → Inv { c with rest := R st pe } G2 { ρ with ob := ob } a w2 → ∃ w3, (Instr.endLoop l).run P w2 = .ok pe w3 ∧
            Marked c0 { c with rest := R .exhausted pe, ds := markOf D :: c.ds } (D :: ms) ∧ Inv { c with rest := R .exhausted pe, ds := markOf D :: c.ds } G2 { ρ with ob := ob } { a with defers := [markOf D] ++ a.defers } w3 := by
          intro st pe G2 ob w2 hst i2
          have hb : w2.heap[l]? = some (.loop (rec st pe)) := i2.rest l _ (hRl _ _)
          have hrun : (Instr.endLoop l).run P w2 = .ok pe (w2.putObj l (.loop (rec .exhausted pe))) := by
            have := run_endLoop (P := P) hb (by rw [hrec]; exact hst)
            rw [hrec] at this ⊢
            exact this
          have i3 := i2.setRec (l := l) (o := .loop (rec st pe)) (o' := .loop (rec .exhausted pe)) (R := R .exhausted pe) (hRl _ _) rfl hBl (hRl _ _) (fun k hk => hRo _ _ _ _ k hk)
          refine ⟨_, hrun, ⟨hm.B, hm.ios, hm.W, hm.mu0, List.nodup_cons.2 ⟨fun hmem => ?_, hm.nodup⟩, by show markOf D :: c.ds = _; rw [hm.ds]; rfl, fun D' hD' => ?_⟩, ?_⟩
          · have := h.rest D _ (hm.rest D hmem).1
            have := (Array.getElem?_eq_some_iff.1 this).1
            omega
          · rcases List.mem_cons.1 hD' with rfl | hD'
            · exact ⟨hRD _ _, by have := h.cB; rw [hm.B] at this; omega⟩
            · obtain ⟨k1, k2⟩ := hm.rest D' hD'
              have := h.rest D' _ k1
              have := (Array.getElem?_eq_some_iff.1 this).1
              exact ⟨by show R _ _ D' = _; rw [hRc _ _ _ (by omega) (by omega)]; exact k1, k2⟩
          · refine ⟨i3.size, i3.slots, i3.objs, i3.hmu, i3.hlam, i3.inj, i3.place, i3.sepl, i3.sepb, i3.sepr, i3.rown, i3.iom, i3.base, i3.cB, i3.mu0, i3.mu1, ?_, i3.kept, i3.rest, i3.restm⟩
            show [markOf D] ++ a.defers = markOf D :: c.ds
            rw [h.defers]; rfl
        rintro e' W' ⟨⟨v, rfl⟩, ⟨ob, G', hlam, hi, hrd⟩ | ⟨pre, ob, G', jc, hρ, hlam, hi, hej⟩⟩
        · have hr := hrd [] (by simp)
          simp only [rounds, Option.some.injEq, Prod.mk.injEq] at hr
          obtain ⟨rfl, rfl⟩ := hr
          obtain ⟨w3, k1, k2, k3⟩ := after (st := .ready) (pe := none) (fun h => by cases h) hi
          exact ⟨_, w3, k1, hq _ _ G' _ w3 k2 hlam k3⟩
        · obtain ⟨w3, k1, k2, k3⟩ := after (st := .done) (pe := some jc) (fun h => by cases h) hi
          refine ⟨_, w3, k1, ?_⟩
          subst hρ
          rcases hej with ⟨rfl, rfl⟩ | ⟨id, rfl, rfl⟩
          · exact wpIn_ret (hq _ _ G' _ w3 k2 hlam k3)
          · exact wpIn_exit (hq _ _ G' _ w3 k2 hlam k3)

end
end Go.Dv

namespace Go.Dv
open Go Go.RowKit

section
variable {P : Program} {L : Lite} {c c0 : Ctx} {G : Gh} {ρ : St} {a : Act} {w : World} {call : Call1} {itv : Itv}

theorem endM.lam {Q : Exit → Act → World → Prop} {l l' : Mem} {ρ' : St} (hl : l' = l) {e : Ex} (h : endM Q c0 l ρ' e) : endM Q c0 l' ρ' e := by subst hl; exact h

theorem sound_codeR (ok : LiteOk P L) (cok : CallOk P L call) (iok : ItOk P L itv) (hgm0 : ∀ b o v, L.gm b o = some v → c0.mu0 b o = some v) {n : Nat} : ∀ (cd : Code) {c : Ctx} {ms : List Nat} (hm : Marked c0 c ms) {G : Gh} {ρ : St} {a : Act} {w : World} (h : Inv c G ρ a w)
    {e : Ex} {ρ' : St} {Q : Exit → Act → World → Prop}, evalCodeR L itv call n cd ρ = some (e, ρ') → endM Q c0 G.lam ρ' e → cd.wpIn Fence.wide 0 P Q a w
  | .skip, c, ms, hm, G, ρ, a, w, h, e, ρ', Q, he, hq => sound_codeIn (r0 := none) ok cok (fun b o v k => by rw [hm.mu0]; exact hgm0 b o v k) .skip h he (hq.toQ hm)
  | .label l, c, ms, hm, G, ρ, a, w, h, e, ρ', Q, he, hq => sound_codeIn (r0 := none) ok cok (fun b o v k => by rw [hm.mu0]; exact hgm0 b o v k) (.label l) h he (hq.toQ hm)
  | .region id ops d, c, ms, hm, G, ρ, a, w, h, e, ρ', Q, he, hq => sound_codeIn (r0 := none) ok cok (fun b o v k => by rw [hm.mu0]; exact hgm0 b o v k) (.region id ops d) h he (hq.toQ hm)
  | .loop x, c, ms, hm, G, ρ, a, w, h, e, ρ', Q, he, hq => sound_codeIn (r0 := none) ok cok (fun b o v k => by rw [hm.mu0]; exact hgm0 b o v k) (.loop x) h he (hq.toQ hm)
  | .exit l, c, ms, hm, G, ρ, a, w, h, e, ρ', Q, he, hq => sound_codeIn (r0 := none) ok cok (fun b o v k => by rw [hm.mu0]; exact hgm0 b o v k) (.exit l) h he (hq.toQ hm)
  | .ret, c, ms, hm, G, ρ, a, w, h, e, ρ', Q, he, hq => sound_codeIn (r0 := none) ok cok (fun b o v k => by rw [hm.mu0]; exact hgm0 b o v k) .ret h he (hq.toQ hm)
  | .goto l, c, ms, hm, G, ρ, a, w, h, e, ρ', Q, he, hq => sound_codeIn (r0 := none) ok cok (fun b o v k => by rw [hm.mu0]; exact hgm0 b o v k) (.goto l) h he (hq.toQ hm)
  | .refuse l, c, ms, hm, G, ρ, a, w, h, e, ρ', Q, he, hq => sound_codeIn (r0 := none) ok cok (fun b o v k => by rw [hm.mu0]; exact hgm0 b o v k) (.refuse l) h he (hq.toQ hm)
  | .seq x y, c, ms, hm, G, ρ, a, w, h, e, ρ', Q, he, hq => by
    simp only [evalCodeR] at he
    refine wpIn_seq ?_
    split at he
    · rename_i ρ1 hx
      exact sound_codeR ok cok iok hgm0 x hm h hx (fun c' ms' G' a' w' hm' l i => sound_codeR ok cok iok hgm0 y hm' i he (hq.lam l))
    · rename_i hne
      refine sound_codeR ok cok iok hgm0 x hm h he ?_
      cases e with
      | normal => exact absurd he (hne _)
      | exit id => exact hq
      | ret => exact hq
      | pan v => exact hq
  | .cond cc x y, c, ms, hm, G, ρ, a, w, h, e, ρ', Q, he, hq => by
    simp only [evalCodeR] at he
    have hc := opd_rep h cc
    split at he
    · rename_i p hp
      rw [hp] at hc
      obtain ⟨hc, _⟩ := lit_val hc
      refine wpIn_cond hc ?_
      cases p with
      | true => exact sound_codeR ok cok iok hgm0 x hm h he hq
      | false => exact sound_codeR ok cok iok hgm0 y hm h he hq
    · cases he
  | .block id x, c, ms, hm, G, ρ, a, w, h, e, ρ', Q, he, hq => by
    simp only [evalCodeR] at he
    refine wpIn_block ?_
    split at he
    · rename_i i ρ1 hx
      refine sound_codeR ok cok iok hgm0 x hm h hx ?_
      intro c' ms' G' a' w' hm' l iv
      show (if i = id then Q .normal a' w' else Q (.exit i) a' w')
      split at he
      · rename_i hii
        simp only [Option.some.injEq, Prod.mk.injEq] at he
        obtain ⟨rfl, rfl⟩ := he
        rw [if_pos hii]; exact hq c' ms' G' a' w' hm' l iv
      · rename_i hii
        simp only [Option.some.injEq, Prod.mk.injEq] at he
        obtain ⟨rfl, rfl⟩ := he
        rw [if_neg hii]; exact hq c' ms' G' a' w' hm' l iv
    · rename_i hne
      refine sound_codeR ok cok iok hgm0 x hm h he ?_
      cases e with
      | normal => exact hq
      | exit i => exact absurd he (hne _ _)
      | ret => exact hq
      | pan v => exact hq
  | .scope x, c, ms, hm, G, ρ, a, w, h, e, ρ', Q, he, hq => by
    simp only [evalCodeR] at he
    refine wpIn_scope_straight (sound_codeR ok cok iok hgm0 x hm h he ?_)
    cases e with
    | normal => exact hq
    | exit i => exact hq
    | ret => exact hq
    | pan v => exact hq
  | .rangeFunc f ps assign body, c, ms, hm, G, ρ, a, w, h, e, ρ', Q, he, hq => by
    simp only [evalCodeR] at he
    split at he
    · rename_i g caps p hf
      split at he
      · rename_i xs hx
        split at he
        · rename_i hs
          exact sound_range ok cok iok hgm0 hm h hf hx hs he hq
        · cases he
      · cases he
    · cases he

theorem evalCodeR_n {n : Nat} : ∀ (cd : Code) {ρ ρ' : St} {e : Ex}, evalCodeR L itv call n cd ρ = some (e, ρ') → ρ'.n = ρ.n
  | .skip, ρ, ρ', e, h => evalCode_n .skip h
  | .label l, ρ, ρ', e, h => evalCode_n (.label l) h
  | .region id ops d, ρ, ρ', e, h => evalCode_n (.region id ops d) h
  | .loop x, ρ, ρ', e, h => evalCode_n (.loop x) h
  | .exit x, ρ, ρ', e, h => evalCode_n (.exit x) h
  | .ret, ρ, ρ', e, h => evalCode_n .ret h
  | .goto x, ρ, ρ', e, h => evalCode_n (.goto x) h
  | .refuse x, ρ, ρ', e, h => evalCode_n (.refuse x) h
  | .scope c, ρ, ρ', e, h => by simp only [evalCodeR] at h; exact evalCodeR_n c h
  | .seq x y, ρ, ρ', e, h => by
    simp only [evalCodeR] at h
    split at h
    · rename_i hx; rw [evalCodeR_n y h, evalCodeR_n x hx]
    · exact evalCodeR_n x h
  | .cond c x y, ρ, ρ', e, h => by
    simp only [evalCodeR] at h
    split at h
    · split at h
      · exact evalCodeR_n x h
      · exact evalCodeR_n y h
    · cases h
  | .block id x, ρ, ρ', e, h => by
    simp only [evalCodeR] at h
    split at h
    · rename_i hx
      split at h
      · simp only [Option.some.injEq, Prod.mk.injEq] at h; rw [← h.2]; exact evalCodeR_n x hx
      · simp only [Option.some.injEq, Prod.mk.injEq] at h; rw [← h.2]; exact evalCodeR_n x hx
    · exact evalCodeR_n x h
  | .rangeFunc f ps assign body, ρ, ρ', e, h => by
    have key : ∀ (xs : List Value) (p : Tmp) (ρ : St), rounds L call n p assign body xs ρ = some (e, ρ') → ρ'.n = ρ.n := by
      intro xs p
      induction xs with
      | nil => intro ρ h; simp only [rounds, Option.some.injEq, Prod.mk.injEq] at h; rw [h.2]
      | cons x xs ih =>
        intro ρ h
        unfold rounds at h
        split at h
        · split at h
          · have := ih _ h; exact this
          · simp only [Option.some.injEq, Prod.mk.injEq] at h; rw [← h.2]
          · simp only [Option.some.injEq, Prod.mk.injEq] at h; rw [← h.2]
          · cases h
        · cases h
    simp only [evalCodeR] at h
    split at h
    · split at h
      · split at h
        · exact key _ _ _ h
        · cases h
      · cases h
    · cases h

/-- A function that loops over functions' values. -/
def runRange (L : Lite) (itv : Itv) (fn : Func) : Runner := fun call n xs cs =>
  match fn.body with
  | .none => .none
  | some cd =>
    if xs.length ≤ fn.ntmps then
      match evalCodeR L itv call n cd (enterSt fn xs cs) with
      | some (.normal, ρ) | some (.ret, ρ) => match (resEf L ρ.sl fn.results.toList .ret).run ρ.ob with
        | some (vs, H, _, _) => match outs H fn.ntmps cs.length with
          | some r => some (.ret vs, r)
          | .none => .none
        | .none => .none
      | _ => .none
    else .none

/-- The marks are come to, one after the other. -/
theorem leave_marks {fn : Func} {R : Ending → World → Prop} : ∀ (ms : List Nat) {c : Ctx} {G : Gh} {ρ : St} {a : Act} {w : World}, Inv c G ρ a w → ms.Nodup → (∀ D ∈ ms, c.rest D = some (.deferred (some [])) ∧ c.B ≤ D) →
    (∀ c' w', c'.B = c.B → c'.ios = c.ios → c'.W = c.W → c'.mu0 = c.mu0 → Inv c' G ρ a w' → ∃ v, (results fn a.tmps).run P w' = .ok v w' ∧ R (.returned v) w') → LeavesInM Fence.wide 0 P fn a.tmps R (ms.map markOf) .returning w
  | [], c, G, ρ, a, w, h, _, _, hq => hq c w rfl rfl rfl rfl h
  | D :: ms, c, G, ρ, a, w, h, hnd, hD, hq => by
    obtain ⟨h1, h2⟩ := List.nodup_cons.1 hnd
    obtain ⟨k1, k2⟩ := hD D List.mem_cons_self
    refine ⟨(fun h => by cases h), .inl ⟨D, w.putObj D (.deferred none), rfl, run_takeDeferred (h.rest D _ k1), ?_⟩⟩
    have hR := h.setRec (o' := .deferred none) (R := fun k => if k = D then some (.deferred none) else c.rest k) k1 rfl k2 (by simp) (fun k hk => by simp [hk])
    refine leave_marks ms hR h2 (fun D' hD' => ?_) (fun c' w' e1 e2 e3 e4 i => hq c' w' e1 e2 e3 e4 i)
    have hne : D' ≠ D := fun e => by subst e; exact h1 hD'
    refine ⟨?_, (hD D' (List.mem_cons_of_mem _ hD')).2⟩
    show (if D' = D then some (.deferred none) else c.rest D') = _
    rw [if_neg hne]; exact (hD D' (List.mem_cons_of_mem _ hD')).1

theorem range_ok (ok : LiteOk P L) (cok : CallOk P L call) (iok : ItOk P L itv) {n : Nat} {f : FuncId} {fn : Func} {as : List X} {cs cs' : List (List V)} {res : Res} (hf : L.fn.getD f .none = some fn) (hrun : runRange L itv fn call n as cs = some (res, cs'))
    (w : World) (mu lam : Mem) (bs : List Nat) (us : List Value) (he : Entry L.gm mu lam bs cs w) (hl : as.length = us.length)
    (hx : ∀ (j : Nat) (x : X) (u : Value), as[j]? = some x → us[j]? = some u → RepX (ioGh fn.ntmps mu lam bs) (ioOb fn.ntmps cs) x u) :
    Calls P f us.toArray w fun e w' => ∃ mu', Left mu bs cs' w w' mu' ∧ EndRep res mu' e := by
  obtain ⟨hpf, _, _⟩ := ok.fn f fn hf
  unfold runRange at hrun
  split at hrun
  · cases hrun
  · rename_i cd hbody
    split at hrun
    · rename_i hn
      have h0 := enter_inv (fn := fn) he hl hn hx
      refine callsIn_wide.1 (callsIn_of_wp_marks (n := 0) hpf hbody trivial ?_)
      have fin : ∀ {e : Ex} {ρ : St}, evalCodeR L itv call n cd (enterSt fn as cs) = some (e, ρ) → ∀ {vs H rr wr r}, (resEf L ρ.sl fn.results.toList .ret).run ρ.ob = some (vs, H, rr, wr) → outs H fn.ntmps cs.length = some r →
          ∀ c ms G' a' w', Marked { B := w.heap.size, ios := bs, W := w, mu0 := mu } c ms → Inv c G' ρ a' w' →
          LeavesInM Fence.wide 0 P fn a'.tmps (fun e w' => ∃ mu', Left mu bs r w w' mu' ∧ EndRep (.ret vs) mu' e) a'.defers .returning w' := by
        intro e ρ hev vs H rr wr r hres hout c ms G' a' w' hm hi
        rw [hi.defers, hm.ds]
        refine leave_marks ms hi hm.nodup (fun D hD => ⟨(hm.rest D hD).1, by rw [hm.B]; exact (hm.rest D hD).2⟩) fun c' w2 e1 e2 e3 e4 i2 => ?_
        have i3 : Inv { B := w.heap.size, ios := bs, W := w, mu0 := mu } G' ρ { a' with defers := [] } w2 := by
          refine ⟨i2.size, i2.slots, i2.objs, i2.hmu, i2.hlam, i2.inj, fun s b h1 h2 => ?_, i2.sepl, i2.sepb, i2.sepr, i2.rown, fun j b hj => ?_, ?_, ?_, fun b o v k => ?_, fun b o v k => ?_, rfl, (fun x u hx => hx.elim), (fun k o hk => by cases hk), fun _ _ _ _ => rfl⟩
          · have := i2.place s b h1 h2
            rw [e1, e2, hm.B, hm.ios] at this; exact this
          · refine i2.iom j b ?_
            rw [e2, hm.ios]; exact hj
          · have := i2.base
            rw [e1, e2, e3, hm.B, hm.ios, hm.W] at this; exact this
          · have := i2.cB
            rw [e1, hm.B] at this; exact this
          · refine i2.mu0 b o v ?_
            rw [e4, hm.mu0]; exact k
          · have := i2.mu1 b o v k
            rw [e1, e4, hm.B, hm.mu0] at this; exact this
        obtain ⟨vs2, us2, G2, H2, l2, i4, la2, r2, g2, m2⟩ := sound_res (P := P) ok fn.results.toList i3 i3.slots ⟨rr, wr, hres⟩
        obtain ⟨rfl, rfl⟩ := go_ret g2
        exact ⟨tupV us2, results_run m2, G2.mu, left_of (fn := fn) (ρ' := { ρ with ob := H2 }) he (evalCodeR_n cd hev) i4 hout, us2, r2, rfl⟩
      have hm0 : Marked { B := w.heap.size, ios := bs, W := w, mu0 := mu } { B := w.heap.size, ios := bs, W := w, mu0 := mu } [] := ⟨rfl, rfl, rfl, rfl, List.nodup_nil, rfl, fun D hD => by simp at hD⟩
      split at hrun
      · rename_i ρ hev
        split at hrun
        · rename_i vs H rr wr hres
          split at hrun
          · rename_i r hout
            cases hrun
            exact sound_codeR ok cok iok he.hgm cd hm0 h0 hev fun c ms G' a' w' hm _ hi => fin hev hres hout c ms G' a' w' hm hi
          · cases hrun
        · cases hrun
      · rename_i ρ hev
        split at hrun
        · rename_i vs H rr wr hres
          split at hrun
          · rename_i r hout
            cases hrun
            exact sound_codeR ok cok iok he.hgm cd hm0 h0 hev fun c ms G' a' w' hm _ hi => fin hev hres hout c ms G' a' w' hm hi
          · cases hrun
        · cases hrun
      · cases hrun
    · cases hrun

/-! ### more fuel, the same answer -/
theorem rounds_le {c c' : Call1} (hc : CallLe c c') {n n' : Nat} (hn : n ≤ n') {p : Tmp} {assign body : Code} : ∀ {xs : List Value} {ρ : St} {y : Ex × St}, rounds L c n p assign body xs ρ = some y → rounds L c' n' p assign body xs ρ = some y
  | [], ρ, y, h => h
  | x :: xs, ρ, y, h => by
    unfold rounds at h ⊢
    split at h
    · rename_i ρ1 h1
      rw [evalCode_le hc hn assign h1]
      simp only
      split at h
      · rename_i ρ2 h2; rw [evalCode_le hc hn body h2]; exact rounds_le hc hn h
      · rename_i id ρ2 h2; rw [evalCode_le hc hn body h2]; exact h
      · rename_i ρ2 h2; rw [evalCode_le hc hn body h2]; exact h
      · cases h
    · cases h

theorem evalCodeR_le {c c' : Call1} (hc : CallLe c c') {n n' : Nat} (hn : n ≤ n') : ∀ (cd : Code) {ρ : St} {y : Ex × St}, evalCodeR L itv c n cd ρ = some y → evalCodeR L itv c' n' cd ρ = some y
  | .skip, ρ, y, h => evalCode_le hc hn .skip h
  | .label l, ρ, y, h => evalCode_le hc hn (.label l) h
  | .region id ops d, ρ, y, h => evalCode_le hc hn (.region id ops d) h
  | .loop x, ρ, y, h => evalCode_le hc hn (.loop x) h
  | .exit x, ρ, y, h => evalCode_le hc hn (.exit x) h
  | .ret, ρ, y, h => evalCode_le hc hn .ret h
  | .goto x, ρ, y, h => evalCode_le hc hn (.goto x) h
  | .refuse x, ρ, y, h => evalCode_le hc hn (.refuse x) h
  | .scope x, ρ, y, h => by simp only [evalCodeR] at h ⊢; exact evalCodeR_le hc hn x h
  | .seq a b, ρ, y, h => by
    simp only [evalCodeR] at h ⊢
    split at h
    · rename_i ρ' he
      rw [evalCodeR_le hc hn a he]; exact evalCodeR_le hc hn b h
    · rename_i hne
      cases y with
      | mk e ρ' =>
        rw [evalCodeR_le hc hn a h]
        cases e with
        | normal => exact absurd h (hne _)
        | _ => rfl
  | .cond cc a b, ρ, y, h => by
    simp only [evalCodeR] at h ⊢
    split at h
    · rename_i p hp
      cases p with
      | true => exact evalCodeR_le hc hn a h
      | false => exact evalCodeR_le hc hn b h
    · cases h
  | .block id x, ρ, y, h => by
    simp only [evalCodeR] at h ⊢
    split at h
    · rename_i i ρ' he
      rw [evalCodeR_le hc hn x he]; exact h
    · rename_i hne
      cases y with
      | mk e ρ' =>
        rw [evalCodeR_le hc hn x h]
        cases e with
        | exit i => exact absurd h (hne _ _)
        | _ => rfl
  | .rangeFunc f ps assign body, ρ, y, h => by
    simp only [evalCodeR] at h ⊢
    split at h
    · rename_i g caps p hf
      split at h
      · rename_i xs hx
        split at h
        · rename_i hs
          rw [if_pos hs]; exact rounds_le hc hn h
        · cases h
      · cases h
    · cases h

theorem runRange_le {fn : Func} {c c' : Call1} (hc : CallLe c c') {n n' : Nat} (hn : n ≤ n') {xs : List X} {cs : List (List V)} {r : Res × List (List V)} (h : runRange L itv fn c n xs cs = some r) : runRange L itv fn c' n' xs cs = some r := by
  unfold runRange at h ⊢
  split at h
  · cases h
  · rename_i cd hb
    split at h
    · rename_i hle
      simp only [hb, if_pos hle]
      split at h
      · rename_i ρ he
        rw [evalCodeR_le hc hn cd he]; exact h
      · rename_i ρ he
        rw [evalCodeR_le hc hn cd he]; exact h
      · cases h
    · cases h

/-- Functions that defer a recovering closure, and functions that loop over functions' values. -/
def bothExt (L : Lite) (itv : Itv) (D R : List FuncId) : Ext := fun f =>
  if D.contains f then (L.fn.getD f .none).map fun fn => runDefer L fn
  else if R.contains f then (L.fn.getD f .none).map fun fn => runRange L itv fn else .none

theorem bothExt_ok (ok : LiteOk P L) (iok : ItOk P L itv) (D R : List FuncId) : ExtOk P L (bothExt L itv D R) := by
  intro call cok n f fn args cs res cs' hf hc w mu lam bs us he hl hx
  simp only at hc
  split at hc
  · rename_i e hext
    unfold bothExt at hext
    split at hext
    · rw [hf] at hext
      cases hext
      exact defer_ok ok cok hf hc w mu lam bs us he hl hx
    · split at hext
      · rw [hf] at hext
        cases hext
        exact range_ok ok cok iok hf hc w mu lam bs us he hl hx
      · cases hext
  · cases hc

theorem bothExt_le (L : Lite) (itv : Itv) (D R : List FuncId) : ExtLe (bothExt L itv D R) := by
  intro f e he c c' n n' hc hn xs cs r h
  unfold bothExt at he
  split at he
  · obtain ⟨fn, _, rfl⟩ := Option.map_eq_some_iff.1 he
    exact runDefer_le hc hn h
  · split at he
    · obtain ⟨fn, _, rfl⟩ := Option.map_eq_some_iff.1 he
      exact runRange_le hc hn h
    · cases he

end
end Go.Dv

namespace Go.Dv
open Go Go.RowKit

section
variable {P : Program} {L : Lite} {c : Ctx} {G : Gh} {ρ : St} {a : Act} {w : World}

theorem noCalls : CallOk P L (fun _ _ _ => none) := fun f fn args cs res cs' hf hc => by cases hc

/-- A function that lays an array into a new variable and answers a function over it. -/
theorem its_of (ok : LiteOk P L) {g : FuncId} {fn : Func} {it : FuncId} {n : Nat} {cd : Code} {r : Tmp} {s gn : Nat} (hf : L.fn.getD g .none = some fn) (hbody : fn.body = some cd) (hres : fn.results = #[.tmp r]) (hn : 1 ≤ fn.ntmps)
    (hev : ∀ cs : List V, cs.length = n → ∃ ρ', evalCode { L with gm := fun _ _ => none } (fun _ _ _ => none) 1 cd (enterSt fn [.v (.agg cs)] []) = some (.ret, ρ') ∧ ρ'.sl r = .clo it [.addr s gn 0] ∧ ρ'.ob s = .box gn (cs.map .v) ∧ s < fn.ntmps)
    (cs : List V) (vs : List Value) (mu : Mem) (w : World) (hlen : cs.length = n) (hrep : RepV mu (.agg cs) (.agg vs.toArray)) (hmu : ∀ b o v, mu b o = some v → w.cell? ⟨b, o, none⟩ = some v) :
    (callFunc g #[.agg vs.toArray]).run P w = .ok (.enter g #[.agg vs.toArray]) w ∧ Calls P g #[.agg vs.toArray] w fun e w' => ∃ (b : Nat) (mu' : Mem), Base w.heap.size [] w w' ∧ (∀ b o v, mu b o = some v → mu' b o = some v) ∧
      (∀ b o v, mu' b o = some v → mu b o = some v ∨ w.heap.size ≤ b) ∧ (∀ b o v, mu' b o = some v → w'.cell? ⟨b, o, none⟩ = some v) ∧
      e = .returned (.func (.func it) #[] #[.pointer (some ⟨b, 0, none⟩)]) ∧ RepCs (inMem mu') mu' cs ⟨b, 0, none⟩ := by
  obtain ⟨hpf, h2, h3⟩ := ok.fn g fn hf
  have hnone : fn.body.isNone = false := by cases hb : fn.body <;> simp_all
  refine ⟨by simp only [callFunc, Sem.run_bind, run_program, Result.andThen_ok, hpf, h3, hnone, Bool.false_eq_true, if_false]; rfl, ?_⟩
  have he : Entry (fun _ _ => none) mu (fun _ _ => none) [] [] w := ⟨hmu, (fun b o v h => nomatch h), rfl, List.nodup_nil, (fun j b c h => by simp at h), (fun b h => by simp at h), fun b o v h => nomatch h⟩
  have he' : Entry ({ L with gm := fun _ _ => none } : Lite).gm mu (fun _ _ => none) [] [] w := he
  have h0 := enter_inv (L := { L with gm := fun _ _ => none }) (fn := fn) (as := [.v (.agg cs)]) (us := [.agg vs.toArray]) he' rfl hn (fun j x u hj hu => by
    cases j with
    | zero => simp at hj hu; subst hj hu; exact .v hrep
    | succ j => simp at hj)
  obtain ⟨ρ', hev1, hsl, hob, hsn⟩ := hev cs hlen
  refine calls_of_wp hpf hbody ?_
  -- the code, with no memory asked for
  have key : ∀ {Q : Exit → Act → World → Prop}, endQ Q { B := w.heap.size, ios := [], W := w, mu0 := mu } (ioGh fn.ntmps mu (fun _ _ => none) []) ρ' .ret → cd.wp P Q { tmps := [Value.agg vs.toArray].toArray ++ Array.replicate (fn.ntmps - [Value.agg vs.toArray].toArray.size) undef, defers := [] } w := by
    intro Q hq
    have ok0 : LiteOk P { L with gm := fun _ _ => none } := ⟨ok.mixed, fun t ht => ⟨(ok.fact t ht).und, (ok.fact t ht).info, (ok.fact t ht).one, (ok.fact t ht).kd⟩, ok.kd, ok.nozero, ok.slice, ok.array, ok.struct, ok.fn, ok.eqt, ok.its, ok.jn, ok.xb⟩
    exact sound_code ok0 noCalls (fun b o v h => nomatch h) cd h0 hev1 hq
  refine key ?_
  intro G' a' w' _ hi
  have hs := hi.slots r
  rw [hsl] at hs
  have hv : ∃ b, G'.m s = some b ∧ a'.tmps.getD r undef = .func (.func it) #[] #[.pointer (some ⟨b, 0, none⟩)] := by
    generalize a'.tmps.getD r undef = u at hs
    cases hs with
    | @clo _ _ cvs hcl hcr =>
      match cvs, hcl with
      | [u1], _ =>
        have h1 := hcr 0 _ u1 rfl rfl
        cases h1 with
        | addr hg hh =>
          obtain ⟨b, hb, rfl⟩ := hh _ hob
          exact ⟨b, hb, rfl⟩
  obtain ⟨b, hb, hv⟩ := hv
  have ho := hi.objs s
  rw [hob] at ho
  obtain ⟨b', hb', hlt, _, _, hcell⟩ := ho
  rw [hb] at hb'; cases hb'
  have hbB : w.heap.size ≤ b := by
    rcases hi.place s b (by rw [hob]; trivial) hb with h | ⟨_, h⟩
    · exact h
    · simp at h
  have hmun : ∀ o, G'.mu b o = none := fun o => hi.sepb s gn _ b o hob hb
  refine ⟨hi.defers, .func (.func it) #[] #[.pointer (some ⟨b, 0, none⟩)], ?_, b, fun b1 o => if b1 = b ∧ o < cs.length then w'.cell? ⟨b, o, none⟩ else G'.mu b1 o, hi.base, fun b1 o v k => ?_, fun b1 o v k => ?_, fun b1 o v k => ?_, rfl, fun j x hj => ?_⟩
  · have := results_run (P := P) (w := w') (fn := fn) (tmps := a'.tmps) (us := [.func (.func it) #[] #[.pointer (some ⟨b, 0, none⟩)]]) (by
      rw [hres]
      simp [resOne, hv])
    exact this
  · have k' := hi.mu0 b1 o v k
    show (if b1 = b ∧ o < cs.length then w'.cell? ⟨b, o, none⟩ else G'.mu b1 o) = some v
    split
    · rename_i hh; obtain ⟨rfl, _⟩ := hh; rw [hmun] at k'; cases k'
    · exact k'
  · have k' : (if b1 = b ∧ o < cs.length then w'.cell? ⟨b, o, none⟩ else G'.mu b1 o) = some v := k
    split at k'
    · rename_i hh; obtain ⟨rfl, _⟩ := hh; exact .inr hbB
    · exact hi.mu1 b1 o v k'
  · have k' : (if b1 = b ∧ o < cs.length then w'.cell? ⟨b, o, none⟩ else G'.mu b1 o) = some v := k
    split at k'
    · rename_i hh; obtain ⟨rfl, _⟩ := hh; exact k'
    · exact hi.hmu b1 o v k'
  · have hjl := (List.getElem?_eq_some_iff.1 hj).1
    obtain ⟨u, hu, hr⟩ := hcell j (.v x) (by rw [List.getElem?_map, hj]; rfl)
    cases hr with
    | v hr =>
      refine ⟨u, ?_, hr.mono fun b1 o v k => ?_⟩
      · show (if b = b ∧ 0 + j < cs.length then w'.cell? ⟨b, 0 + j, none⟩ else G'.mu b (0 + j)) = some u
        rw [if_pos ⟨rfl, by omega⟩, Nat.zero_add]; exact hu
      · show (if b1 = b ∧ o < cs.length then w'.cell? ⟨b, o, none⟩ else G'.mu b1 o) = some v
        split
        · rename_i hh; obtain ⟨rfl, _⟩ := hh; rw [hmun] at k; cases k
        · exact k
end
end Go.Dv

namespace Go.Dv
open Go

/-- The places of a word's bits. -/
def wbits (w : Nat) : List Nat := (List.range 64).filter fun j => w.testBit j

/-- The elements of words that lie one behind the other. -/
def allBits : List Nat → Nat → List Nat
  | [], _ => []
  | w :: r, i => (wbits w).map (64 * i + ·) ++ allBits r (i + 1)

theorem range_cut {c n : Nat} (h : c < n) : List.range n = List.range c ++ c :: (List.range' (c + 1) (n - c - 1)) := by
  rw [List.range_eq_range', List.range_eq_range']
  have e1 : n = c + (n - c) := by omega
  rw [show List.range' 0 n = List.range' 0 c ++ List.range' c (n - c) by
    have := @List.range'_append 0 c (n - c) 1
    rw [Nat.one_mul, Nat.zero_add, ← e1] at this
    exact this.symm]
  congr 1
  have : n - c = (n - c - 1) + 1 := by omega
  rw [this, List.range'_succ]; simp

theorem filter_cut {p q : Nat → Bool} {c n : Nat} (h : c < n) (h1 : ∀ j, j < c → p j = false) (h2 : p c = true) (h3 : ∀ j, q j = (p j && decide (j ≠ c))) :
    (List.range n).filter p = c :: (List.range n).filter q := by
  rw [range_cut h, List.filter_append, List.filter_append, List.filter_cons, List.filter_cons]
  have e1 : (List.range c).filter p = [] := List.filter_eq_nil_iff.2 fun j hj => by simp [h1 j (List.mem_range.1 hj)]
  have e2 : (List.range c).filter q = [] := List.filter_eq_nil_iff.2 fun j hj => by simp [h3, h1 j (List.mem_range.1 hj)]
  rw [e1, e2, if_pos h2, if_neg (by simp [h3])]
  simp only [List.nil_append]
  congr 1
  refine List.filter_congr fun j hj => ?_
  have : j ≠ c := by
    have := List.mem_range'.1 hj
    obtain ⟨i, _, rfl⟩ := this
    omega
  simp [h3, this]

theorem wbits_zero : wbits 0 = [] := List.filter_eq_nil_iff.2 fun j _ => by simp

theorem low_bit {c m : Nat} : 2 ^ c * (2 * m + 1) &&& (2 ^ c * (2 * m + 1) - 1) = 2 ^ c * (2 * m) := by
  have hp : 0 < 2 ^ c := Nat.two_pow_pos c
  have e1 : 2 ^ c * (2 * m + 1) - 1 = 2 ^ c * (2 * m) + (2 ^ c - 1) := by
    rw [Nat.mul_add]; omega
  have e2 : 2 ^ c * (2 * m + 1) = 2 ^ c * (2 * m + 1) + 0 := rfl
  rw [e1]
  apply Nat.eq_of_testBit_eq
  intro j
  rw [Nat.testBit_and, Nat.testBit_two_pow_mul_add _ (by omega), Nat.testBit_two_pow_mul, Nat.testBit_two_pow_mul]
  by_cases h : j < c
  · simp [show ¬ c ≤ j by omega]
  · have h' : c ≤ j := by omega
    simp only [h, if_false, h', decide_true, Bool.true_and]
    by_cases e : j = c
    · subst e; simp
    · obtain ⟨i, hi⟩ : ∃ i, j - c = i + 1 := ⟨j - c - 1, by omega⟩
      rw [hi]
      have a1 : (2 * m + 1).testBit (i + 1) = m.testBit i := by rw [Nat.testBit_succ]; congr 1; omega
      have a2 : (2 * m).testBit (i + 1) = m.testBit i := by rw [Nat.testBit_succ]; congr 1; omega
      rw [a1, a2, Bool.and_self]

theorem wbits_step {w : Nat} (h0 : w ≠ 0) (h : w < 18446744073709551616) : wbits w = Lib.ctz 64 w :: wbits (w &&& (w - 1)) ∧ Lib.ctz 64 w < 64 ∧ (w &&& (w - 1)) < w := by
  have hc : Lib.ctz 64 w = Lib.ctzFrom 64 w := by unfold Lib.ctz; rw [if_neg h0]
  obtain ⟨m, hm, hlt⟩ := Lib.ctzFrom_spec 64 w (by omega) h
  rw [hc]
  generalize Lib.ctzFrom 64 w = c at hm hlt
  subst hm
  rw [low_bit]
  have hp : 0 < 2 ^ c := Nat.two_pow_pos c
  refine ⟨filter_cut hlt (fun j hj => ?_) ?_ (fun j => ?_), hlt, Nat.mul_lt_mul_of_pos_left (by omega) hp⟩
  · rw [Nat.testBit_two_pow_mul]; simp; omega
  · rw [Nat.testBit_two_pow_mul]; simp
  · rw [Nat.testBit_two_pow_mul, Nat.testBit_two_pow_mul]
    by_cases hj : j < c
    · simp [show ¬ c ≤ j by omega]
    · have h' : c ≤ j := by omega
      simp only [h', decide_true, Bool.true_and]
      by_cases e : j = c
      · subst e; simp
      · obtain ⟨i, hi⟩ : ∃ i, j - c = i + 1 := ⟨j - c - 1, by omega⟩
        rw [hi]
        have a1 : (2 * m + 1).testBit (i + 1) = m.testBit i := by rw [Nat.testBit_succ]; congr 1; omega
        have a2 : (2 * m).testBit (i + 1) = m.testBit i := by rw [Nat.testBit_succ]; congr 1; omega
        rw [a1, a2]; simp [e]

end Go.Dv

namespace Go.Dv
open Go

def u8V (n : Nat) : Value := .int .u8 (n : Int)

/-- Words out of cells. -/
def wordsOf : List V → Option (List Nat)
  | [] => some []
  | .lit (.int .u64 n) :: r => if 0 ≤ n ∧ n < 18446744073709551616 then (match wordsOf r with | some l => some (n.toNat :: l) | .none => .none) else .none
  | _ => .none

def itvOf (g0 : FuncId) : Itv := fun g caps =>
  if g = g0 then match caps with
    | [.ro cs] => match wordsOf cs with
      | some ws => if ws.length = 4 then some ((allBits ws 0).map u8V) else .none
      | .none => .none
    | _ => .none
  else .none

theorem wordsOf_spec : ∀ {cs : List V} {ws : List Nat}, wordsOf cs = some ws → ws.length = cs.length ∧ (∀ w ∈ ws, w < 18446744073709551616) ∧ ∀ (j w : Nat), ws[j]? = some w → cs[j]? = some (.lit (.int .u64 (w : Int)))
  | [], ws, h => by
    simp only [wordsOf, Option.some.injEq] at h; subst h
    exact ⟨rfl, fun w h => by simp at h, fun j w h => by simp at h⟩
  | c :: r, ws, h => by
    unfold wordsOf at h
    split at h
    · rename_i e; cases e
    · rename_i n r' e
      cases e
      split at h
      · rename_i hn
        split at h
        · rename_i l hl
          cases h
          obtain ⟨h1, h2, h3⟩ := wordsOf_spec hl
          refine ⟨by simp [h1], fun w hw => ?_, fun j w hj => ?_⟩
          · rcases List.mem_cons.1 hw with rfl | hw
            · omega
            · exact h2 w hw
          · cases j with
            | zero => simp at hj; subst hj; simp; omega
            | succ j => simp at hj ⊢; exact h3 j w hj
        · cases h
      · cases h
    · cases h

/-- The memory that holds a table of bytes at a place. -/
def tabMem (g : Nat) (tab : List Nat) : Mem := fun b o => if b = g then (tab[o]?).map u8V else .none

end Go.Dv

namespace Go.Dv
open Go

def CodeEvR (L : Lite) (itv : Itv) (ext : Ext) (c : Code) (ρ : St) (e : Ex) (ρ' : St) : Prop := ∃ K, ∀ k, K ≤ k → evalCodeR L itv (evalF L ext k) (k + 1) c ρ = some (e, ρ')
def wpR (L : Lite) (itv : Itv) (ext : Ext) (c : Code) (ρ : St) (Q : Ex → St → Prop) : Prop := ∃ e ρ', CodeEvR L itv ext c ρ e ρ' ∧ Q e ρ'

/-- Code without parts. -/
def leafC : Code → Bool
  | .seq _ _ => false
  | .block _ _ => false
  | .cond _ _ _ => false
  | .scope _ => false
  | .rangeFunc _ _ _ _ => false
  | _ => true

section
variable {L : Lite} {itv : Itv} {ext : Ext} {ρ : St} {QC : Ex → St → Prop}

theorem wR_leaf {c : Code} (hl : leafC c = true) (h : wpC L ext c ρ QC) : wpR L itv ext c ρ QC := by
  obtain ⟨e, ρ', ⟨K, h⟩, hq⟩ := h
  refine ⟨e, ρ', ⟨K, fun k hk => ?_⟩, hq⟩
  rw [← h k hk]
  cases c <;> first | rfl | (simp [leafC] at hl)

theorem wR_seq {a b : Code} (h : wpR L itv ext a ρ (fun e ρ' => match e with | .normal => wpR L itv ext b ρ' QC | e => QC e ρ')) : wpR L itv ext (.seq a b) ρ QC := by
  obtain ⟨e, ρ', ⟨K, h⟩, hq⟩ := h
  cases e with
  | normal =>
    obtain ⟨e2, ρ2, ⟨K', h'⟩, hq⟩ := hq
    refine ⟨e2, ρ2, ⟨max K K', fun k hk => ?_⟩, hq⟩
    simp only [evalCodeR]; rw [h k (by omega)]; exact h' k (by omega)
  | exit i => exact ⟨_, ρ', ⟨K, fun k hk => by simp only [evalCodeR]; rw [h k hk]⟩, hq⟩
  | ret => exact ⟨_, ρ', ⟨K, fun k hk => by simp only [evalCodeR]; rw [h k hk]⟩, hq⟩
  | pan v => exact ⟨_, ρ', ⟨K, fun k hk => by simp only [evalCodeR]; rw [h k hk]⟩, hq⟩

theorem wR_cond {c : Operand} {a b : Code} {p : Bool} (hc : ρ.opd c = .v (.lit (.bool p))) (ht : p = true → wpR L itv ext a ρ QC) (hf : p = false → wpR L itv ext b ρ QC) : wpR L itv ext (.cond c a b) ρ QC := by
  cases p with
  | true =>
    obtain ⟨e, ρ', ⟨K, h⟩, hq⟩ := ht rfl
    exact ⟨e, ρ', ⟨K, fun k hk => by simp only [evalCodeR, hc, if_true]; exact h k hk⟩, hq⟩
  | false =>
    obtain ⟨e, ρ', ⟨K, h⟩, hq⟩ := hf rfl
    exact ⟨e, ρ', ⟨K, fun k hk => by simp only [evalCodeR, hc, Bool.false_eq_true, if_false]; exact h k hk⟩, hq⟩

theorem wR_block {id : Nat} {c : Code} (h : wpR L itv ext c ρ (fun e ρ' => match e with | .exit i => if i = id then QC .normal ρ' else QC (.exit i) ρ' | e => QC e ρ')) : wpR L itv ext (.block id c) ρ QC := by
  obtain ⟨e, ρ', ⟨K, h⟩, hq⟩ := h
  cases e with
  | exit i =>
    by_cases hi : i = id
    · simp only [hi, if_true] at hq
      exact ⟨_, ρ', ⟨K, fun k hk => by simp only [evalCodeR]; rw [h k hk]; simp only [hi, if_true]⟩, hq⟩
    · simp only [hi, if_false] at hq
      exact ⟨_, ρ', ⟨K, fun k hk => by simp only [evalCodeR]; rw [h k hk]; simp only [hi, if_false]⟩, hq⟩
  | normal => exact ⟨_, ρ', ⟨K, fun k hk => by simp only [evalCodeR]; rw [h k hk]⟩, hq⟩
  | ret => exact ⟨_, ρ', ⟨K, fun k hk => by simp only [evalCodeR]; rw [h k hk]⟩, hq⟩
  | pan v => exact ⟨_, ρ', ⟨K, fun k hk => by simp only [evalCodeR]; rw [h k hk]⟩, hq⟩

theorem wR_scope {c : Code} (h : wpR L itv ext c ρ QC) : wpR L itv ext (.scope c) ρ QC := h

theorem wpR_mono {c : Code} {Q' : Ex → St → Prop} (h : wpR L itv ext c ρ QC) (hm : ∀ e ρ', QC e ρ' → Q' e ρ') : wpR L itv ext c ρ Q' :=
  let ⟨e, ρ', h1, h2⟩ := h; ⟨e, ρ', h1, hm _ _ h2⟩

/-- A loop over a function's values: what holds ahead of each round, of what has come and of the objects. -/
theorem wR_range {n0 : Nat} {sl : Nat → X} {ob : Nat → Ob} {f : Operand} {p : Tmp} {assign body : Code} {g : FuncId} {caps : List X} {xs : List Value} (hf : (St.opd ⟨n0, sl, ob⟩) f = .clo g caps) (hx : itv g caps = some xs) (hs : xs.all scal = true) (hp : Nat.ble (p + 1) n0 = true)
    (I : List Value → (Nat → Ob) → Prop) (h0 : I [] ob)
    (hb : ∀ pre x post ob1, pre ++ x :: post = xs → I pre ob1 → wpC L ext assign ⟨n0, upd sl p (.v (.lit x)), ob1⟩ (fun e ρ1 => match e with
      | .normal => wpC L ext body ρ1 (fun e ρ2 => match e with | .normal => I (pre ++ [x]) ρ2.ob | .pan _ => False | e => QC e ⟨n0, sl, ρ2.ob⟩)
      | _ => False))
    (he : ∀ ob1, I xs ob1 → QC .normal ⟨n0, sl, ob1⟩) : wpR L itv ext (.rangeFunc f #[p] assign body) ⟨n0, sl, ob⟩ QC := by
  have hlt : p < n0 := Nat.le_of_ble_eq_true hp
  have key : ∀ (post pre : List Value) (ob1 : Nat → Ob), pre ++ post = xs → I pre ob1 → ∃ e ρ', (∃ K, ∀ k, K ≤ k → rounds L (evalF L ext k) (k + 1) p assign body post ⟨n0, sl, ob1⟩ = some (e, ρ')) ∧ QC e ρ' := by
    intro post
    induction post with
    | nil =>
      intro pre ob1 h hi
      rw [List.append_nil] at h
      subst h
      exact ⟨_, _, ⟨0, fun k _ => rfl⟩, he ob1 hi⟩
    | cons x post ih =>
      intro pre ob1 h hi
      obtain ⟨e1, ρ1, ⟨K1, h1⟩, q1⟩ := hb pre x post ob1 h hi
      cases e1 with
      | exit i => exact q1.elim
      | ret => exact q1.elim
      | pan v => exact q1.elim
      | normal =>
        obtain ⟨e2, ρ2, ⟨K2, h2⟩, q2⟩ := q1
        have hput : (({ n := n0, sl := sl, ob := ob1 } : St).put (some p) (.v (.lit x))) = ⟨n0, upd sl p (.v (.lit x)), ob1⟩ := by simp [St.put, hlt]
        cases e2 with
        | pan v => exact q2.elim
        | normal =>
          obtain ⟨e3, ρ3, ⟨K3, h3⟩, q3⟩ := ih (pre ++ [x]) ρ2.ob (by rw [List.append_assoc]; exact h) q2
          refine ⟨e3, ρ3, ⟨max K1 (max K2 K3), fun k hk => ?_⟩, q3⟩
          unfold rounds
          rw [hput, h1 k (by omega)]
          simp only
          rw [h2 k (by omega)]
          exact h3 k (by omega)
        | exit i =>
          refine ⟨_, _, ⟨max K1 K2, fun k hk => ?_⟩, q2⟩
          unfold rounds
          rw [hput, h1 k (by omega)]
          simp only
          rw [h2 k (by omega)]
        | ret =>
          refine ⟨_, _, ⟨max K1 K2, fun k hk => ?_⟩, q2⟩
          unfold rounds
          rw [hput, h1 k (by omega)]
          simp only
          rw [h2 k (by omega)]
  obtain ⟨e, ρ', ⟨K, h⟩, q⟩ := key xs [] ob rfl h0
  refine ⟨e, ρ', ⟨K, fun k hk => ?_⟩, q⟩
  rw [← h k hk]
  simp only [evalCodeR, hf, hx, hs, if_true]

/-- What is left where such a function ends. -/
def endR (L : Lite) (fn : Func) (nc : Nat) (r : Res × List (List V)) : Ex → St → Prop
  | .pan _, _ => False
  | .exit _, _ => False
  | .normal, ρ => endF L fn nc r .normal ρ
  | .ret, ρ => endF L fn nc r .ret ρ

theorem fn_goR {f : FuncId} {fn : Func} {c : Code} {as : List X} {cs : List (List V)} {r : Res × List (List V)} (n0 : Nat) (he : ext f = some (runRange L itv fn)) (hb : fn.body = some c) (h0 : fn.ntmps = n0) (ha : Nat.ble as.length n0 = true)
    (h : wpR L itv ext c ⟨n0, fun i => as.getD i .undef, ioOb n0 cs⟩ (endR L fn cs.length r)) : FnEv L ext f as cs r := by
  subst h0
  obtain ⟨e, ρ', ⟨K, h⟩, hq⟩ := h
  have hle : as.length ≤ fn.ntmps := Nat.le_of_ble_eq_true ha
  refine fn_ext he ⟨K, fun k hk => ?_⟩
  obtain ⟨r1, r2⟩ := r
  have hk' := h k hk
  simp only [runRange, hb, if_pos hle]
  rw [show enterSt fn as cs = ⟨fn.ntmps, fun i => as.getD i .undef, ioOb fn.ntmps cs⟩ from rfl, hk']
  cases e with
  | exit i => exact hq.elim
  | pan v => exact hq.elim
  | normal => obtain ⟨vs, H, a, b, h1, h2, h3⟩ := hq; simp only [h2, h3]; cases h1; rfl
  | ret => obtain ⟨vs, H, a, b, h1, h2, h3⟩ := hq; simp only [h2, h3]; cases h1; rfl
end
end Go.Dv

namespace Go.Dv
open Go

def zi (k : IntKind) : X := .v (.lit (.int k ((0 : Nat) : Int)))
/-- A set as its four words. -/
def word (n : Nat) : V := .lit (.int .u64 (n : Int))
def setV (W : List Nat) : V := .agg (W.map word)
def isW (W : List Nat) : Prop := W.length = 4 ∧ ∀ i, W.getD i 0 < 2 ^ 64
/-- Is a byte in a set? -/
def has (W : List Nat) (b : Nat) : Bool := decide (W.getD (b / 64) 0 / 2 ^ (b % 64) &&& 1 = 1)
theorem cell_get {W : List Nat} (hW : isW W) {i : Nat} (hi : i < 4) : ((W.map word).map X.v)[0 + i * 1]? = some (.v (word (W.getD i 0))) := by
  have := hW.1
  rw [Nat.zero_add, Nat.mul_one, List.getElem?_map, List.getElem?_map, List.getElem?_eq_getElem (by omega)]
  simp [List.getD_eq_getElem?_getD, List.getElem?_eq_getElem (show i < W.length by omega)]
theorem cap64 {n : Nat} (h : n < 2 ^ 64) : n ≤ capN .u64 := by simp only [capN]; omega
def cells (W : List Nat) : List X := (W.map word).map X.v
theorem cells_get {W : List Nat} (hW : isW W) {i : Nat} (hi : i < 4) : (cells W)[0 + i * 1]? = some (.v (word (W.getD i 0))) := cell_get hW hi
theorem cells_len {W : List Nat} (hW : isW W) : (cells W).length = 4 := by simp [cells, hW.1]
theorem cells_set {W : List Nat} (i x : Nat) : (cells W).set (0 + i * 1) (.v (word x)) = cells (W.set i x) := by
  rw [Nat.zero_add, Nat.mul_one]; simp [cells, List.map_set]
theorem cells_vs : ∀ (W : List Nat), xvs (cells W) = some (W.map word)
  | [] => rfl
  | w :: W => by
    have := cells_vs W
    simp only [cells, List.map_cons, xvs, xv] at this ⊢
    rw [this]
theorem cells_load {W : List Nat} (hW : isW W) : xvs (((cells W).drop 0).take 4) = some (W.map word) := by
  rw [List.drop_zero, List.take_of_length_le (by rw [cells_len hW]; omega)]; exact cells_vs W
theorem getD_set {W : List Nat} (hW : isW W) {i x : Nat} (hi : i < 4) (j : Nat) : (W.set i x).getD j 0 = if j = i then x else W.getD j 0 := by
  have := hW.1
  simp only [List.getD_eq_getElem?_getD, List.getElem?_set]
  by_cases h : i = j
  · subst h; simp [this, hi]
  · rw [if_neg h, if_neg fun e : j = i => h e.symm]
theorem isW_set {W : List Nat} (hW : isW W) {i x : Nat} (hi : i < 4) (hx : x < 2 ^ 64) : isW (W.set i x) := by
  refine ⟨by rw [List.length_set]; exact hW.1, fun j => ?_⟩
  rw [getD_set hW hi]; split
  · exact hx
  · exact hW.2 j
theorem store_all {W V : List Nat} (hW : isW W) (hV : isW V) : setRange (cells V) 0 ((W.map word).map X.v) = cells W := by
  obtain ⟨h1, _⟩ := hW
  obtain ⟨h2, _⟩ := hV
  match W, V, h1, h2 with
  | [a, b, c, d], [e, f, g, h], _, _ => rfl
def zeroW : List Nat := [0, 0, 0, 0]
theorem isW_zero : isW zeroW := by
  refine ⟨rfl, fun j => ?_⟩
  have : zeroW.getD j 0 = 0 := by
    match j with
    | 0 => rfl
    | 1 => rfl
    | 2 => rfl
    | 3 => rfl
    | j + 4 => rfl
  omega
theorem le_cap {n : Nat} (h : n < 256) : n ≤ capN .u8 := by simp only [capN]; omega
def mapW (f : Nat → Nat) : List Nat := [f 0, f 1, f 2, f 3]
theorem mapW_get (f : Nat → Nat) {j : Nat} (h : j < 4) : (mapW f).getD j 0 = f j := by
  match j, h with
  | 0, _ => rfl
  | 1, _ => rfl
  | 2, _ => rfl
  | 3, _ => rfl
theorem mapW_congr {f g : Nat → Nat} (h : ∀ j, j < 4 → f j = g j) : mapW f = mapW g := by
  unfold mapW; rw [h 0 (by omega), h 1 (by omega), h 2 (by omega), h 3 (by omega)]
theorem mapW_set (f : Nat → Nat) {i x : Nat} (h : i < 4) : (mapW f).set i x = mapW fun j => if j = i then x else f j := by
  match i, h with
  | 0, _ => rfl
  | 1, _ => rfl
  | 2, _ => rfl
  | 3, _ => rfl
theorem mapW_isW {f : Nat → Nat} (h : ∀ j, j < 4 → f j < 2 ^ 64) : isW (mapW f) := by
  refine ⟨rfl, fun j => ?_⟩
  by_cases hj : j < 4
  · rw [mapW_get f hj]; exact h j hj
  · have : (mapW f).getD j 0 = 0 := by
      rw [List.getD_eq_getElem?_getD, List.getElem?_eq_none (by simp [mapW]; omega)]; rfl
    omega
theorem mapW_eta {W : List Nat} (h : isW W) : W = mapW fun j => W.getD j 0 := by
  obtain ⟨h1, _⟩ := h
  match W, h1 with
  | [a, b, c, d], _ => rfl
def orW (A B : List Nat) (i : Nat) : List Nat := mapW fun j => if j < i then A.getD j 0 ||| B.getD j 0 else A.getD j 0
theorem orW_isW {A B : List Nat} (hA : isW A) (hB : isW B) (i : Nat) : isW (orW A B i) := mapW_isW fun j hj => by
  split
  · exact Nat.or_lt_two_pow (hA.2 j) (hB.2 j)
  · exact hA.2 j
def withW (W : List Nat) (b : Nat) : List Nat := W.set (b / 64) (W.getD (b / 64) 0 ||| 2 ^ (b % 64))
theorem pow_lt {n : Nat} (h : n < 64) : 2 ^ n < 2 ^ 64 := Nat.pow_lt_pow_right (by omega) h
theorem withW_isW {W : List Nat} (hW : isW W) {b : Nat} (hb : b < 256) : isW (withW W b) :=
  isW_set hW (by omega) (Nat.or_lt_two_pow (hW.2 _) (pow_lt (by omega)))
/-- The bytes below n of which p holds. -/
def fillW (p : Nat → Bool) : Nat → List Nat
  | 0 => zeroW
  | n + 1 => if p n then withW (fillW p n) n else fillW p n
theorem fillW_isW (p : Nat → Bool) : ∀ n, n ≤ 256 → isW (fillW p n)
  | 0, _ => isW_zero
  | n + 1, h => by
    unfold fillW
    split
    · exact withW_isW (fillW_isW p n (by omega)) (by omega)
    · exact fillW_isW p n (by omega)
theorem fill_t {p : Nat → Bool} {n : Nat} (h : p n = true) : fillW p (n + 1) = withW (fillW p n) n := by show (if p n = true then _ else _) = _; rw [if_pos h]
theorem fill_f {p : Nat → Bool} {n : Nat} (h : p n = false) : fillW p (n + 1) = fillW p n := by show (if p n = true then _ else _) = _; rw [if_neg (by rw [h]; exact fun e => by cases e)]
def andW (A B : List Nat) (i : Nat) : List Nat := mapW fun j => if j < i then A.getD j 0 &&& B.getD j 0 else A.getD j 0
theorem andW_isW {A B : List Nat} (hA : isW A) (hB : isW B) (i : Nat) : isW (andW A B i) := mapW_isW fun j hj => by
  split
  · exact Nat.lt_of_le_of_lt Nat.and_le_left (hA.2 j)
  · exact hA.2 j
def notW (A : List Nat) (i : Nat) : List Nat := mapW fun j => if j < i then 2 ^ 64 - 1 - A.getD j 0 else A.getD j 0
theorem notW_isW {A : List Nat} (hA : isW A) (i : Nat) : isW (notW A i) := mapW_isW fun j hj => by
  split
  · omega
  · exact hA.2 j
def s1 (x : Nat) : Nat := (x / 2 ^ 1 &&& 6148914691236517205) + (x &&& 6148914691236517205)
def s2 (x : Nat) : Nat := (x / 2 ^ 2 &&& 3689348814741910323) + (x &&& 3689348814741910323)
def s3 (x : Nat) : Nat := (x / 2 ^ 4 + x) &&& 1085102592571150095
def s4 (x : Nat) : Nat := x + x / 2 ^ 8
def s5 (x : Nat) : Nat := x + x / 2 ^ 16
def s6 (x : Nat) : Nat := x + x / 2 ^ 32
def swar (x : Nat) : Nat := s6 (s5 (s4 (s3 (s2 (s1 x))))) &&& 127
theorem s1_le (x : Nat) : s1 x ≤ 12297829382473034410 := by
  have h1 := @Nat.and_le_right (x / 2 ^ 1) 6148914691236517205
  have h2 := @Nat.and_le_right x 6148914691236517205
  unfold s1; omega
theorem s2_le (x : Nat) : s2 x ≤ 7378697629483820646 := by
  have h1 := @Nat.and_le_right (x / 2 ^ 2) 3689348814741910323
  have h2 := @Nat.and_le_right x 3689348814741910323
  unfold s2; omega
theorem s3_le (x : Nat) : s3 x ≤ 1085102592571150095 := Nat.and_le_right
theorem s4_le {x : Nat} (h : x ≤ 1085102592571150095) : s4 x ≤ 1089341274573381151 := by unfold s4; omega
theorem s5_le {x : Nat} (h : x ≤ 1089341274573381151) : s5 x ≤ 1089357896855742840 := by unfold s5; omega
theorem s6_le {x : Nat} (h : x ≤ 1089357896855742840) : s6 x ≤ 1089357897109379135 := by unfold s6; omega
theorem word_get {W : List Nat} (hW : isW W) {i : Nat} (hi : i < 4) : (W.map word)[i * 1]? = some (word (W.getD i 0)) := by
  have := hW.1
  rw [Nat.mul_one, List.getElem?_map, List.getElem?_eq_getElem (by omega)]
  simp [List.getD_eq_getElem?_getD, List.getElem?_eq_getElem (show i < W.length by omega)]
def lenW (A : List Nat) : Nat → Nat
  | 0 => 0
  | i + 1 => lenW A i + swar (A.getD i 0)
theorem swar_le (x : Nat) : swar x ≤ 127 := Nat.and_le_right
theorem lenW_le (A : List Nat) : ∀ i, lenW A i ≤ 127 * i
  | 0 => Nat.le_refl _
  | i + 1 => by have := lenW_le A i; have := swar_le (A.getD i 0); simp only [lenW]; omega
/-- The elements below n, in order. -/
def listW (A : List Nat) (n : Nat) : List Nat := (List.range n).filter (has A)
def rowB (l : List Nat) : List (List V) := l.map fun b => [byteV b]
theorem listW_le (A : List Nat) (n : Nat) : (listW A n).length ≤ n := by
  have := List.length_filter_le (has A) (List.range n)
  rw [List.length_range] at this
  exact this
theorem listW_t {A : List Nat} {n : Nat} (h : has A n = true) : listW A (n + 1) = listW A n ++ [n] := by
  simp [listW, List.range_succ, List.filter_append, h]
theorem listW_f {A : List Nat} {n : Nat} (h : has A n = false) : listW A (n + 1) = listW A n := by
  simp [listW, List.range_succ, List.filter_append, h]
/-- A row of bytes that grows: nil, or owned. -/
def rowSt (ρ : St) (t s : Nat) (l : List Nat) : Prop :=
  (l = [] ∧ ρ.sl t = .nil 1) ∨ (l ≠ [] ∧ ∃ g, ρ.sl t = .own s g 0 l.length ∧ ρ.ob s = .row g true 1 (rowB l))
theorem rowB_get {A : List Nat} {n : Nat} : rowB (listW A n ++ [n]) = rowB (listW A n) ++ [[byteV n]] := by simp [rowB]
theorem fill_const {p : Nat → Bool} {a : Nat} : ∀ {n : Nat}, a ≤ n → (∀ b, a ≤ b → b < n → p b = false) → fillW p n = fillW p a
  | 0, h, _ => by have : a = 0 := by omega
                  subst this; rfl
  | n + 1, h, hp => by
    by_cases e : a = n + 1
    · subst e; rfl
    · rw [fill_f (hp n (by omega) (by omega))]
      exact fill_const (by omega) fun b h1 h2 => hp b h1 (by omega)
def inR (lo hi b : Nat) : Bool := decide (lo ≤ b) && decide (b ≤ hi)
theorem range_0 (lo hi : Nat) : fillW (inR lo hi) lo = zeroW := fill_const (a := 0) (Nat.zero_le _) fun b _ h => by
  have : ¬ lo ≤ b := by omega
  simp [inR, this]
theorem range_end {lo hi i : Nat} (h : ¬ i ≤ hi) (hi' : i ≤ 256) (hl : lo ≤ i) : fillW (inR lo hi) i = fillW (inR lo hi) 256 := (fill_const hi' fun b h1 h2 => by
  have : ¬ b ≤ hi := by omega
  simp [inR, this]).symm
theorem range_t {lo hi i : Nat} (h : i ≤ hi) (hl : lo ≤ i) : fillW (inR lo hi) (i + 1) = withW (fillW (inR lo hi) i) i := fill_t (by simp [inR, h, hl])
def ofW (s : ByteArray) : Nat → List Nat
  | 0 => zeroW
  | i + 1 => withW (ofW s i) (byteAt s i).toNat
theorem ofW_isW (s : ByteArray) : ∀ i, isW (ofW s i)
  | 0 => isW_zero
  | i + 1 => withW_isW (ofW_isW s i) (byteAt_lt s i)
theorem has_bit (W : List Nat) (b : Nat) : has W b = (W.getD (b / 64) 0).testBit (b % 64) := by
  unfold has Nat.testBit
  rw [Nat.shiftRight_eq_div_pow, Nat.and_comm]
  have h : ∀ n : Nat, 1 &&& n = 0 ∨ 1 &&& n = 1 := fun n => by
    rw [Nat.and_comm, Nat.and_one_is_mod]; omega
  rcases h (W.getD (b / 64) 0 / 2 ^ (b % 64)) with h | h <;> rw [h] <;> rfl
theorem set_ext {V W : List Nat} (hV : isW V) (hW : isW W) (h : ∀ b, b < 256 → has V b = has W b) : V = W := by
  rw [mapW_eta hV, mapW_eta hW]
  refine mapW_congr fun j hj => ?_
  refine Nat.eq_of_testBit_eq fun i => ?_
  by_cases hi : i < 64
  · have := h (64 * j + i) (by omega)
    rw [has_bit, has_bit, show (64 * j + i) / 64 = j by omega, show (64 * j + i) % 64 = i by omega] at this
    exact this
  · rw [Nat.testBit_lt_two_pow (Nat.lt_of_lt_of_le (hV.2 j) (Nat.pow_le_pow_right (by omega) (by omega))), Nat.testBit_lt_two_pow (Nat.lt_of_lt_of_le (hW.2 j) (Nat.pow_le_pow_right (by omega) (by omega)))]
theorem has_with {W : List Nat} (hW : isW W) {c b : Nat} (hc : c < 256) (hb : b < 256) : has (withW W c) b = (decide (b = c) || has W b) := by
  rw [has_bit, has_bit]
  unfold withW
  rw [getD_set hW (by omega)]
  by_cases h : b / 64 = c / 64
  · rw [if_pos h, Nat.testBit_or, Nat.testBit_two_pow, h, Bool.or_comm]
    congr 1
    rw [decide_eq_decide]; omega
  · rw [if_neg h]
    have : ¬ b = c := fun e => h (by rw [e])
    simp [this]
theorem has_zero (b : Nat) (hb : b < 256) : has zeroW b = false := by
  rw [has_bit]
  have : zeroW.getD (b / 64) 0 = 0 := by
    have h : b / 64 < 4 := by omega
    generalize b / 64 = j at h
    match j, h with
    | 0, _ => rfl
    | 1, _ => rfl
    | 2, _ => rfl
    | 3, _ => rfl
  rw [this, Nat.zero_testBit]
theorem has_fill (p : Nat → Bool) : ∀ (n : Nat), n ≤ 256 → ∀ b, b < 256 → has (fillW p n) b = (decide (b < n) && p b)
  | 0, _, b, hb => by rw [show fillW p 0 = zeroW from rfl, has_zero b hb]; simp
  | n + 1, hn, b, hb => by
    have ih := has_fill p n (by omega) b hb
    cases hp : p n with
    | true =>
      rw [fill_t hp, has_with (fillW_isW p n (by omega)) (by omega) hb, ih]
      by_cases h : b = n
      · subst h; simp [hp]
      · have : (b < n) ↔ (b < n + 1) := by omega
        simp [h, this]
    | false =>
      rw [fill_f hp, ih]
      by_cases h : b = n
      · subst h; simp [hp]
      · have : (b < n) ↔ (b < n + 1) := by omega
        simp [this]
theorem has_map {f : Nat → Nat} {b : Nat} (hb : b < 256) : has (mapW f) b = (f (b / 64)).testBit (b % 64) := by
  rw [has_bit, mapW_get f (by omega)]
theorem has_or {A B : List Nat} {b : Nat} (hb : b < 256) : has (orW A B 4) b = (has A b || has B b) := by
  unfold orW
  rw [has_map hb, if_pos (by omega), Nat.testBit_or, has_bit, has_bit]
theorem has_and {A B : List Nat} {b : Nat} (hb : b < 256) : has (andW A B 4) b = (has A b && has B b) := by
  unfold andW
  rw [has_map hb, if_pos (by omega), Nat.testBit_and, has_bit, has_bit]
theorem has_not {A : List Nat} (hA : isW A) {b : Nat} (hb : b < 256) : has (notW A 4) b = !has A b := by
  unfold notW
  rw [has_map hb, if_pos (by omega), has_bit, Nat.sub_sub, Nat.add_comm, ← Nat.sub_sub]
  have := Nat.testBit_two_pow_sub_succ (hA.2 (b / 64)) (b % 64)
  rw [show 2 ^ 64 - A.getD (b / 64) 0 - 1 = 2 ^ 64 - (A.getD (b / 64) 0 + 1) by omega, this]
  simp; omega
theorem union_law {A B : List Nat} (hA : isW A) (hB : isW B) : orW A B 4 = fillW (fun b => has A b || has B b) 256 :=
  set_ext (orW_isW hA hB 4) (fillW_isW _ 256 (Nat.le_refl _)) fun b hb => by rw [has_or hb, has_fill _ 256 (Nat.le_refl _) b hb]; simp [hb]
theorem inter_law {A B : List Nat} (hA : isW A) (hB : isW B) : andW A B 4 = fillW (fun b => has A b && has B b) 256 :=
  set_ext (andW_isW hA hB 4) (fillW_isW _ 256 (Nat.le_refl _)) fun b hb => by rw [has_and hb, has_fill _ 256 (Nat.le_refl _) b hb]; simp [hb]
theorem compl_law {A : List Nat} (hA : isW A) : notW A 4 = fillW (fun b => !has A b) 256 :=
  set_ext (notW_isW hA 4) (fillW_isW _ 256 (Nat.le_refl _)) fun b hb => by rw [has_not hA hb, has_fill _ 256 (Nat.le_refl _) b hb]; simp [hb]
def b3 (l : Nat) : Nat :=
  let x := (l / 2 &&& 85) + (l &&& 85)
  let y := (x / 4 &&& 51) + (x &&& 51)
  (y / 16 + y) &&& 15
def cnt8 (l : Nat) : Nat := l % 2 + l / 2 % 2 + l / 4 % 2 + l / 8 % 2 + l / 16 % 2 + l / 32 % 2 + l / 64 % 2 + l / 128 % 2
theorem b3_cnt : ∀ l : Fin 256, b3 l.1 = cnt8 l.1 := by decide +kernel
theorem and_split (a b k : Nat) : a &&& b = (a / 2 ^ k &&& b / 2 ^ k) * 2 ^ k + (a % 2 ^ k &&& b % 2 ^ k) := by
  rw [← Nat.and_div_two_pow, ← Nat.and_mod_two_pow]
  have := Nat.div_add_mod (a &&& b) (2 ^ k)
  rw [Nat.mul_comm] at this
  omega
def rep (c : Nat) : Nat → Nat
  | 0 => 0
  | k + 1 => rep c k * 256 + c
def t1 (k x : Nat) : Nat := (x / 2 &&& rep 85 k) + (x &&& rep 85 k)
def t2 (k x : Nat) : Nat := (x / 4 &&& rep 51 k) + (x &&& rep 51 k)
def t3 (k x : Nat) : Nat := (x / 16 + x) &&& rep 15 k
theorem and_rep (x c k : Nat) (hc : c < 256) : x &&& rep c (k + 1) = (x / 256 &&& rep c k) * 256 + (x % 256 &&& c) := by
  have := and_split x (rep c (k + 1)) 8
  rw [this, show rep c (k + 1) = rep c k * 256 + c from rfl, show (2 : Nat) ^ 8 = 256 from rfl]
  rw [show (rep c k * 256 + c) / 256 = rep c k by omega, show (rep c k * 256 + c) % 256 = c by omega]
theorem m85 : ∀ l : Fin 512, (l.1 / 2 % 256 &&& 85) = (l.1 % 256 / 2 &&& 85) := by decide +kernel
theorem m51 : ∀ l : Fin 1024, (l.1 / 4 % 256 &&& 51) = (l.1 % 256 / 4 &&& 51) := by decide +kernel
theorem t1_succ (k x : Nat) : t1 (k + 1) x = t1 k (x / 256) * 256 + ((x % 256 / 2 &&& 85) + (x % 256 &&& 85)) := by
  unfold t1
  rw [and_rep _ _ _ (by omega), and_rep _ _ _ (by omega)]
  have := m85 ⟨x % 512, by omega⟩
  simp only at this
  rw [show x % 512 / 2 % 256 = x / 2 % 256 by omega, show x % 512 % 256 = x % 256 by omega] at this
  rw [this, show x / 2 / 256 = x / 256 / 2 by omega]
  omega
theorem t2_succ (k x : Nat) : t2 (k + 1) x = t2 k (x / 256) * 256 + ((x % 256 / 4 &&& 51) + (x % 256 &&& 51)) := by
  unfold t2
  rw [and_rep _ _ _ (by omega), and_rep _ _ _ (by omega)]
  have := m51 ⟨x % 1024, by omega⟩
  simp only at this
  rw [show x % 1024 / 4 % 256 = x / 4 % 256 by omega, show x % 1024 % 256 = x % 256 by omega] at this
  rw [this, show x / 4 / 256 = x / 256 / 4 by omega]
  omega
def f1 (l : Nat) : Nat := (l / 2 &&& 85) + (l &&& 85)
def f2 (l : Nat) : Nat := (l / 4 &&& 51) + (l &&& 51)
theorem f1_lt (l : Nat) : f1 l < 256 := by
  have h1 := @Nat.and_le_right (l / 2) 85
  have h2 := @Nat.and_le_right l 85
  unfold f1; omega
theorem f2_lt (l : Nat) : f2 l < 256 := by
  have h1 := @Nat.and_le_right (l / 4) 51
  have h2 := @Nat.and_le_right l 51
  unfold f2; omega
theorem f21 : ∀ l : Fin 256, f2 (f1 l.1) ≤ 68 ∧ f2 (f1 l.1) % 16 ≤ 4 := by decide +kernel
theorem t21_succ (k x : Nat) : t2 (k + 1) (t1 (k + 1) x) = t2 k (t1 k (x / 256)) * 256 + f2 (f1 (x % 256)) := by
  have h := f1_lt (x % 256)
  have e : t1 (k + 1) x = t1 k (x / 256) * 256 + f1 (x % 256) := t1_succ k x
  rw [t2_succ, e, show (t1 k (x / 256) * 256 + f1 (x % 256)) / 256 = t1 k (x / 256) by omega, show (t1 k (x / 256) * 256 + f1 (x % 256)) % 256 = f1 (x % 256) by omega]
  rfl
theorem low4 (k x : Nat) : t2 k (t1 k x) % 16 ≤ 4 := by
  cases k with
  | zero => simp [t2, t1, rep]
  | succ k =>
    have := (f21 ⟨x % 256, by omega⟩).2
    simp only at this
    rw [t21_succ]; omega
theorem t3_succ (k y : Nat) (h1 : y % 256 ≤ 68) (h2 : y / 256 % 16 ≤ 4) : t3 (k + 1) y = t3 k (y / 256) * 256 + (y % 256 / 16 + y % 256 &&& 15) := by
  unfold t3
  rw [and_rep _ _ _ (by omega)]
  have e1 : (y / 16 + y) / 256 = y / 256 / 16 + y / 256 := by omega
  have e2 : (y / 16 + y) % 256 = 16 * (y / 256 % 16) + (y % 256 / 16 + y % 256) := by omega
  have m : ∀ n : Nat, n &&& 15 = n % 16 := fun n => Nat.and_two_pow_sub_one_eq_mod n 4
  rw [e1, e2, m, m]
  omega
def z3 (k x : Nat) : Nat := t3 k (t2 k (t1 k x))
theorem z3_succ (k x : Nat) : z3 (k + 1) x = z3 k (x / 256) * 256 + cnt8 (x % 256) := by
  have h := f2_lt (f1 (x % 256))
  have hf := f21 ⟨x % 256, by omega⟩
  have hl := low4 k (x / 256)
  have hb := b3_cnt ⟨x % 256, by omega⟩
  simp only at hf hb
  unfold z3
  rw [t21_succ, t3_succ _ _ (by omega) (by omega)]
  rw [show (t2 k (t1 k (x / 256)) * 256 + f2 (f1 (x % 256))) / 256 = t2 k (t1 k (x / 256)) by omega, show (t2 k (t1 k (x / 256)) * 256 + f2 (f1 (x % 256))) % 256 = f2 (f1 (x % 256)) by omega, ← hb]
  rfl
/-- How many of the first n bits are set. -/
def cntB (p : Nat → Bool) : Nat → Nat
  | 0 => 0
  | n + 1 => cntB p n + (if p n then 1 else 0)
theorem cntB_add (p : Nat → Bool) (m : Nat) : ∀ n, cntB p (m + n) = cntB p m + cntB (fun i => p (m + i)) n
  | 0 => rfl
  | n + 1 => by
    have := cntB_add p m n
    show cntB p (m + n) + (if p (m + n) then 1 else 0) = cntB p m + (cntB (fun i => p (m + i)) n + (if p (m + n) then 1 else 0))
    omega
theorem cntB_congr {p q : Nat → Bool} : ∀ {n : Nat}, (∀ i, i < n → p i = q i) → cntB p n = cntB q n
  | 0, _ => rfl
  | n + 1, h => by
    simp only [cntB]
    rw [cntB_congr (n := n) (fun i hi => h i (by omega)), h n (by omega)]
theorem cnt8_bits (x : Nat) : cntB x.testBit 8 = cnt8 (x % 256) := by
  have h : ∀ i, (if x.testBit i then 1 else 0) = x / 2 ^ i % 2 := fun i => by
    rw [Nat.testBit_eq_decide_div_mod_eq]
    by_cases e : x / 2 ^ i % 2 = 1
    · simp [e]
    · simp [e]; omega
  simp only [cntB, h, cnt8]
  omega
def sumB : Nat → Nat → Nat
  | 0, _ => 0
  | k + 1, x => sumB k (x / 256) + cnt8 (x % 256)
theorem cnt_sum : ∀ (k x : Nat), cntB x.testBit (8 * k) = sumB k x
  | 0, _ => rfl
  | k + 1, x => by
    rw [show 8 * (k + 1) = 8 + 8 * k by omega, cntB_add, cnt8_bits]
    have : (fun i => x.testBit (8 + i)) = (x / 256).testBit := by
      funext i
      rw [show (256 : Nat) = 2 ^ 8 from rfl, Nat.testBit_div_two_pow, Nat.add_comm]
    rw [this, cnt_sum k (x / 256)]
    simp only [sumB]; omega
theorem cnt8_le (l : Nat) : cnt8 l ≤ 8 := by unfold cnt8; omega
theorem z_eq (x : Nat) : s3 (s2 (s1 x)) = z3 8 x := rfl
theorem s4_lin {p0 p1 p2 p3 p4 p5 p6 p7 q0 q1 q2 q3 q4 q5 q6 z : Nat} (b0 : p0 ≤ 8) (h : z = p0 + 256 * (p1 + 256 * (p2 + 256 * (p3 + 256 * (p4 + 256 * (p5 + 256 * (p6 + 256 * p7)))))))
    (h0 : q0 = p0 + p1) (h1 : q1 = p1 + p2) (h2 : q2 = p2 + p3) (h3 : q3 = p3 + p4) (h4 : q4 = p4 + p5) (h5 : q5 = p5 + p6) (h6 : q6 = p6 + p7) :
    s4 z = q0 + 256 * (q1 + 256 * (q2 + 256 * (q3 + 256 * (q4 + 256 * (q5 + 256 * (q6 + 256 * p7)))))) := by
  have e : z / 2 ^ 8 = p1 + 256 * (p2 + 256 * (p3 + 256 * (p4 + 256 * (p5 + 256 * (p6 + 256 * p7))))) := by omega
  unfold s4; omega
theorem s5_lin {q0 q1 q2 q3 q4 q5 q6 p7 r0 r1 r2 r3 r4 r5 z : Nat} (b0 : q0 ≤ 16) (b1 : q1 ≤ 16) (h : z = q0 + 256 * (q1 + 256 * (q2 + 256 * (q3 + 256 * (q4 + 256 * (q5 + 256 * (q6 + 256 * p7)))))))
    (h0 : r0 = q0 + q2) (h1 : r1 = q1 + q3) (h2 : r2 = q2 + q4) (h3 : r3 = q3 + q5) (h4 : r4 = q4 + q6) (h5 : r5 = q5 + p7) :
    s5 z = r0 + 256 * (r1 + 256 * (r2 + 256 * (r3 + 256 * (r4 + 256 * (r5 + 256 * (q6 + 256 * p7)))))) := by
  have e : z / 2 ^ 16 = q2 + 256 * (q3 + 256 * (q4 + 256 * (q5 + 256 * (q6 + 256 * p7)))) := by omega
  unfold s5; omega
theorem s6_lin {r0 r1 r2 r3 r4 r5 q6 p7 z : Nat} (b0 : r0 ≤ 32) (b1 : r1 ≤ 32) (b2 : r2 ≤ 32) (b3 : r3 ≤ 32) (b4 : r4 ≤ 32) (h : z = r0 + 256 * (r1 + 256 * (r2 + 256 * (r3 + 256 * (r4 + 256 * (r5 + 256 * (q6 + 256 * p7))))))) : s6 z % 128 = r0 + r4 := by
  have e : z / 2 ^ 32 = r4 + 256 * (r5 + 256 * (q6 + 256 * p7)) := by omega
  unfold s6; omega
theorem swar_lin {p0 p1 p2 p3 p4 p5 p6 p7 z t : Nat} (b0 : p0 ≤ 8) (b1 : p1 ≤ 8) (b2 : p2 ≤ 8) (b3 : p3 ≤ 8) (b4 : p4 ≤ 8) (b5 : p5 ≤ 8) (b6 : p6 ≤ 8) (b7 : p7 ≤ 8)
    (h : z = p0 + 256 * (p1 + 256 * (p2 + 256 * (p3 + 256 * (p4 + 256 * (p5 + 256 * (p6 + 256 * p7)))))) ∧ t = p0 + p1 + p2 + p3 + p4 + p5 + p6 + p7) : s6 (s5 (s4 z)) % 128 = t := by
  have e4 := s4_lin b0 h.1 rfl rfl rfl rfl rfl rfl rfl
  have e5 := s5_lin (by omega) (by omega) e4 rfl rfl rfl rfl rfl rfl
  have e6 := s6_lin (by omega) (by omega) (by omega) (by omega) (by omega) e5
  rw [e6, h.2]
  omega
theorem swar_sum {x : Nat} (hx : x < 2 ^ 64) : swar x = sumB 8 x := by
  unfold swar
  rw [z_eq]
  have m : ∀ n : Nat, n &&& 127 = n % 128 := fun n => Nat.and_two_pow_sub_one_eq_mod n 7
  have z0 : ∀ y, z3 0 y = 0 := fun y => by simp [z3, t3, rep]
  rw [m]
  simp only [z3_succ, sumB, z0]
  generalize h0 : cnt8 (x % 256) = p0
  generalize h1 : cnt8 (x / 256 % 256) = p1
  generalize h2 : cnt8 (x / 256 / 256 % 256) = p2
  generalize h3 : cnt8 (x / 256 / 256 / 256 % 256) = p3
  generalize h4 : cnt8 (x / 256 / 256 / 256 / 256 % 256) = p4
  generalize h5 : cnt8 (x / 256 / 256 / 256 / 256 / 256 % 256) = p5
  generalize h6 : cnt8 (x / 256 / 256 / 256 / 256 / 256 / 256 % 256) = p6
  generalize h7 : cnt8 (x / 256 / 256 / 256 / 256 / 256 / 256 / 256 % 256) = p7
  have b0 : p0 ≤ 8 := h0 ▸ cnt8_le _
  have b1 : p1 ≤ 8 := h1 ▸ cnt8_le _
  have b2 : p2 ≤ 8 := h2 ▸ cnt8_le _
  have b3 : p3 ≤ 8 := h3 ▸ cnt8_le _
  have b4 : p4 ≤ 8 := h4 ▸ cnt8_le _
  have b5 : p5 ≤ 8 := h5 ▸ cnt8_le _
  have b6 : p6 ≤ 8 := h6 ▸ cnt8_le _
  have b7 : p7 ≤ 8 := h7 ▸ cnt8_le _
  clear h0 h1 h2 h3 h4 h5 h6 h7
  refine swar_lin b0 b1 b2 b3 b4 b5 b6 b7 ?_
  omega

end Go.Dv

namespace Go.Dv
open Go

variable {L : Lite} {ext : Ext} {n0 : Nat} {sl : Nat → X} {ob : Nat → Ob} {d : Option Tmp} {ty : TypeId} {pos : String} {af : Array Edge} {gd : Option (Nat × Bool)}
theorem getD_lt {l : List Nat} {i : Nat} (h : i < l.length) : l.getD i 0 = l[i] := by simp [List.getD_eq_getElem?_getD, List.getElem?_eq_getElem h]
/-- The first i elements are the same. -/
def agree (l m : List Nat) (i : Nat) : Prop := ∀ j, j < i → l.getD j 0 = m.getD j 0
theorem agree_all {l m : List Nat} (hl : l.length = m.length) (h : agree l m l.length) : l = m := by
  refine List.ext_getElem hl fun i h1 h2 => ?_
  have := h i h1
  rwa [getD_lt h1, getD_lt h2] at this
def rowS (S : List (List Nat)) : List (List V) := S.map fun W => W.map word
theorem rowS_len (S : List (List Nat)) : (rowS S).length = S.length := by simp [rowS]
theorem rowS_get {S : List (List Nat)} {i : Nat} (h : i < S.length) : (rowS S)[i]? = some ((S.getD i []).map word) := by
  simp [rowS, List.getD_eq_getElem?_getD, List.getElem?_eq_getElem h]
theorem getD_mem {S : List (List Nat)} {i : Nat} (h : i < S.length) : S.getD i [] ∈ S := by
  simp [List.getD_eq_getElem?_getD, List.getElem?_eq_getElem h]
def eqvW (S : List (List Nat)) (a b : Nat) : Bool := S.all fun W => has W a == has W b
theorem eqvW_t {S : List (List Nat)} {a b : Nat} (h : ∀ j, j < S.length → has (S.getD j []) a = has (S.getD j []) b) : eqvW S a b = true := by
  refine List.all_eq_true.2 fun W hW => ?_
  obtain ⟨i, hi, rfl⟩ := List.mem_iff_getElem.1 hW
  have := h i hi
  simp [List.getD_eq_getElem?_getD, List.getElem?_eq_getElem hi] at this
  simp [this]
theorem eqvW_f {S : List (List Nat)} {a b i : Nat} (hi : i < S.length) (h : ¬ has (S.getD i []) a = has (S.getD i []) b) : eqvW S a b = false := by
  cases e : eqvW S a b with
  | false => rfl
  | true =>
    have := List.all_eq_true.1 e _ (getD_mem hi)
    exact absurd (by simpa using this) h
theorem loadS {L : Lite} {ext : Ext} {n0 : Nat} {sl : Nat → X} {ob : Nat → Ob} {d : Option Tmp} {ty : TypeId} {pos : String} {af : Array Edge} {gd : Option (Nat × Bool)} {t : TypeId} {T : TI} {x : Operand} {W : List Nat} (hW : isW W)
    (hx : (St.opd ⟨n0, sl, ob⟩) x = .ro (W.map word)) (ht : L.ti t = T) (hk : T.kd = 2) (hs : T.size = 4) : ActEv L ext ⟨d, .load t x, ty, pos, af, gd⟩ ⟨n0, sl, ob⟩ (.v (setV W)) ob [] [] := by
  have := a_loadR2 (L := L) (ext := ext) (d := d) (ty := ty) (pos := pos) (af := af) (gd := gd) hx ht hk (by rw [hs, List.length_map, hW.1]; exact Nat.le_refl _)
  rw [hs, List.take_of_length_le (by rw [List.length_map, hW.1]; exact Nat.le_refl _)] at this
  exact this
def keyW (S : List (List Nat)) (b : Nat) : List Bool := S.map fun W => has W b
def clsK (S : List (List Nat)) : Nat → List (List Bool)
  | 0 => []
  | i + 1 => if keyW S i ∈ clsK S i then clsK S i else clsK S i ++ [keyW S i]
def cls (S : List (List Nat)) (i : Nat) : Nat := (clsK S i).idxOf (keyW S i)
def clsRow (S : List (List Nat)) (n : Nat) : List Nat := (List.range n).map (cls S)
def outR (S : List (List Nat)) (n : Nat) : List Nat := clsRow S n ++ List.replicate (256 - n) 0
theorem clsRow_len (S : List (List Nat)) (n : Nat) : (clsRow S n).length = n := by simp [clsRow]
theorem clsRow_succ (S : List (List Nat)) (n : Nat) : clsRow S (n + 1) = clsRow S n ++ [cls S n] := by simp [clsRow, List.range_succ]
theorem outR_len (S : List (List Nat)) {n : Nat} (h : n ≤ 256) : (outR S n).length = 256 := by simp [outR, clsRow_len]; omega
theorem outR_0 (S : List (List Nat)) : outR S 0 = List.replicate 256 0 := rfl
theorem outR_end (S : List (List Nat)) : outR S 256 = clsRow S 256 := by simp [outR]
theorem outR_set (S : List (List Nat)) {n : Nat} (h : n < 256) : (outR S n).set n (cls S n) = outR S (n + 1) := by
  have e : List.replicate (256 - n) 0 = 0 :: List.replicate (256 - (n + 1)) 0 := by
    rw [show 256 - n = (256 - (n + 1)) + 1 by omega, List.replicate_succ]
  simp only [outR]
  rw [e, clsRow_succ, List.set_append_right _ _ (by rw [clsRow_len]; exact Nat.le_refl _), clsRow_len, Nat.sub_self, List.set_cons_zero, List.append_assoc]
  rfl
theorem cls_le (S : List (List Nat)) (i : Nat) : cls S i ≤ (clsK S i).length := List.idxOf_le_length
theorem clsK_le (S : List (List Nat)) : ∀ i, (clsK S i).length ≤ i
  | 0 => Nat.le_refl _
  | i + 1 => by
    have := clsK_le S i
    simp only [clsK]; split
    · omega
    · simp; omega
/-- A key as the program writes it. -/
def bit01 (p : Bool) : Nat := if p then 1 else 0
def bitE (p : Bool) : List V := [byteV (bit01 p)]
def bit8 (p : Bool) : UInt8 := if p then 1 else 0
def keyV (k : List Bool) : Value := .string ⟨(k.map bit8).toArray⟩
def keyRow (S : List (List Nat)) (b j : Nat) : List (List V) := (S.take j).map (fun W => bitE (has W b)) ++ List.replicate (S.length - j) (bitE false)
def mpE : List (List Bool) → Nat → List (Value × V)
  | [], _ => []
  | k :: K, n => (keyV k, natV n) :: mpE K (n + 1)
theorem keyRow_0 (S : List (List Nat)) (b : Nat) : keyRow S b 0 = List.replicate S.length (bitE false) := by simp [keyRow]
theorem keyRow_end (S : List (List Nat)) (b : Nat) : keyRow S b S.length = (keyW S b).map bitE := by simp [keyRow, keyW]
theorem keyRow_len (S : List (List Nat)) (b : Nat) {j : Nat} (h : j ≤ S.length) : (keyRow S b j).length = S.length := by simp [keyRow]; omega
theorem keyRow_get (S : List (List Nat)) (b : Nat) {j : Nat} (h : j < S.length) : (keyRow S b j)[j]? = some (bitE false) := by
  have e : (List.map (fun W => bitE (has W b)) (List.take j S)).length = j := by simp; omega
  rw [keyRow, List.getElem?_append_right (by omega), e, Nat.sub_self, show S.length - j = (S.length - (j + 1)) + 1 by omega, List.replicate_succ]
  rfl
theorem take_succ' {S : List (List Nat)} {j : Nat} (h : j < S.length) : S.take (j + 1) = S.take j ++ [S.getD j []] := by
  rw [List.take_add_one, List.getD_eq_getElem?_getD, List.getElem?_eq_getElem h]; rfl
theorem keyRow_t (S : List (List Nat)) (b : Nat) {j : Nat} (h : j < S.length) (hb : has (S.getD j []) b = true) : (keyRow S b j).set j (bitE true) = keyRow S b (j + 1) := by
  simp only [keyRow]
  rw [List.set_append_right _ _ (by simp; omega), take_succ' h, show S.length - j = (S.length - (j + 1)) + 1 by omega, List.replicate_succ]
  have : j - (List.map (fun W => bitE (has W b)) (List.take j S)).length = 0 := by simp; omega
  rw [this]
  simp only [List.set_cons_zero, List.map_append, List.map_cons, List.map_nil, hb, List.append_assoc]
  rfl
theorem keyRow_f (S : List (List Nat)) (b : Nat) {j : Nat} (h : j < S.length) (hb : has (S.getD j []) b = false) : keyRow S b j = keyRow S b (j + 1) := by
  simp only [keyRow]
  rw [take_succ' h, show S.length - j = (S.length - (j + 1)) + 1 by omega, List.replicate_succ]
  simp only [List.map_append, List.map_cons, List.map_nil, hb, List.append_assoc]
  rfl
theorem key_bytes : ∀ (k : List Bool), bytesOf (k.map bitE) = some (k.map bit8)
  | [] => rfl
  | p :: k => by
    have := key_bytes k
    cases p <;> simp [bitE, byteV, bytesOf, this, bit8, bit01] <;> rfl
theorem keyV_inj : ∀ {a b : List Bool}, a.map bit8 = b.map bit8 → a = b
  | [], [], _ => rfl
  | [], _ :: _, h => by cases h
  | _ :: _, [], h => by cases h
  | p :: a, q :: b, h => by
    simp only [List.map_cons, List.cons.injEq] at h
    have : p = q := by
      have h1 := h.1
      cases p <;> cases q <;> first | rfl | (revert h1; decide)
    rw [this, keyV_inj h.2]
theorem same_key (a b : List Bool) : Go.Instr.sameNow .string (keyV a) (keyV b) = some (decide (a = b)) := by
  have e : ∀ x y : List Bool, ((⟨(x.map bit8).toArray⟩ : ByteArray) == ⟨(y.map bit8).toArray⟩) = decide (x = y) := by
    intro x y
    show ((x.map bit8).toArray == (y.map bit8).toArray) = decide (x = y)
    by_cases h : x = y
    · subst h; simp
    · rw [decide_eq_false h]
      refine beq_eq_false_iff_ne.2 fun hh => h (keyV_inj ?_)
      simpa using hh
  simp only [keyV, Go.Instr.sameNow]
  first
    | rw [e]
    | (congr 1; exact e a b)
theorem mp_find (k : List Bool) : ∀ (K : List (List Bool)) (n i : Nat), mpFind .string (keyV k) (mpE K n) i = some (if k ∈ K then some (i + K.idxOf k, natV (n + K.idxOf k)) else .none)
  | [], n, i => by simp [mpE, mpFind]
  | x :: K, n, i => by
    simp only [mpE, mpFind, same_key]
    by_cases h : k = x
    · subst h; simp
    · rw [decide_eq_false h]
      simp only [mp_find k K (n + 1) (i + 1), List.mem_cons, h, false_or]
      have hx : (x == k) = false := by simpa using fun e : x = k => h e.symm
      by_cases hk : k ∈ K
      · simp only [hk, if_true, List.idxOf_cons, hx, cond_false]
        rw [show i + 1 + List.idxOf k K = i + (List.idxOf k K + 1) by omega, show n + 1 + List.idxOf k K = n + (List.idxOf k K + 1) by omega]
      · simp only [hk, if_false]
theorem mp_app (k : List Bool) : ∀ (K : List (List Bool)) (n : Nat), mpE K n ++ [(keyV k, natV (n + K.length))] = mpE (K ++ [k]) n
  | [], n => rfl
  | x :: K, n => by
    have := mp_app k K (n + 1)
    simp only [mpE, List.cons_append, List.length_cons]
    rw [← this, show n + 1 + K.length = n + (K.length + 1) by omega]
theorem mp_len : ∀ (K : List (List Bool)) (n : Nat), (mpE K n).length = K.length
  | [], _ => rfl
  | _ :: K, n => by simp [mpE, mp_len K]
theorem a_storeW {t : TypeId} {T : TI} {x y : Operand} {s g : Nat} {cs : List X} {W : List Nat} (hW : isW W) (hx : (St.opd ⟨n0, sl, ob⟩) x = .addr s g 0) (hy : (St.opd ⟨n0, sl, ob⟩) y = .v (setV W)) (ho : ob s = .box g cs) (hc : cs.length = 4) (ht : L.ti t = T) (hk : T.kd = 2)
    (hl : T.size = 4) : ActEv L ext ⟨d, .store t x y, ty, pos, af, gd⟩ ⟨n0, sl, ob⟩ .undef (upd ob s (.box g (cells W))) [s] [s] := by
  have := a_store2 (L := L) (ext := ext) (d := d) (ty := ty) (pos := pos) (af := af) (gd := gd) hx hy ho ht hk (by rw [hl, List.length_map, hW.1]) (by rw [List.length_map, hW.1, hc]; exact Nat.le_refl _)
  have e : setRange cs 0 ((W.map word).map X.v) = cells W := by
    obtain ⟨h1, _⟩ := hW
    match W, cs, h1, hc with
    | [a, b, c, d], [e, f, g, h], _, _ => rfl
  rw [e] at this
  exact this
theorem a_storeI {t : TypeId} {T : TI} {x y : Operand} {s g i z : Nat} {es : List (List V)} {v : V} (hx : (St.opd ⟨n0, sl, ob⟩) x = .elt s g i 0) (hy : (St.opd ⟨n0, sl, ob⟩) y = .v v) (hc : v.flat = true) (ho : ob s = .row g true z es) (he : ∃ w, es[i]? = some [w]) (ht : L.ti t = T) (hk : T.kd = 1)
    (hl : T.size = 1) : ActEv L ext ⟨d, .store t x y, ty, pos, af, gd⟩ ⟨n0, sl, ob⟩ .undef (upd ob s (.row g true z (es.set i [v]))) [s] [s] := by
  obtain ⟨w, he⟩ := he
  exact a_storeE1 hx hy hc ho he ht hk hl Nat.zero_lt_one
theorem rowI_ex {l : List Nat} {i : Nat} (h : i < l.length) : ∃ w, (rowI l)[i]? = some [w] := ⟨_, rowI_get h⟩
/-- The numbers grow by one with each new key. -/
theorem clsK_nd (S : List (List Nat)) : ∀ n, (clsK S n).Nodup
  | 0 => List.nodup_nil
  | n + 1 => by
    have ih := clsK_nd S n
    simp only [clsK]
    split
    · exact ih
    · rename_i h
      rw [List.nodup_append]
      refine ⟨ih, by simp, fun a ha b hb => ?_⟩
      simp only [List.mem_singleton] at hb
      subst hb
      exact fun e => h (e ▸ ha)
theorem clsK_mem (S : List (List Nat)) {j : Nat} : ∀ {n : Nat}, j < n → keyW S j ∈ clsK S n
  | 0, h => absurd h (Nat.not_lt_zero _)
  | n + 1, h => by
    simp only [clsK]
    by_cases e : j = n
    · subst e
      split
      · assumption
      · exact List.mem_append_right _ (List.mem_singleton.2 rfl)
    · have := clsK_mem S (j := j) (n := n) (by omega)
      split
      · exact this
      · exact List.mem_append_left _ this
theorem clsK_from (S : List (List Nat)) {k : List Bool} : ∀ {n : Nat}, k ∈ clsK S n → ∃ j, j < n ∧ keyW S j = k
  | 0, h => by simp [clsK] at h
  | n + 1, h => by
    simp only [clsK] at h
    split at h
    · obtain ⟨j, hj, e⟩ := clsK_from S h
      exact ⟨j, by omega, e⟩
    · rcases List.mem_append.1 h with h | h
      · obtain ⟨j, hj, e⟩ := clsK_from S h
        exact ⟨j, by omega, e⟩
      · exact ⟨n, by omega, (List.mem_singleton.1 h).symm⟩
/-- Where a key lies does not change. -/
theorem clsK_idx (S : List (List Nat)) {k : List Bool} {n : Nat} : ∀ {m : Nat}, n ≤ m → k ∈ clsK S n → (clsK S m).idxOf k = (clsK S n).idxOf k
  | 0, h, hk => by
    have : n = 0 := by omega
    subst this; rfl
  | m + 1, h, hk => by
    by_cases e : n = m + 1
    · subst e; rfl
    · have ih := clsK_idx S (m := m) (by omega) hk
      have hm : k ∈ clsK S m := by
        obtain ⟨j, hj, e⟩ := clsK_from S hk
        exact e ▸ clsK_mem S (by omega)
      simp only [clsK]
      split
      · exact ih
      · rw [List.idxOf_append, if_pos hm]; exact ih
theorem cls_idx (S : List (List Nat)) {j n : Nat} (h : j < n) : cls S j = (clsK S n).idxOf (keyW S j) := by
  have e : cls S j = (clsK S (j + 1)).idxOf (keyW S j) := by
    simp only [cls, clsK]
    split
    · rfl
    · rename_i h
      rw [List.idxOf_append]
      simp [h, List.idxOf_eq_length h]
  rw [e]
  exact (clsK_idx S (by omega) (clsK_mem S (by omega))).symm
theorem cls_eq (S : List (List Nat)) {i j : Nat} : cls S i = cls S j ↔ keyW S i = keyW S j := by
  have hi := clsK_mem S (j := i) (n := i + j + 1) (by omega)
  have hj := clsK_mem S (j := j) (n := i + j + 1) (by omega)
  rw [cls_idx S (j := i) (n := i + j + 1) (by omega), cls_idx S (j := j) (n := i + j + 1) (by omega)]
  constructor
  · intro e
    have h1 := List.getElem_idxOf (List.idxOf_lt_length_iff.2 hi)
    have h2 := List.getElem_idxOf (List.idxOf_lt_length_iff.2 hj)
    rw [← h1, ← h2]
    simp only [e]
  · intro e; rw [e]
theorem cls_old (S : List (List Nat)) {i j : Nat} (h : j < i) (e : keyW S j = keyW S i) : cls S i = cls S j := (cls_eq S).2 e.symm
theorem cls_new (S : List (List Nat)) {i : Nat} (h : ∀ j, j < i → ¬ keyW S j = keyW S i) : cls S i = (clsK S i).length := by
  refine List.idxOf_eq_length fun hm => ?_
  obtain ⟨j, hj, e⟩ := clsK_from S hm
  exact h j hj e
theorem cls_lt (S : List (List Nat)) {i j : Nat} (h : j < i) (e : keyW S j = keyW S i) : cls S i < (clsK S i).length :=
  List.idxOf_lt_length_iff.2 (e ▸ clsK_mem S h)
theorem clsK_old (S : List (List Nat)) {i j : Nat} (h : j < i) (e : keyW S j = keyW S i) : clsK S (i + 1) = clsK S i := by
  simp only [clsK]; rw [if_pos (e ▸ clsK_mem S h)]
theorem clsK_new (S : List (List Nat)) {i : Nat} (h : ∀ j, j < i → ¬ keyW S j = keyW S i) : (clsK S (i + 1)).length = (clsK S i).length + 1 := by
  simp only [clsK]; rw [if_neg fun hm => by obtain ⟨j, hj, e⟩ := clsK_from S hm; exact h j hj e]; simp
theorem eqv_key (S : List (List Nat)) (a b : Nat) : eqvW S a b = decide (keyW S a = keyW S b) := by
  induction S with
  | nil => simp [eqvW, keyW]
  | cons W S ih =>
    have e1 : eqvW (W :: S) a b = ((has W a == has W b) && eqvW S a b) := rfl
    have e2 : keyW (W :: S) a = has W a :: keyW S a := rfl
    have e3 : keyW (W :: S) b = has W b :: keyW S b := rfl
    rw [e1, e2, e3, ih]
    cases has W a <;> cases has W b <;> simp
theorem outR_get (S : List (List Nat)) {n j : Nat} (h : j < n) : (outR S n).getD j 0 = cls S j := by
  simp only [outR, List.getD_eq_getElem?_getD]
  rw [List.getElem?_append_left (by rw [clsRow_len]; exact h)]
  simp [clsRow, List.getElem?_range h]
theorem clsRow_get (S : List (List Nat)) {n j : Nat} (h : j < n) : (clsRow S n).getD j 0 = cls S j := by
  simp only [List.getD_eq_getElem?_getD]
  simp [clsRow, List.getElem?_range h]
def sAB : ByteArray := ⟨#[97, 98]⟩
def sBC : ByteArray := ⟨#[98, 99]⟩
def exS : List (List Nat) := [ofW sAB sAB.size, ofW sBC sBC.size]
theorem exS_isW : ∀ W ∈ exS, isW W := by
  intro W h
  rcases List.mem_cons.1 h with rfl | h
  · exact ofW_isW _ _
  · rw [List.mem_singleton.1 h]; exact ofW_isW _ _
theorem ex1 : lenW (fillW (inR 97 99) 256) 4 = 3 := by decide +kernel
theorem ex2 : has (fillW (inR 97 99) 256) 98 = true := by decide +kernel
theorem ex3 : has (fillW (inR 97 99) 256) 100 = false := by decide +kernel
theorem ex4 : lenW (fillW (inR 99 97) 256) 4 = 0 := by decide +kernel
theorem ex5 : (rowI (clsRow exS 256)).length = 256 := by rw [rowI_len, clsRow_len]
theorem ex6 : (clsRow exS 256).getD 0 0 = 0 := by rw [clsRow_get _ (by omega)]; decide +kernel
theorem ex7 : (clsRow exS 256).getD 97 0 = 1 := by rw [clsRow_get _ (by omega)]; decide +kernel
theorem ex8 : (clsRow exS 256).getD 98 0 = 2 := by rw [clsRow_get _ (by omega)]; decide +kernel
theorem ex9 : (clsRow exS 256).getD 99 0 = 3 := by rw [clsRow_get _ (by omega)]; decide +kernel
theorem ex10 : (clsRow exS 256).getD 100 0 = 0 := by rw [clsRow_get _ (by omega)]; decide +kernel
theorem exGet {i : Nat} (h : i < 256) : (rowI (clsRow exS 256))[i]? = some [natV ((clsRow exS 256).getD i 0)] := rowI_get (by rw [clsRow_len]; exact h)
theorem word_cnt {W : List Nat} (hW : isW W) {j : Nat} (hj : j < 4) : swar (W.getD j 0) = cntB (fun i => has W (64 * j + i)) 64 := by
  rw [swar_sum (hW.2 j), ← cnt_sum]
  refine cntB_congr fun i hi => ?_
  rw [has_bit, show (64 * j + i) / 64 = j by omega, show (64 * j + i) % 64 = i by omega]
theorem len_cnt {W : List Nat} (hW : isW W) : lenW W 4 = cntB (has W) 256 := by
  have h0 := word_cnt hW (j := 0) (by omega)
  have h1 := word_cnt hW (j := 1) (by omega)
  have h2 := word_cnt hW (j := 2) (by omega)
  have h3 := word_cnt hW (j := 3) (by omega)
  have a1 : cntB (has W) 256 = cntB (has W) 192 + cntB (fun i => has W (192 + i)) 64 := cntB_add (has W) 192 64
  have a2 : cntB (has W) 192 = cntB (has W) 128 + cntB (fun i => has W (128 + i)) 64 := cntB_add (has W) 128 64
  have a3 : cntB (has W) 128 = cntB (has W) 64 + cntB (fun i => has W (64 + i)) 64 := cntB_add (has W) 64 64
  have a4 : cntB (fun i => has W (64 * 0 + i)) 64 = cntB (has W) 64 := cntB_congr fun i _ => by rw [Nat.mul_zero, Nat.zero_add]
  have b1 : cntB (fun i => has W (64 * 1 + i)) 64 = cntB (fun i => has W (64 + i)) 64 := rfl
  have b2 : cntB (fun i => has W (64 * 2 + i)) 64 = cntB (fun i => has W (128 + i)) 64 := rfl
  have b3 : cntB (fun i => has W (64 * 3 + i)) 64 = cntB (fun i => has W (192 + i)) 64 := rfl
  have e : lenW W 4 = 0 + swar (W.getD 0 0) + swar (W.getD 1 0) + swar (W.getD 2 0) + swar (W.getD 3 0) := rfl
  omega
theorem list_cnt (W : List Nat) : ∀ n, (listW W n).length = cntB (has W) n
  | 0 => rfl
  | n + 1 => by
    have ih := list_cnt W n
    simp only [listW] at ih
    simp only [listW, List.range_succ, List.filter_append, List.length_append, cntB, ih]
    cases h : has W n <;> simp [h]
theorem len_law {W : List Nat} (hW : isW W) : lenW W 4 = (listW W 256).length := by rw [len_cnt hW, list_cnt]
theorem cntB_le (p : Nat → Bool) : ∀ n, cntB p n ≤ n
  | 0 => Nat.le_refl _
  | n + 1 => by
    have := cntB_le p n
    simp only [cntB]; split <;> omega
theorem cntB_not (p : Nat → Bool) : ∀ n, cntB (fun i => !p i) n + cntB p n = n
  | 0 => rfl
  | n + 1 => by
    have := cntB_not p n
    simp only [cntB]
    by_cases h : p n = true <;> simp [h] <;> omega
theorem cntB_ie (p q : Nat → Bool) : ∀ n, cntB p n + cntB q n = cntB (fun i => p i || q i) n + cntB (fun i => p i && q i) n
  | 0 => rfl
  | n + 1 => by
    have := cntB_ie p q n
    simp only [cntB]
    by_cases h : p n = true <;> by_cases h' : q n = true <;> simp [h, h'] <;> omega
theorem cntB_zero {p : Nat → Bool} : ∀ {n : Nat}, (∀ i, i < n → p i = false) → cntB p n = 0
  | 0, _ => rfl
  | n + 1, h => by
    simp only [cntB]
    rw [cntB_zero fun i hi => h i (by omega), h n (by omega)]; rfl
theorem or_isW {A B : List Nat} (hA : isW A) (hB : isW B) : isW (orW A B 4) := by rw [union_law hA hB]; exact fillW_isW _ _ (Nat.le_refl _)
theorem and_isW {A B : List Nat} (hA : isW A) (hB : isW B) : isW (andW A B 4) := by rw [inter_law hA hB]; exact fillW_isW _ _ (Nat.le_refl _)
theorem not_isW {A : List Nat} (hA : isW A) : isW (notW A 4) := by rw [compl_law hA]; exact fillW_isW _ _ (Nat.le_refl _)
theorem not_not {A : List Nat} (hA : isW A) : notW (notW A 4) 4 = A :=
  set_ext (not_isW (not_isW hA)) hA fun b hb => by rw [has_not (not_isW hA) hb, has_not hA hb, Bool.not_not]
theorem len_not {A : List Nat} (hA : isW A) : lenW (notW A 4) 4 = 256 - lenW A 4 := by
  rw [len_cnt (not_isW hA), len_cnt hA]
  have h1 := cntB_not (has A) 256
  have h2 : cntB (has (notW A 4)) 256 = cntB (fun i => !has A i) 256 := cntB_congr fun i hi => has_not hA hi
  omega
theorem len_le {A : List Nat} (hA : isW A) : lenW A 4 ≤ 256 := by rw [len_cnt hA]; exact cntB_le _ _
theorem or_not {A : List Nat} (hA : isW A) : orW A (notW A 4) 4 = fillW (inR 0 255) 256 :=
  set_ext (or_isW hA (not_isW hA)) (fillW_isW _ _ (Nat.le_refl _)) fun b hb => by
    rw [has_or hb, has_not hA hb, has_fill _ _ (Nat.le_refl _) _ hb]
    have h1 : b ≤ 255 := by omega
    simp [hb, inR, h1]
theorem and_not {A : List Nat} (hA : isW A) : lenW (andW A (notW A 4) 4) 4 = 0 := by
  rw [len_cnt (and_isW hA (not_isW hA))]
  refine cntB_zero fun i hi => ?_
  rw [has_and hi, has_not hA hi, Bool.and_not_self]
theorem demorgan {A B : List Nat} (hA : isW A) (hB : isW B) : notW (orW A B 4) 4 = andW (notW A 4) (notW B 4) 4 :=
  set_ext (not_isW (or_isW hA hB)) (and_isW (not_isW hA) (not_isW hB)) fun b hb => by
    rw [has_not (or_isW hA hB) hb, has_or hb, has_and hb, has_not hA hb, has_not hB hb, Bool.not_or]
theorem distr {A B C : List Nat} (hA : isW A) (hB : isW B) (hC : isW C) : andW A (orW B C 4) 4 = orW (andW A B 4) (andW A C 4) 4 :=
  set_ext (and_isW hA (or_isW hB hC)) (or_isW (and_isW hA hB) (and_isW hA hC)) fun b hb => by
    rw [has_and hb, has_or hb, has_or hb, has_and hb, has_and hb, Bool.and_or_distrib_left]
theorem incl_excl {A B : List Nat} (hA : isW A) (hB : isW B) : lenW A 4 + lenW B 4 = lenW (orW A B 4) 4 + lenW (andW A B 4) 4 := by
  rw [len_cnt hA, len_cnt hB, len_cnt (or_isW hA hB), len_cnt (and_isW hA hB), cntB_ie]
  have h1 : cntB (has (orW A B 4)) 256 = cntB (fun i => has A i || has B i) 256 := cntB_congr fun i hi => has_or hi
  have h2 : cntB (has (andW A B 4)) 256 = cntB (fun i => has A i && has B i) 256 := cntB_congr fun i hi => has_and hi
  rw [h1, h2]
theorem has_range {lo up : Nat} (hu : up < 256) : has (fillW (inR lo up) 256) up = decide (lo ≤ up) := by
  rw [has_fill _ _ (Nat.le_refl _) _ hu]
  simp [hu, inR]
theorem kinds {W : List Nat} (hW : isW W) : (W.map word).map litK = [1, 1, 1, 1] := by
  obtain ⟨h, _⟩ := hW
  match W, h with
  | [a, b, c, d], _ => rfl
theorem kinds0 {W : List Nat} : ∀ v ∈ W.map word, litK v ≠ 0 := by
  intro v h
  obtain ⟨n, _, rfl⟩ := List.mem_map.1 h
  exact Nat.one_ne_zero

end Go.Dv

namespace Go.Dv
open Go

theorem has_block {W : List Nat} {i j : Nat} (h : j < 64) : has W (64 * i + j) = (W.getD i 0).testBit j := by
  rw [has_bit]
  have e1 : (64 * i + j) / 64 = i := by omega
  have e2 : (64 * i + j) % 64 = j := by omega
  rw [e1, e2]

theorem filter_block (W : List Nat) (i : Nat) : ((List.range 64).map (64 * i + ·)).filter (has W) = (wbits (W.getD i 0)).map (64 * i + ·) := by
  rw [List.filter_map]
  congr 1
  unfold wbits
  refine List.filter_congr fun j hj => ?_
  rw [Function.comp_apply, has_block (List.mem_range.1 hj)]

theorem allBits_list {W : List Nat} (hW : isW W) : allBits W 0 = listW W 256 := by
  have e : List.range 256 = (List.range 64).map (64 * 0 + ·) ++ ((List.range 64).map (64 * 1 + ·) ++ ((List.range 64).map (64 * 2 + ·) ++ (List.range 64).map (64 * 3 + ·))) := by
    rw [show (256 : Nat) = 64 + (64 + (64 + 64)) by rfl, List.range_add, List.range_add, List.range_add]
    simp [List.map_append, List.map_map, Function.comp_def, Nat.add_assoc]
    congr 1 <;> exact List.map_congr_left fun a _ => by omega
  unfold listW
  rw [e, List.filter_append, List.filter_append, List.filter_append, filter_block, filter_block, filter_block, filter_block]
  obtain ⟨hl, _⟩ := hW
  match W, hl with
  | [a, b, c, d], _ => simp [allBits]

theorem map_split {α β : Type} {f : α → β} : ∀ {L : List α} {pre : List β} {x : β} {post : List β}, pre ++ x :: post = L.map f → ∃ l b r, L = l ++ b :: r ∧ pre = l.map f ∧ x = f b ∧ post = r.map f
  | [], pre, x, post, h => by
    have := congrArg List.length h
    simp at this
  | a :: L, [], x, post, h => by
    simp at h
    exact ⟨[], a, L, rfl, rfl, h.1, h.2⟩
  | a :: L, p :: pre, x, post, h => by
    simp at h
    obtain ⟨l, b, r, h1, h2, h3, h4⟩ := map_split h.2
    exact ⟨a :: l, b, r, by rw [h1]; rfl, by rw [h2, h.1]; rfl, h3, h4⟩

theorem pin_mk {α : Type} {f : Nat → α} {l : List (Nat × α)} (h : AllP f l) : ∃ k, f = pin k l := ⟨f, pin_eta f l h.all⟩

theorem wordsOf_word : ∀ {W : List Nat}, (∀ w ∈ W, w < 18446744073709551616) → wordsOf (W.map word) = some W
  | [], _ => rfl
  | w :: W, h => by
    have h0 := h w List.mem_cons_self
    have ih := wordsOf_word (W := W) fun x hx => h x (List.mem_cons_of_mem _ hx)
    have hc : 0 ≤ (w : Int) ∧ (w : Int) < 18446744073709551616 := by omega
    simp only [List.map_cons, wordsOf, word]
    rw [if_pos hc]
    have ih' : wordsOf (W.map fun n : Nat => V.lit (.int .u64 (n : Int))) = some W := ih
    simp only [show (W.map fun n : Nat => V.lit (.int .u64 (n : Int))) = W.map word from rfl, ih]
    rfl
theorem isW_lt {W : List Nat} (h : isW W) : ∀ w ∈ W, w < 18446744073709551616 := by
  intro w hw
  obtain ⟨i, hi⟩ := List.mem_iff_getElem?.1 hw
  have := h.2 i
  rw [List.getD_eq_getElem?_getD, hi] at this
  exact this
theorem itv_set {g : FuncId} {W : List Nat} (h : isW W) : itvOf g g [.ro (W.map word)] = some ((listW W 256).map u8V) := by
  unfold itvOf
  rw [if_pos rfl]
  simp only [wordsOf_word (isW_lt h), h.1, if_true]
  rw [allBits_list h]
theorem u8V_inj : ∀ {a b : List Nat}, a.map u8V = b.map u8V → a = b
  | [], [], _ => rfl
  | [], _ :: _, h => by simp at h
  | _ :: _, [], h => by simp at h
  | x :: a, y :: b, h => by
    simp only [List.map_cons, List.cons.injEq, u8V, Value.int.injEq, true_and] at h
    have h1 : x = y := by omega
    rw [h1, u8V_inj (a := a) (b := b) h.2]
theorem scal_u8 (l : List Nat) : (l.map u8V).all scal = true := List.all_eq_true.2 fun x hx => by
  obtain ⟨b, _, rfl⟩ := List.mem_map.1 hx
  rfl

section
variable {L : Lite} {ext : Ext} {n0 : Nat} {sl : Nat → X} {ob : Nat → Ob} {d : Option Tmp} {ty : TypeId} {pos : String} {af : Array Edge} {gd : Option (Nat × Bool)}
/-- A call of a function that keeps an array. -/
theorem a_its {f : Operand} {args : Array Operand} {ats : Array TypeId} {g : FuncId} {it : FuncId × Nat} {cs : List V} (hf : (St.opd ⟨n0, sl, ob⟩) f = .clo g []) (hx : L.xb.contains g = false) (hi : L.its.lookup g = some it)
    (ha : args.toList.map (St.opd ⟨n0, sl, ob⟩) = [.v (.agg cs)]) (hl : cs.length = it.2) :
    ActEv L ext ⟨d, .call { callee := .value f, args := args, argTypes := ats }, ty, pos, af, gd⟩ ⟨n0, sl, ob⟩ (.clo it.1 [.ro cs]) ob [] [] :=
  ⟨0, fun k _ => by
    simp only [act, hf, hx, hi, ha, List.append_nil, Bool.false_eq_true, if_false, actIt, hl, if_true, Ef.run]⟩
end
end Go.Dv

namespace Go.Dv
open Go

/-- What is kept of a slot's content, and the objects then. -/
inductive Kept : (Nat → Ob) → X → V → (Nat → Ob) → Prop
  | v {H : Nat → Ob} {y : V} : Kept H (.v y) y H
  | nil {H : Nat → Ob} {z : Nat} : Kept H (.nil z) (.sl z []) H
  | own {H : Nat → Ob} {s g lo n z : Nat} {es es' : List (List V)} (ho : H s = .row g true z es) (he : (es.drop lo).take n = es') : Kept H (.own s g lo n) (.sl z es') (upd H s (.row g false z es))
  | ownF {H : Nat → Ob} {s g lo n z : Nat} {es es' : List (List V)} (ho : H s = .row g false z es) (he : (es.drop lo).take n = es') : Kept H (.own s g lo n) (.sl z es') H

theorem Kept.frz {α : Type} {H H1 : Nat → Ob} {x : X} {v : V} (h : Kept H x v H1) {k : V → Ef α} {o : α} {H2 : Nat → Ob} (hk : ∃ a b, (k v).run H1 = some (o, H2, a, b)) : ∃ a b, (frz x k).run H = some (o, H2, a, b) := by
  obtain ⟨a, b, hk⟩ := hk
  cases h with
  | v => exact ⟨a, b, hk⟩
  | nil => exact ⟨a, b, hk⟩
  | @own s g lo n z es es' ho he => subst he; refine ⟨s :: a, s :: b, ?_⟩; simp only [Dv.frz, Ef.run, ho, if_true, hk]
  | @ownF s g lo n z es es' ho he => subst he; refine ⟨s :: a, b, ?_⟩; simp only [Dv.frz, Ef.run, ho, if_true, Bool.false_eq_true, if_false, hk]

inductive ResTo (L : Lite) (sl : Nat → X) : List ResultVar → (Nat → Ob) → List V → (Nat → Ob) → Prop
  | nil {H : Nat → Ob} : ResTo L sl [] H [] H
  | tmp {H H1 H2 : Nat → Ob} {t : Tmp} {v : V} {rs : List ResultVar} {vs : List V} {x : X} (hx : sl t = x) (hk : Kept H x v H1) (r : ResTo L sl rs H1 vs H2) : ResTo L sl (.tmp t :: rs) H (v :: vs) H2
  | cell1 {H H1 H2 : Nat → Ob} {a t : Nat} {s g off : Nat} {cs : List X} {T : TI} {x : X} {v : V} {rs : List ResultVar} {vs : List V} (hx : sl a = .addr s g off) (ho : H s = .box g cs) (ht : L.ti t = T) (hk : T.kd = 1) (hc : cs[off]? = some x) (hv : Kept H x v H1)
      (r : ResTo L sl rs H1 vs H2) : ResTo L sl (.cell a t :: rs) H (v :: vs) H2
  | cell2 {H H2 : Nat → Ob} {a t : Nat} {s g off : Nat} {cs : List X} {ys : List V} {T : TI} {rs : List ResultVar} {vs : List V} (hx : sl a = .addr s g off) (ho : H s = .box g cs) (ht : L.ti t = T) (hk : T.kd = 2) (hl : off + T.size ≤ cs.length) (hy : xvs ((cs.drop off).take T.size) = some ys)
      (r : ResTo L sl rs H vs H2) : ResTo L sl (.cell a t :: rs) H (.agg ys :: vs) H2

theorem ResTo.run {L : Lite} {sl : Nat → X} {rs : List ResultVar} {H H2 : Nat → Ob} {vs : List V} (h : ResTo L sl rs H vs H2) : ∀ (k : List V → Ef (List V)) {o : List V} {H3 : Nat → Ob}, (∃ a b, (k vs).run H2 = some (o, H3, a, b)) → ∃ a b, (resEf L sl rs k).run H = some (o, H3, a, b) := by
  induction h with
  | nil => intro k o H3 hk; exact hk
  | @tmp H H1 H2 t v rs vs x hx hk r ih =>
    intro k o H3 hk2
    rw [show resEf L sl (.tmp t :: rs) k = frz (sl t) fun v => resEf L sl rs fun vs => k (v :: vs) from rfl, hx]
    exact hk.frz (ih (fun vs => k (v :: vs)) hk2)
  | @cell1 H H1 H2 a t s g off cs T x v rs vs hx ho ht hk hc hv r ih =>
    intro k o H3 hk2
    obtain ⟨p, q, h⟩ := hv.frz (k := fun v => resEf L sl rs fun vs => k (v :: vs)) (ih (fun vs => k (v :: vs)) hk2)
    refine ⟨s :: p, q, ?_⟩
    have hk' : (L.ti t).kd = 1 := by rw [ht]; exact hk
    simp only [resEf, hx, Ef.run, ho, if_true, hk', show ¬ (1 : Nat) = 2 by decide, if_false, hc, ov, h]
  | @cell2 H H2 a t s g off cs ys T rs vs hx ho ht hk hl hy r ih =>
    intro k o H3 hk2
    obtain ⟨p, q, h⟩ := ih (fun vs => k (.agg ys :: vs)) hk2
    refine ⟨s :: p, q, ?_⟩
    have hk' : (L.ti t).kd = 2 := by rw [ht]; exact hk
    have hl' : off + (L.ti t).size ≤ cs.length := by rw [ht]; exact hl
    have hy' : xvs ((cs.drop off).take (L.ti t).size) = some ys := by rw [ht]; exact hy
    simp only [resEf, hx, Ef.run, ho, if_true, hk', hl', hy', ov, h]

theorem end_res {L : Lite} {n0 : Nat} {sl : Nat → X} {ob : Nat → Ob} {fn : Func} {rs : List ResultVar} {vs : List V} {H2 : Nat → Ob} {nc : Nat} {cs : List (List V)} (hr : fn.results.toList = rs) (h : ResTo L sl rs ob vs H2) (ho : outs H2 fn.ntmps nc = some cs) :
    endF L fn nc (.ret vs, cs) .ret ⟨n0, sl, ob⟩ := by
  obtain ⟨a, b, h⟩ := h.run .ret (o := vs) ⟨[], [], rfl⟩
  exact ⟨vs, H2, a, b, rfl, by rw [hr]; exact h, ho⟩
theorem end_resN {L : Lite} {n0 : Nat} {sl : Nat → X} {ob : Nat → Ob} {fn : Func} {rs : List ResultVar} {vs : List V} {H2 : Nat → Ob} {nc : Nat} {cs : List (List V)} (hr : fn.results.toList = rs) (h : ResTo L sl rs ob vs H2) (ho : outs H2 fn.ntmps nc = some cs) :
    endF L fn nc (.ret vs, cs) .normal ⟨n0, sl, ob⟩ := by
  obtain ⟨a, b, h⟩ := h.run .ret (o := vs) ⟨[], [], rfl⟩
  exact ⟨vs, H2, a, b, rfl, by rw [hr]; exact h, ho⟩

section
variable {L : Lite} {ext : Ext} {n0 : Nat} {sl : Nat → X} {ob : Nat → Ob} {d : Option Tmp} {ty : TypeId} {pos : String} {af : Array Edge} {gd : Option (Nat × Bool)}
/-- A nil slice that is stored takes its element's size from the type. -/
theorem a_storeN {t e : TypeId} {T E : TI} {x y : Operand} {s g off z : Nat} {cs : List X} (hx : (St.opd ⟨n0, sl, ob⟩) x = .addr s g off) (hy : (St.opd ⟨n0, sl, ob⟩) y = .nil z) (ho : ob s = .box g cs) (ht : L.ti t = T) (hk : T.kd = 1)
    (hl : T.size = 1) (hu : T.und = .slice e) (he : L.ti e = E) (hb : off < cs.length) : ActEv L ext ⟨d, .store t x y, ty, pos, af, gd⟩ ⟨n0, sl, ob⟩ .undef (upd ob s (.box g (cs.set off (.nil E.size)))) [s] [s] :=
  ⟨0, fun k _ => by simp [act, hx, hy, retype, actStore, ho, cellsX, cellX, ht, hk, hl, hu, he, Nat.succ_le_of_lt hb, ov, Ef.run, setRange]⟩
variable {t yt : TypeId} {x y : Operand} {k : IntKind} {a b : Nat}
theorem b_lss {p : Bool} (hx : (St.opd ⟨n0, sl, ob⟩) x = .v (.lit (.int k (a : Int)))) (hy : (St.opd ⟨n0, sl, ob⟩) y = .v (.lit (.int k (b : Int)))) (h : decide (a < b) = p) : ActEv L ext ⟨d, .binOp .lss t x y yt, ty, pos, af, gd⟩ ⟨n0, sl, ob⟩ (.v (.lit (.bool p))) ob [] [] := h ▸ n_lss hx hy
theorem b_leq {p : Bool} (hx : (St.opd ⟨n0, sl, ob⟩) x = .v (.lit (.int k (a : Int)))) (hy : (St.opd ⟨n0, sl, ob⟩) y = .v (.lit (.int k (b : Int)))) (h : decide (a ≤ b) = p) : ActEv L ext ⟨d, .binOp .leq t x y yt, ty, pos, af, gd⟩ ⟨n0, sl, ob⟩ (.v (.lit (.bool p))) ob [] [] := h ▸ n_leq hx hy
theorem b_gtr {p : Bool} (hx : (St.opd ⟨n0, sl, ob⟩) x = .v (.lit (.int k (a : Int)))) (hy : (St.opd ⟨n0, sl, ob⟩) y = .v (.lit (.int k (b : Int)))) (h : decide (a > b) = p) : ActEv L ext ⟨d, .binOp .gtr t x y yt, ty, pos, af, gd⟩ ⟨n0, sl, ob⟩ (.v (.lit (.bool p))) ob [] [] := h ▸ n_gtr hx hy
theorem b_geq {p : Bool} (hx : (St.opd ⟨n0, sl, ob⟩) x = .v (.lit (.int k (a : Int)))) (hy : (St.opd ⟨n0, sl, ob⟩) y = .v (.lit (.int k (b : Int)))) (h : decide (a ≥ b) = p) : ActEv L ext ⟨d, .binOp .geq t x y yt, ty, pos, af, gd⟩ ⟨n0, sl, ob⟩ (.v (.lit (.bool p))) ob [] [] := h ▸ n_geq hx hy
theorem b_eql {p : Bool} (hx : (St.opd ⟨n0, sl, ob⟩) x = .v (.lit (.int k (a : Int)))) (hy : (St.opd ⟨n0, sl, ob⟩) y = .v (.lit (.int k (b : Int)))) (h : decide (a = b) = p) : ActEv L ext ⟨d, .binOp .eql t x y yt, ty, pos, af, gd⟩ ⟨n0, sl, ob⟩ (.v (.lit (.bool p))) ob [] [] := h ▸ n_eql hx hy
theorem b_neq {p : Bool} (hx : (St.opd ⟨n0, sl, ob⟩) x = .v (.lit (.int k (a : Int)))) (hy : (St.opd ⟨n0, sl, ob⟩) y = .v (.lit (.int k (b : Int)))) (h : decide (a ≠ b) = p) : ActEv L ext ⟨d, .binOp .neq t x y yt, ty, pos, af, gd⟩ ⟨n0, sl, ob⟩ (.v (.lit (.bool p))) ob [] [] := h ▸ n_neq hx hy

theorem rowB_at {l : List Nat} {i : Nat} (h : i < l.length) : (rowB l)[i]? = some [byteV (l.getD i 0)] := by
  simp [rowB, List.getD_eq_getElem?_getD, List.getElem?_eq_getElem h]
theorem rowB_len (l : List Nat) : (rowB l).length = l.length := by simp [rowB]
end
end Go.Dv
