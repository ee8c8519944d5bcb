/-
  What is proved here: the given statement of the law BytesetAll, as a tied card: whatever the input, the law returns true and leaves its arguments as they were. Conditions: none beyond the statement's own.
-/
import Derived.Test.YtgjochaacmkpaaaDoorWalkA
namespace Go.Proofs.YtgjochaacmkpaaaDoor
open Go Go.Dv

open Go.ChangeShapes Go.WideShapes Go.ChangeAt Go.RowKit

theorem law3 (ys : List V) (h : TypedAll Tryd.prog Tryd.f3.params.toList ys) : FnEv tab ext 3 (ys.map X.v) [] (.ret [.lit (.bool true)], []) := by
  match ys, h with
  | [x, y], ⟨h1, h2, _⟩ =>
    obtain ⟨W, hW, rfl⟩ := typed_set h1
    obtain ⟨b, hb, rfl⟩ := typed_u8 h2
    exact ev3 hW hb

set_option maxRecDepth 100000 in
theorem bytesetAll_lifted (os : Os) (started : os.Started) (H : Type) (enc : TypeId × Value → H) :
    ReturnsInHanded {} Tryd.checked os 3 .any (fun w args => (Rows.bytesetAllSpec.pre enc Tryd.prog Tryd.f3 [] false w args ∧ laidMetH Tryd.prog laidT w) ∧ sizedMet enc Tryd.prog Tryd.f3 (OpenSpec.ofChange Rows.bytesetAllSpec) false w args)
      (Rows.bytesetAllSpec.post enc Tryd.prog Tryd.f3 false true false false) := by
  refine returnsInHanded_of_change_and (C := Tryd.checked) (X := fun w _ => laidMetH Tryd.prog laidT w) (fun _ _ _ hh h => h.of_heap hh) own started (by kernel_rfl) Tryd.func3
    (ChangeSpec.witness_shaped (enc := enc) (C := Tryd.checked) (os := os) (X := fun w _ => laidMetH Tryd.prog laidT w) false (World.doorLaid Tryd.prog 400 os) #[.agg #[.int .u64 0, .int .u64 0, .int .u64 0, .int .u64 0], .int .u8 0] 8 rfl (World.shaped_of_RefB (by kernel_rfl) (by kernel_rfl)) (by kernel_rfl) (by kernel_rfl) (by kernel_rfl) (door_met os _)) ?_
  intro W base args ds gs before hval0 hW _ _ hL _
  exact law_calls tabOk extOk laidOut fn3 plain (by kernel_rfl) (bt := 4) rfl (by kernel_rfl) law3 (fun ds hd => by
    match ds, hd with
    | [d0, d1], _ => rfl) rfl hval0 hW (tab_at hL)

theorem bytesetAll_row : Rows.BytesetAllSaid :=
  OpenClaim.holds_of_wide 3 Tryd.f3 rfl rfl rfl rfl rfl rfl rfl ⟨rfl, rfl, rfl, rfl, rfl⟩ rfl rfl rfl rfl rfl (by kernel_rfl) Tryd.func3 (by kernel_rfl)
    (of_decide_eq_true (by kernel_rfl)) (by unfold Func.isWrapper; first | (rw [if_pos (by decide +kernel)]; kernel_rfl) | (rw [if_neg (by decide +kernel)]; exact ⟨rfl, rfl⟩))
    (fun os started H enc _ => bytesetAll_lifted os started H enc)

theorem bytesetAll_holds : Rows.BytesetAllCardSaid :=
  Claim7.holds_tied_plain_at .later [] [.data] true (true, "ee96e36dd393753a88bc655e3b90dd7d04e9f962525a81dd6e561930fd46de44") false
    bytesetAll_row (fun _ h => by cases h) (by kernel_rfl) (fun _ h => by cases h) bytesetAll_row_tie rfl ⟨rfl, rfl⟩ (by kernel_rfl) rfl
    (fun f fn hf hfn => by
      obtain rfl : f = 3 := Option.some.inj ((show Tryd.prog.funcNamed "emendate/emendatelaw07.BytesetAll" = some 3 by kernel_rfl).symm.trans hf) |>.symm
      obtain rfl : fn = Tryd.f3 := (Option.some.inj (Tryd.func3.symm.trans hfn)).symm
      exact ⟨by kernel_rfl, fun j t ht => by
        rw [Tryd.params3] at ht
        have hm : t ∈ [24, 5] := by simpa using Array.mem_of_getElem? ht
        have hall : ([24, 5].all fun u => !Tryd.prog.wantsStandIn u) = true := by kernel_rfl
        exact (show Tryd.prog.wantsStandIn t = false by simpa using List.all_eq_true.1 hall t hm)⟩)
    (by kernel_rfl)

end Go.Proofs.YtgjochaacmkpaaaDoor
