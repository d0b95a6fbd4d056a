/- The law TimerOrder returns true at every two slices of numbers: numbers that are set are told once each, by their last times, in order, none ahead of its time, however often it is asked between. -/
import Derived.Test.YtmpjdploacfmeaaTimOrder
import Derived.Test.YtmpjdploacfmeaaOpen3
import Derived.Test.YtmpjdploacfmeaaOpen
import Derived.OpenShut
import Derived.ProofKit
namespace Go.Proofs.Ytmpjdploacfmeaa.timerOrder
set_option linter.unusedSimpArgs false
set_option linter.unusedVariables false
open Go.ChangeShapes Go.WideShapes Go.ChangeAt Go.RowKit Go.Deep
open Go.ChangeMaps (open_string shut_string)

theorem own : ownKnob Try.prog.godebug = none := by kernel_rfl
theorem laidOut : laidOutB Try.prog = true := by kernel_rfl

set_option maxRecDepth 100000 in
theorem lifted (os : Os) (started : os.Started) (H : Type) (enc : TypeId × Value → H) :
    ReturnsInHanded {} Try.checked os 6 .any (Rows.timerOrderSpec.pre6 enc Try.prog Try.f6 Rows.timerOrderRow.domain false) (Rows.timerOrderSpec.post enc Try.prog Try.f6 false true false false) := by
  refine returnsInHanded_of_change (C := Try.checked) own started (by kernel_rfl) Try.func6
    (ChangeSpec.witness6 (enc := enc) (C := Try.checked) false ⟨#[], #[.slice none 0 0, .slice none 0 0], []⟩ 8 (by kernel_rfl) (by kernel_rfl) (by kernel_rfl) (by kernel_rfl)) ?_
  intro W base args ds gs before hval0 hW _ _
  have hval : ∀ (j : Nat) t v, Try.f6.params[j]? = some t → args[j]? = some v → Value.okWide Try.prog W .any base t v := hval0
  have hW' := hW
  obtain ⟨p, q, hA0, hV, rfl, _, _⟩ := hW
  have hA : DataW.TrodAll enc Try.prog W 0 (fun _ => true) true Try.f6.params.toList args.toList ds p := hA0
  rw [Try.params6] at hA hval
  obtain ⟨v0, vs0, d0, ds0, p0, q0, hargs, rfl, rfl, h0, r0⟩ := trodAll_cons hA
  obtain ⟨v1, vs1, d1, ds1, p1, q1, rfl, rfl, rfl, h1, r1⟩ := trodAll_cons r0
  obtain ⟨rfl, rfl, rfl⟩ := trodAll_nil r1
  obtain rfl : args = #[v0, v1] := by cases args; simp_all
  obtain ⟨rfl, rfl⟩ := trodVars_none hV
  have k0 := h0
  have lt0 : ∀ x ∈ p0, x.block < W.heap.size := by obtain ⟨m, hm⟩ := k0; exact DataW.trod_lt m _ _ _ hm
  obtain ⟨A0, n0, c0, L0, rfl, hL0, hc0, hm0, hR0, hP0⟩ := open_list (size := 1) (fun y : Int => [Value.int .u16 y]) (fun y => 0 ≤ y ∧ y ≤ 65535) (fun _ => rfl) (by decide) Try.underlying39 (by kernel_rfl) (fun fuel cs x h => by obtain ⟨y, hy, hw⟩ := el_int Try.underlying31 fuel cs x h; exact ⟨y, hy, wf_u16 hw⟩) h0 (okWide_slice Try.underlying39 (hval 0 39 v0 rfl rfl))
  rw [nums_flat] at hR0
  have k1 := h1
  have lt1 : ∀ x ∈ p1, x.block < W.heap.size := by obtain ⟨m, hm⟩ := k1; exact DataW.trod_lt m _ _ _ hm
  obtain ⟨A1, n1, c1, L1, rfl, hL1, hc1, hm1, hR1, hP1⟩ := open_list (size := 1) (fun y : Int => [Value.int .u16 y]) (fun y => 0 ≤ y ∧ y ≤ 65535) (fun _ => rfl) (by decide) Try.underlying39 (by kernel_rfl) (fun fuel cs x h => by obtain ⟨y, hy, hw⟩ := el_int Try.underlying31 fuel cs x h; exact ⟨y, hy, wf_u16 hw⟩) h1 (okWide_slice Try.underlying39 (hval 1 39 v1 rfl rfl))
  rw [nums_flat] at hR1
  clear hA0 hval0
  refine (timerOrder_any A0 n0 c0 L0 A1 n1 c1 L1 W hR0 hP0 hR1 hP1 (by omega) (by omega)).mono fun e W' ⟨he, hfr⟩ => ?_
  have bel := hfr.below
  subst he
  exact ⟨_, rfl, _, _, _, [], _, [], hW', trodAll_mk1 (shut_bool Try.underlying4 _), (trodAll_cons_mk (Below.trod laidOut (by kernel_rfl) (of_decide_eq_true (by kernel_rfl)) k0 bel lt0) (trodAll_cons_mk (Below.trod laidOut (by kernel_rfl) (of_decide_eq_true (by kernel_rfl)) k1 bel lt1) trodAll_mk0)), rfl, bel.frame _, fun h => by cases h⟩
theorem over : Rows.timerOrderRow.holds Try.pinned (OpenSpec.ofChange Rows.timerOrderSpec) :=
  OpenClaim.holds_of_wide 6 Try.f6 rfl rfl rfl rfl rfl rfl rfl ⟨rfl, rfl, rfl, rfl, rfl⟩ rfl rfl rfl rfl rfl (by kernel_rfl) Try.func6 (by kernel_rfl)
    (of_decide_eq_true (by kernel_rfl)) (by unfold Func.isWrapper; first | (rw [if_pos (by decide +kernel)]; kernel_rfl) | (rw [if_neg (by decide +kernel)]; exact ⟨rfl, rfl⟩))
    (fun os started H enc _ => lifted os started H enc)
end Go.Proofs.Ytmpjdploacfmeaa.timerOrder
namespace Go.Proofs.Ytmpjdploacfmeaa
theorem timerOrder_holds : Rows.TimerOrderSaid := timerOrder.over
#print axioms timerOrder_holds
end Go.Proofs.Ytmpjdploacfmeaa
