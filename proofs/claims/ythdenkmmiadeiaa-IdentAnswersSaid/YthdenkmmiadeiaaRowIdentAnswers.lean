/- The law IdentAnswers returns true at every slice of objects and all bytes: what is said of any objects, of whatever is asked, or the error, are as the document has them. -/
import Derived.Test.YthdenkmmiadeiaaIdAnswers
import Derived.Test.YthdenkmmiadeiaaOpen4
import Derived.Test.YthdenkmmiadeiaaOpen
import Derived.OpenShut
import Derived.ProofKit
namespace Go.Proofs.Ythdenkmmiadeiaa.identAnswers
set_option linter.unusedSimpArgs false
set_option linter.unusedVariables false
open Go.ChangeShapes Go.WideShapes Go.ChangeAt Go.RowKit Go.Deep
open Go.ChangeMaps (open_string shut_string)

theorem own : ownKnob Try.prog.godebug = none := by kernel_rfl
theorem laidOut : laidOutB Try.prog = true := by kernel_rfl

set_option maxRecDepth 100000 in
theorem lifted (os : Os) (started : os.Started) (H : Type) (enc : TypeId × Value → H) :
    ReturnsInHanded {} Try.checked os 4 .any (Rows.identAnswersSpec.pre6 enc Try.prog Try.f4 Rows.identAnswersRow.domain false) (Rows.identAnswersSpec.post enc Try.prog Try.f4 false true false false) := by
  refine returnsInHanded_of_change (C := Try.checked) own started (by kernel_rfl) Try.func4
    (ChangeSpec.witness6 (enc := enc) (C := Try.checked) false ⟨#[], #[.slice none 0 0, .slice none 0 0], []⟩ 8 (by kernel_rfl) (by kernel_rfl) (by kernel_rfl) (by kernel_rfl)) ?_
  intro W base args ds gs before hval0 hW _ _
  have hval : ∀ (j : Nat) t v, Try.f4.params[j]? = some t → args[j]? = some v → Value.okWide Try.prog W .any base t v := hval0
  have hW' := hW
  obtain ⟨p, q, hA0, hV, rfl, _, _⟩ := hW
  have hA : DataW.TrodAll enc Try.prog W 0 (fun _ => true) true Try.f4.params.toList args.toList ds p := hA0
  rw [Try.params4] at hA hval
  obtain ⟨v0, vs0, d0, ds0, p0, q0, hargs, rfl, rfl, h0, r0⟩ := trodAll_cons hA
  obtain ⟨v1, vs1, d1, ds1, p1, q1, rfl, rfl, rfl, h1, r1⟩ := trodAll_cons r0
  obtain ⟨rfl, rfl, rfl⟩ := trodAll_nil r1
  obtain rfl : args = #[v0, v1] := by cases args; simp_all
  obtain ⟨rfl, rfl⟩ := trodVars_none hV
  have k0 := h0
  have lt0 : ∀ x ∈ p0, x.block < W.heap.size := by obtain ⟨m, hm⟩ := k0; exact DataW.trod_lt m _ _ _ hm
  obtain ⟨A0, n0, c0, L0, rfl, hL0, hc0, hm0, hR0, hP0⟩ := open_list (size := 2) Ob.cs (Ob.ok8 W) (fun _ => rfl) (by decide) Try.underlying22 (by kernel_rfl) el_ob8 h0 (okWide_slice Try.underlying22 (hval 0 22 v0 rfl rfl))
  have k1 := h1
  have lt1 : ∀ x ∈ p1, x.block < W.heap.size := by obtain ⟨m, hm⟩ := k1; exact DataW.trod_lt m _ _ _ hm
  obtain ⟨A1, n1, c1, L1, rfl, hL1, hc1, hm1, hR1, hP1⟩ := open_list (size := 1) (fun y : Int => [Value.int .u8 y]) (fun y => 0 ≤ y ∧ y ≤ 255) (fun _ => rfl) (by decide) Try.underlying25 (by kernel_rfl) (fun fuel cs x h => by obtain ⟨y, hy, hw⟩ := el_int Try.underlying5 fuel cs x h; exact ⟨y, hy, wf_u8 hw⟩) h1 (okWide_slice Try.underlying25 (hval 1 25 v1 rfl rfl))
  rw [nums_flat] at hR1
  clear hA0 hval0
  refine (identAnswers_any A0 n0 c0 L0 A1 n1 c1 L1 W ⟨hR0, fun x hx => (hP0 x hx).1⟩ hc0 hm0 (fun x hx => (hP0 x hx).2) hR1 hP1 hc1 hm1).mono fun e W' ⟨he, hfr⟩ => ?_
  have bel := hfr.below
  subst he
  exact ⟨_, rfl, _, _, _, [], _, [], hW', trodAll_mk1 (shut_bool Try.underlying4 _), (trodAll_cons_mk (Below.trod laidOut (by kernel_rfl) (of_decide_eq_true (by kernel_rfl)) k0 bel lt0) (trodAll_cons_mk (Below.trod laidOut (by kernel_rfl) (of_decide_eq_true (by kernel_rfl)) k1 bel lt1) trodAll_mk0)), rfl, bel.frame _, fun h => by cases h⟩
theorem over : Rows.identAnswersRow.holds Try.pinned (OpenSpec.ofChange Rows.identAnswersSpec) :=
  OpenClaim.holds_of_wide 4 Try.f4 rfl rfl rfl rfl rfl rfl rfl ⟨rfl, rfl, rfl, rfl, rfl⟩ rfl rfl rfl rfl rfl (by kernel_rfl) Try.func4 (by kernel_rfl)
    (of_decide_eq_true (by kernel_rfl)) (by unfold Func.isWrapper; first | (rw [if_pos (by decide +kernel)]; kernel_rfl) | (rw [if_neg (by decide +kernel)]; exact ⟨rfl, rfl⟩))
    (fun os started H enc _ => lifted os started H enc)
end Go.Proofs.Ythdenkmmiadeiaa.identAnswers
namespace Go.Proofs.Ythdenkmmiadeiaa
theorem identAnswers_holds : Rows.IdentAnswersSaid := identAnswers.over
#print axioms identAnswers_holds
end Go.Proofs.Ythdenkmmiadeiaa
