/- The law TimerDoes returns true at every slice of calls: whatever is set, dropped and due, each answer, what is due first, when any number is due, and how many are, are as the document has them. -/
import Derived.Test.YthdenkmmiadeiaaTimDoes
import Derived.Test.YthdenkmmiadeiaaOpen
import Derived.OpenShut
import Derived.ProofKit
namespace Go.Proofs.Ythdenkmmiadeiaa.timerDoes
set_option linter.unusedSimpArgs false
set_option linter.unusedVariables false
open Go.ChangeShapes Go.WideShapes Go.ChangeAt Go.RowKit Go.Deep
open Go.ChangeMaps (open_string shut_string)

theorem own : ownKnob Try.prog.godebug = none := by kernel_rfl
theorem laidOut : laidOutB Try.prog = true := by kernel_rfl
theorem el_op {H : Type} {enc : TypeId × Value → H} {w : World} {base : Nat} {spare : Nat → Bool} {held : Bool} (fuel : Nat) (cs : List Value) (x : DataW H × List MemPlace) (h : DataW.trod enc Try.prog w base spare held fuel 64 cs = some x) : ∃ y : Int × Int × Int, cs = opc y ∧ Op3 y := by
  obtain ⟨hl, n, hf⟩ := el_fields Try.underlying64 (by kernel_rfl) (by kernel_rfl) h
  obtain ⟨v0, y0, e0, t0⟩ := hf 0 _ rfl
  obtain ⟨v1, y1, e1, t1⟩ := hf 1 _ rfl
  obtain ⟨v2, y2, e2, t2⟩ := hf 2 _ rfl
  obtain ⟨a0, g0, _, b0⟩ := DataW.trod_int Try.underlying3 t0
  obtain ⟨a1, g1, _, b1⟩ := DataW.trod_int Try.underlying3 t1
  obtain ⟨a2, g2, _, b2⟩ := DataW.trod_int Try.underlying3 t2
  injection g0 with g0; injection g1 with g1; injection g2 with g2
  subst g0; subst g1; subst g2
  refine ⟨(a0, a1, a2), ?_, wf_i64 b0, wf_i64 b1, wf_i64 b2⟩
  match cs, hl with
  | [c0, c1, c2], _ =>
    simp at e0 e1 e2
    subst e0; subst e1; subst e2
    rfl

set_option maxRecDepth 100000 in
theorem lifted (os : Os) (started : os.Started) (H : Type) (enc : TypeId × Value → H) :
    ReturnsInHanded {} Try.checked os 8 .any (Rows.timerDoesSpec.pre6 enc Try.prog Try.f8 Rows.timerDoesRow.domain false) (Rows.timerDoesSpec.post enc Try.prog Try.f8 false true false false) := by
  refine returnsInHanded_of_change (C := Try.checked) own started (by kernel_rfl) Try.func8
    (ChangeSpec.witness6 (enc := enc) (C := Try.checked) false ⟨#[], #[.slice none 0 0], []⟩ 8 (by kernel_rfl) (by kernel_rfl) (by kernel_rfl) (by kernel_rfl)) ?_
  intro W base args ds gs before hval0 hW _ _
  have hval : ∀ (j : Nat) t v, Try.f8.params[j]? = some t → args[j]? = some v → Value.okWide Try.prog W .any base t v := hval0
  have hW' := hW
  obtain ⟨p, q, hA0, hV, rfl, _, _⟩ := hW
  have hA : DataW.TrodAll enc Try.prog W 0 (fun _ => true) true Try.f8.params.toList args.toList ds p := hA0
  rw [Try.params8] at hA hval
  obtain ⟨v0, vs0, d0, ds0, p0, q0, hargs, rfl, rfl, h0, r0⟩ := trodAll_cons hA
  obtain ⟨rfl, rfl, rfl⟩ := trodAll_nil r0
  obtain rfl : args = #[v0] := by cases args; simp_all
  obtain ⟨rfl, rfl⟩ := trodVars_none hV
  have k0 := h0
  have lt0 : ∀ x ∈ p0, x.block < W.heap.size := by obtain ⟨m, hm⟩ := k0; exact DataW.trod_lt m _ _ _ hm
  obtain ⟨A0, n0, c0, L0, rfl, hL0, hc0, hm0, hR0, hP0⟩ := open_list (size := 3) opc Op3 (fun _ => rfl) (by decide) Try.underlying57 (by kernel_rfl) el_op h0 (okWide_slice Try.underlying57 (hval 0 57 v0 rfl rfl))
  clear hA0 hval0
  refine (timerDoes_any A0 n0 c0 L0 W hR0 (fun x hx => w64_of (hP0 x hx).2.1) (by omega)).mono fun e W' ⟨he, hfr⟩ => ?_
  have bel := hfr.below
  subst he
  exact ⟨_, rfl, _, _, _, [], _, [], hW', trodAll_mk1 (shut_bool Try.underlying4 _), (trodAll_cons_mk (Below.trod laidOut (by kernel_rfl) (of_decide_eq_true (by kernel_rfl)) k0 bel lt0) trodAll_mk0), rfl, bel.frame _, fun h => by cases h⟩
theorem over : Rows.timerDoesRow.holds Try.pinned (OpenSpec.ofChange Rows.timerDoesSpec) :=
  OpenClaim.holds_of_wide 8 Try.f8 rfl rfl rfl rfl rfl rfl rfl ⟨rfl, rfl, rfl, rfl, rfl⟩ rfl rfl rfl rfl rfl (by kernel_rfl) Try.func8 (by kernel_rfl)
    (of_decide_eq_true (by kernel_rfl)) (by unfold Func.isWrapper; first | (rw [if_pos (by decide +kernel)]; kernel_rfl) | (rw [if_neg (by decide +kernel)]; exact ⟨rfl, rfl⟩))
    (fun os started H enc _ => lifted os started H enc)
end Go.Proofs.Ythdenkmmiadeiaa.timerDoes
namespace Go.Proofs.Ythdenkmmiadeiaa
theorem timerDoes_holds : Rows.TimerDoesSaid := timerDoes.over
#print axioms timerDoes_holds
end Go.Proofs.Ythdenkmmiadeiaa
