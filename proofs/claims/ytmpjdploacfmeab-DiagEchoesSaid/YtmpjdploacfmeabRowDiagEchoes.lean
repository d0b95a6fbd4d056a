/- The law DiagEchoes returns true at every slice of calls and all bytes: what is told has as many bytes as what was asked, and its number, but of 4; a question that only tells, or is refused, changes nothing. -/
import Derived.Test.YtmpjdploacfmeabDiag12
import Derived.Test.YtmpjdploacfmeabOpen3
import Derived.Test.YtmpjdploacfmeabOpen
import Derived.OpenShut
import Derived.ProofKit
namespace Go.Proofs.Ytmpjdploacfmeab.diagEchoes
set_option linter.unusedSimpArgs false
set_option linter.unusedVariables false
open Go.ChangeShapes Go.WideShapes Go.ChangeAt Go.RowKit Go.Deep
open Go.ChangeMaps (open_string shut_string)

theorem own : ownKnob Try.prog.godebug = none := by kernel_rfl
theorem laidOut : laidOutB Try.prog = true := by kernel_rfl
theorem el_opd {H : Type} {enc : TypeId × Value → H} {w : World} {base : Nat} {spare : Nat → Bool} {held : Bool} (fuel : Nat) (cs : List Value) (x : DataW H × List MemPlace) (h : DataW.trod enc Try.prog w base spare held fuel 28 cs = some x) : ∃ y : OpD, cs = y.cs ∧ y.ok w := by
  obtain ⟨hl, n, hf⟩ := el_fields Try.underlying28 (by kernel_rfl) (by kernel_rfl) h
  obtain ⟨v0, y0, e0, t0⟩ := hf 0 _ rfl
  obtain ⟨v1, y1, e1, t1⟩ := hf 1 _ rfl
  obtain ⟨v2, y2, e2, t2⟩ := hf 2 _ rfl
  obtain ⟨a0, g0, _, b0⟩ := DataW.trod_int Try.underlying3 t0
  obtain ⟨a1, g1, _, b1⟩ := DataW.trod_int Try.underlying3 t1
  obtain ⟨A, m, c, L, g2, hc, hm, hR, hP⟩ := bytes_of_trod Try.underlying23 Try.underlying5 (by kernel_rfl) t2
  injection g0 with g0; injection g1 with g1; injection g2 with g2
  subst g0; subst g1; subst g2
  refine ⟨⟨a0, a1, A, m, c, L⟩, ?_, hR, hP, hc, hm, wf_i64 b1⟩
  match cs, hl with
  | [c0, c1, c2], _ =>
    simp at e0 e1 e2
    subst e0; subst e1; subst e2
    rfl

set_option maxRecDepth 100000 in
theorem lifted (os : Os) (started : os.Started) (H : Type) (enc : TypeId × Value → H) :
    ReturnsInHanded {} Try.checked os 3 .any (Rows.diagEchoesSpec.pre6 enc Try.prog Try.f3 Rows.diagEchoesRow.domain false) (Rows.diagEchoesSpec.post enc Try.prog Try.f3 false true false false) := by
  refine returnsInHanded_of_change (C := Try.checked) own started (by kernel_rfl) Try.func3
    (ChangeSpec.witness6 (enc := enc) (C := Try.checked) false ⟨#[], #[.slice none 0 0, .slice none 0 0], []⟩ 8 (by kernel_rfl) (by kernel_rfl) (by kernel_rfl) (by kernel_rfl)) ?_
  intro W base args ds gs before hval0 hW _ _
  have hval : ∀ (j : Nat) t v, Try.f3.params[j]? = some t → args[j]? = some v → Value.okWide Try.prog W .any base t v := hval0
  have hW' := hW
  obtain ⟨p, q, hA0, hV, rfl, _, _⟩ := hW
  have hA : DataW.TrodAll enc Try.prog W 0 (fun _ => true) true Try.f3.params.toList args.toList ds p := hA0
  rw [Try.params3] at hA hval
  obtain ⟨v0, vs0, d0, ds0, p0, q0, hargs, rfl, rfl, h0, r0⟩ := trodAll_cons hA
  obtain ⟨v1, vs1, d1, ds1, p1, q1, rfl, rfl, rfl, h1, r1⟩ := trodAll_cons r0
  obtain ⟨rfl, rfl, rfl⟩ := trodAll_nil r1
  obtain rfl : args = #[v0, v1] := by cases args; simp_all
  obtain ⟨rfl, rfl⟩ := trodVars_none hV
  have k0 := h0
  have lt0 : ∀ x ∈ p0, x.block < W.heap.size := by obtain ⟨m, hm⟩ := k0; exact DataW.trod_lt m _ _ _ hm
  obtain ⟨A0, n0, c0, L0, rfl, hL0, hc0, hm0, hR0, hP0⟩ := open_list (size := 3) OpD.cs (OpD.ok W) (fun _ => rfl) (by decide) Try.underlying22 (by kernel_rfl) el_opd h0 (okWide_slice Try.underlying22 (hval 0 22 v0 rfl rfl))
  have k1 := h1
  have lt1 : ∀ x ∈ p1, x.block < W.heap.size := by obtain ⟨m, hm⟩ := k1; exact DataW.trod_lt m _ _ _ hm
  obtain ⟨A1, n1, c1, L1, rfl, hL1, hc1, hm1, hR1, hP1⟩ := open_list (size := 1) (fun y : Int => [Value.int .u8 y]) (fun y => 0 ≤ y ∧ y ≤ 255) (fun _ => rfl) (by decide) Try.underlying23 (by kernel_rfl) (fun fuel cs x h => by obtain ⟨y, hy, hw⟩ := el_int Try.underlying5 fuel cs x h; exact ⟨y, hy, wf_u8 hw⟩) h1 (okWide_slice Try.underlying23 (hval 1 23 v1 rfl rfl))
  rw [nums_flat] at hR1
  clear hA0 hval0
  refine (diagEchoes_any A0 n0 c0 L0 A1 n1 c1 L1 W hR0 hP0 (by omega) hR1 hP1 hc1 hm1).mono fun e W' ⟨he, hfr⟩ => ?_
  have bel := hfr.below
  subst he
  exact ⟨_, rfl, _, _, _, [], _, [], hW', trodAll_mk1 (shut_bool Try.underlying4 _), (trodAll_cons_mk (Below.trod laidOut (by kernel_rfl) (of_decide_eq_true (by kernel_rfl)) k0 bel lt0) (trodAll_cons_mk (Below.trod laidOut (by kernel_rfl) (of_decide_eq_true (by kernel_rfl)) k1 bel lt1) trodAll_mk0)), rfl, bel.frame _, fun h => by cases h⟩
theorem over : Rows.diagEchoesRow.holds Try.pinned (OpenSpec.ofChange Rows.diagEchoesSpec) :=
  OpenClaim.holds_of_wide 3 Try.f3 rfl rfl rfl rfl rfl rfl rfl ⟨rfl, rfl, rfl, rfl, rfl⟩ rfl rfl rfl rfl rfl (by kernel_rfl) Try.func3 (by kernel_rfl)
    (of_decide_eq_true (by kernel_rfl)) (by unfold Func.isWrapper; first | (rw [if_pos (by decide +kernel)]; kernel_rfl) | (rw [if_neg (by decide +kernel)]; exact ⟨rfl, rfl⟩))
    (fun os started H enc _ => lifted os started H enc)
end Go.Proofs.Ytmpjdploacfmeab.diagEchoes
namespace Go.Proofs.Ytmpjdploacfmeab
theorem diagEchoes_holds : Rows.DiagEchoesSaid := diagEchoes.over
#print axioms diagEchoes_holds
end Go.Proofs.Ytmpjdploacfmeab
