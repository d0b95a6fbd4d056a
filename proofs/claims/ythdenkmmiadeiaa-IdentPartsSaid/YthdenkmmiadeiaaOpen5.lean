/- How an argument that is a part is opened. -/
import Derived.Test.YthdenkmmiadeiaaOpen4
import Derived.Lib.SmallJoins
namespace Go.Proofs.Ythdenkmmiadeiaa
set_option linter.unusedSimpArgs false
set_option linter.unusedVariables false
open Go.RowKit Go.ChangeShapes Go.WideShapes Go.Deep

set_option maxRecDepth 100000 in
theorem open_pt {H : Type} {enc : TypeId × Value → H} {w : World} {base : Nat} {spare : Nat → Bool} {held : Bool} {r : Reach} {b0 : Nat} {v : Value} {d : DataW H} {p : List MemPlace}
    (h : DataW.Trod enc Try.prog w base spare held 24 v d p) (hv : Value.okWide Try.prog w r b0 24 v) : ∃ y : Pt, v = y.val ∧ y.ok w ∧ ∀ x ∈ y.L, bytes8 x.d := by
  obtain ⟨cs, rfl, hsz⟩ := okWide_struct Try.underlying24 hv
  obtain ⟨fuel, hf0⟩ := h
  obtain ⟨hl, n, hf⟩ := el_fields Try.underlying24 (by kernel_rfl) (by kernel_rfl) hf0
  obtain ⟨v0, y0, e0, t0⟩ := hf 0 _ rfl
  obtain ⟨v1, y1, e1, t1⟩ := hf 1 _ rfl
  obtain ⟨v2, y2, e2, t2⟩ := hf 2 _ rfl
  obtain ⟨v3, y3, e3, t3⟩ := hf 3 _ rfl
  obtain ⟨v4, y4, e4, t4⟩ := hf 4 _ rfl
  obtain ⟨a0, g0, _, b0⟩ := DataW.trod_int Try.underlying3 t0
  obtain ⟨a1, g1, _, b1⟩ := DataW.trod_int Try.underlying3 t1
  obtain ⟨a2, g2, _⟩ := DataW.trod_bool Try.underlying4 t2
  obtain ⟨a3, g3, _, b3⟩ := DataW.trod_int Try.underlying3 t3
  obtain ⟨A, m, c, L, g4, hL, hc, hm, hR, hP⟩ := list_of_trod (size := 2) Ob.cs (Ob.ok8 w) (fun _ => rfl) (by omega) Try.underlying22 (by kernel_rfl) el_ob8 t4
  injection g0 with g0; injection g1 with g1; injection g2 with g2; injection g3 with g3; injection g4 with g4
  subst g0; subst g1; subst g2; subst g3; subst g4
  refine ⟨⟨a0, a1, a2, a3, A, m, c, L⟩, ?_, ⟨⟨hR, fun x hx => (hP x hx).1⟩, hc, hm⟩, fun x hx => (hP x hx).2⟩
  obtain ⟨l⟩ := cs
  simp only [Value.cells] at hl e0 e1 e2 e3 e4
  match l, hl with
  | [c0, c1, c2, c3, c4], _ =>
    simp at e0 e1 e2 e3 e4
    subst e0; subst e1; subst e2; subst e3; subst e4
    rfl
end Go.Proofs.Ythdenkmmiadeiaa
