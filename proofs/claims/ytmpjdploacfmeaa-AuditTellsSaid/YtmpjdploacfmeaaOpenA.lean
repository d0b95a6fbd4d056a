/- How bytes that are sent, bytes that came, and times are opened. -/
import Derived.Test.YtmpjdploacfmeaaOpen
import Derived.Test.YtmpjdploacfmeaaAud3
import Derived.Lib.SmallJoins
namespace Go.Proofs.Ytmpjdploacfmeaa
set_option linter.unusedSimpArgs false
set_option linter.unusedVariables false
open Go.RowKit Go.ChangeShapes Go.WideShapes Go.Deep

section
variable {H : Type} {enc : TypeId × Value → H} {w : World} {base : Nat} {spare : Nat → Bool} {held : Bool}
theorem el_out (fuel : Nat) (cs : List Value) (x : DataW H × List MemPlace) (h : DataW.trod enc Try.prog w base spare held fuel 110 cs = some x) : ∃ y : Int × Int, cs = outc y ∧ 0 ≤ y.2 ∧ y.2 ≤ 255 := by
  obtain ⟨hl, n, hf⟩ := el_fields Try.underlying110 (by kernel_rfl) (by kernel_rfl) h
  obtain ⟨v0, y0, e0, t0⟩ := hf 0 _ rfl
  obtain ⟨v1, y1, e1, t1⟩ := hf 1 _ rfl
  obtain ⟨a0, g0, _, b0⟩ := DataW.trod_int Try.underlying3 t0
  obtain ⟨a1, g1, _, b1⟩ := DataW.trod_int Try.underlying5 t1
  injection g0 with g0; injection g1 with g1
  subst g0; subst g1
  refine ⟨(a0, a1), ?_, wf_u8 b1⟩
  match cs, hl with
  | [c0, c1], _ =>
    simp at e0 e1
    subst e0; subst e1
    rfl
theorem el_hd (fuel : Nat) (cs : List Value) (x : DataW H × List MemPlace) (h : DataW.trod enc Try.prog w base spare held fuel 124 cs = some x) : ∃ y : Hd, cs = hdc y ∧ True := by
  obtain ⟨hl, n, hf⟩ := el_fields Try.underlying124 (by kernel_rfl) (by kernel_rfl) h
  obtain ⟨v0, y0, e0, t0⟩ := hf 0 _ rfl
  obtain ⟨v1, y1, e1, t1⟩ := hf 1 _ rfl
  obtain ⟨v2, y2, e2, t2⟩ := hf 2 _ rfl
  obtain ⟨a0, g0, _, b0⟩ := DataW.trod_int Try.underlying3 t0
  obtain ⟨a1, g1, _, b1⟩ := DataW.trod_int Try.underlying5 t1
  obtain ⟨a2, g2, _⟩ := DataW.trod_bool Try.underlying4 t2
  injection g0 with g0; injection g1 with g1; injection g2 with g2
  subst g0; subst g1; subst g2
  refine ⟨⟨a0, a1, a2⟩, ?_, trivial⟩
  match cs, hl with
  | [c0, c1, c2], _ =>
    simp at e0 e1 e2
    subst e0; subst e1; subst e2
    rfl
end
set_option maxRecDepth 100000 in
theorem open_times {H : Type} {enc : TypeId × Value → H} {w : World} {base : Nat} {spare : Nat → Bool} {held : Bool} {r : Reach} {b0 : Nat} {v : Value} {d : DataW H} {p : List MemPlace}
    (h : DataW.Trod enc Try.prog w base spare held 63 v d p) (hv : Value.okWide Try.prog w r b0 63 v) : ∃ tc ts tl tt : Int, v = .agg #[.int .i64 tc, .int .i64 ts, .int .i64 tl, .int .i64 tt] := by
  obtain ⟨cs, rfl, hsz⟩ := okWide_struct Try.underlying63 hv
  obtain ⟨fuel, hf0⟩ := h
  obtain ⟨hl, n, hf⟩ := el_fields Try.underlying63 (by kernel_rfl) (by kernel_rfl) hf0
  obtain ⟨v0, y0, e0, t0⟩ := hf 0 _ rfl
  obtain ⟨v1, y1, e1, t1⟩ := hf 1 _ rfl
  obtain ⟨v2, y2, e2, t2⟩ := hf 2 _ rfl
  obtain ⟨v3, y3, e3, t3⟩ := hf 3 _ rfl
  obtain ⟨a0, g0, _, _⟩ := DataW.trod_int Try.underlying3 t0
  obtain ⟨a1, g1, _, _⟩ := DataW.trod_int Try.underlying3 t1
  obtain ⟨a2, g2, _, _⟩ := DataW.trod_int Try.underlying3 t2
  obtain ⟨a3, g3, _, _⟩ := DataW.trod_int Try.underlying3 t3
  injection g0 with g0; injection g1 with g1; injection g2 with g2; injection g3 with g3
  subst g0; subst g1; subst g2; subst g3
  refine ⟨a0, a1, a2, a3, ?_⟩
  obtain ⟨l⟩ := cs
  simp only [Value.cells] at hl e0 e1 e2 e3
  match l, hl with
  | [c0, c1, c2, c3], _ =>
    simp at e0 e1 e2 e3
    subst e0; subst e1; subst e2; subst e3
    rfl
end Go.Proofs.Ytmpjdploacfmeaa
