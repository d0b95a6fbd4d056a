/- How an argument that is a slice of objects is opened: their bytes are bytes. -/
import Derived.Test.YthdenkmmiadeiaaOpen3
import Derived.Test.YthdenkmmiadeiaaId4
namespace Go.Proofs.Ythdenkmmiadeiaa
set_option linter.unusedSimpArgs false
set_option linter.unusedVariables false
open Go.RowKit Go.ChangeShapes Go.WideShapes Go.Deep

def Ob.ok8 (w : World) (y : Ob) : Prop := y.ok w ∧ bytes8 y.d
theorem el_ob8 {H : Type} {enc : TypeId × Value → H} {w : World} {base : Nat} {spare : Nat → Bool} {held : Bool} (fuel : Nat) (cs : List Value) (x : DataW H × List MemPlace) (h : DataW.trod enc Try.prog w base spare held fuel 49 cs = some x) : ∃ y : Ob, cs = y.cs ∧ y.ok8 w := by
  obtain ⟨hl, n, hf⟩ := el_fields Try.underlying49 (by kernel_rfl) (by kernel_rfl) h
  obtain ⟨v0, y0, e0, t0⟩ := hf 0 _ rfl
  obtain ⟨v1, y1, e1, t1⟩ := hf 1 _ rfl
  obtain ⟨a0, g0, _, b0⟩ := DataW.trod_int Try.underlying3 t0
  obtain ⟨A, m, c, L, g1, hc, hm, hR, hP⟩ := bytes_of_trod Try.underlying25 Try.underlying5 (by kernel_rfl) t1
  injection g0 with g0
  injection g1 with g1
  subst g0
  subst g1
  refine ⟨⟨a0, A, m, c, L⟩, ?_, ⟨hR, hc, hm⟩, hP⟩
  match cs, hl with
  | [c0, c1], _ =>
    simp at e0 e1
    subst e0; subst e1
    rfl
end Go.Proofs.Ythdenkmmiadeiaa
