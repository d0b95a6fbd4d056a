/- How an argument that is a slice of objects is opened. -/
import Derived.Test.YtmpjdploacfmeaaOpen
import Derived.Test.YtmpjdploacfmeaaObj
namespace Go.Proofs.Ytmpjdploacfmeaa
open Go.RowKit Go.ChangeShapes Go.WideShapes Go.Deep

section
variable {H : Type} {enc : TypeId × Value → H} {P : Program} {w : World} {base : Nat} {spare : Nat → Bool} {held : Bool}
/-- A slice within an element. -/
theorem list_of_trod {α : Type} {t e : TypeId} {size : Nat} (f : α → List Value) (Pw : α → Prop) (hf : ∀ x, (f x).length = size) (hsz : 0 < size) (ht : P.underlying t = some (.slice e)) (hC : P.cellsOf e = size)
    (hel : ∀ (fuel : Nat) (cs : List Value) (x : DataW H × List MemPlace), DataW.trod enc P w base spare held fuel e cs = some x → ∃ y, cs = f y ∧ Pw y)
    {fuel : Nat} {cs : List Value} {x : DataW H × List MemPlace} (h : DataW.trod enc P w base spare held fuel t cs = some x) :
    ∃ A n c, ∃ L : List α, cs = [.slice A n c] ∧ L.length = n ∧ n ≤ c ∧ c ≤ 9223372036854775807 ∧ Rd w size A n (L.flatMap f) ∧ ∀ y ∈ L, Pw y := by
  obtain ⟨x1, x2⟩ := x
  rcases open_slice ht h with ⟨hcs, _⟩ | ⟨a, n, c, m, k, D, Pl, hcs, _, hl, hm, hmm, _, hi⟩
  · exact ⟨none, 0, 0, [], hcs, rfl, Nat.le_refl _, by omega, Rd.nil_ _ _ _, by simp⟩
  · have hlm : n ≤ m := by rw [hmm]; split <;> omega
    obtain ⟨L, hL, hP, hR⟩ := rd_of_each (w := w) f Pw hf hsz a n (fun i hin => by
      obtain ⟨cs', hc, ht'⟩ := hi i (by omega)
      obtain ⟨y, hy, hPy⟩ := hel _ _ _ ht'
      rw [hC] at hc
      obtain ⟨_, _, hat⟩ := World.cells?_some hc
      refine ⟨y, hPy, fun j u hu => ?_⟩
      have hj : j < size := by
        have := (List.getElem?_eq_some_iff.1 hu).1
        rwa [hf] at this
      have h2 := hat j hj
      rw [Go.Deep.add_add] at h2
      rw [h2, hy]
      exact hu)
    exact ⟨some a, n, c, L, hcs, hL, hl, by simpa [maxLen] using hm, hR, hP⟩
theorem nums_flat (k : IntKind) (l : List Int) : l.flatMap (fun y => [Value.int k y]) = nums k l := by
  induction l with
  | nil => rfl
  | cons x l ih => rw [List.flatMap_cons, ih]; rfl
end

theorem el_ob {H : Type} {enc : TypeId × Value → H} {w : World} {base : Nat} {spare : Nat → Bool} {held : Bool} (fuel : Nat) (cs : List Value) (x : DataW H × List MemPlace) (h : DataW.trod enc Try.prog w base spare held fuel 49 cs = some x) : ∃ y : Ob, cs = y.cs ∧ y.ok w := by
  obtain ⟨hl, n, hf⟩ := el_fields Try.underlying49 (by kernel_rfl) (by kernel_rfl) h
  obtain ⟨v0, y0, e0, t0⟩ := hf 0 _ rfl
  obtain ⟨v1, y1, e1, t1⟩ := hf 1 _ rfl
  obtain ⟨a0, g0, _, b0⟩ := DataW.trod_int Try.underlying3 t0
  obtain ⟨A, m, c, L, g1, hL, hc, hm, hR, _⟩ := list_of_trod (size := 1) (fun y : Int => [Value.int .u8 y]) (fun _ => True) (fun _ => rfl) (by omega) Try.underlying47 (by kernel_rfl) (fun fuel cs x h => by
    obtain ⟨y, hy, _⟩ := el_int Try.underlying5 fuel cs x h
    exact ⟨y, hy, trivial⟩) t1
  rw [nums_flat] at hR
  injection g0 with g0
  injection g1 with g1
  subst g0
  subst g1
  refine ⟨⟨a0, A, m, c, L⟩, ?_, hR, hc, hm⟩
  match cs, hl with
  | [c0, c1], _ =>
    simp at e0 e1
    subst e0; subst e1
    rfl
end Go.Proofs.Ytmpjdploacfmeaa
