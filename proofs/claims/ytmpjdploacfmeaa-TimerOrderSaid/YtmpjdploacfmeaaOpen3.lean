/- How a slice within an element is opened. No program is spoken of. -/
import Derived.Test.YtmpjdploacfmeaaOpen
import Derived.Test.YtmpjdploacfmeaaNums
namespace Go.Proofs.Ytmpjdploacfmeaa
set_option linter.unusedSimpArgs false
set_option linter.unusedVariables false
open Go.RowKit Go.ChangeShapes Go.WideShapes Go.Deep

section
variable {H : Type} {enc : TypeId × Value → H} {P : Program} {w : World} {base : Nat} {spare : Nat → Bool} {held : Bool}
/-- A slice within an element. -/
theorem list_of_trod {α : Type} {t e : TypeId} {size : Nat} (f : α → List Value) (Pw : α → Prop) (hf : ∀ x, (f x).length = size) (hsz : 0 < size) (ht : P.underlying t = some (.slice e)) (hC : P.cellsOf e = size)
    (hel : ∀ (fuel : Nat) (cs : List Value) (x : DataW H × List MemPlace), DataW.trod enc P w base spare held fuel e cs = some x → ∃ y, cs = f y ∧ Pw y)
    {fuel : Nat} {cs : List Value} {x : DataW H × List MemPlace} (h : DataW.trod enc P w base spare held fuel t cs = some x) :
    ∃ A n c, ∃ L : List α, cs = [.slice A n c] ∧ L.length = n ∧ n ≤ c ∧ c ≤ 9223372036854775807 ∧ Rd w size A n (L.flatMap f) ∧ ∀ y ∈ L, Pw y := by
  obtain ⟨x1, x2⟩ := x
  rcases open_slice ht h with ⟨hcs, _⟩ | ⟨a, n, c, m, k, D, Pl, hcs, _, hl, hm, hmm, _, hi⟩
  · exact ⟨none, 0, 0, [], hcs, rfl, Nat.le_refl _, by omega, Rd.nil_ _ _ _, by simp⟩
  · have hlm : n ≤ m := by rw [hmm]; split <;> omega
    obtain ⟨L, hL, hP, hR⟩ := rd_of_each (w := w) f Pw hf hsz a n (fun i hin => by
      obtain ⟨cs', hc, ht'⟩ := hi i (by omega)
      obtain ⟨y, hy, hPy⟩ := hel _ _ _ ht'
      rw [hC] at hc
      obtain ⟨_, _, hat⟩ := World.cells?_some hc
      refine ⟨y, hPy, fun j u hu => ?_⟩
      have hj : j < size := by
        have := (List.getElem?_eq_some_iff.1 hu).1
        rwa [hf] at this
      have h2 := hat j hj
      rw [Go.Deep.add_add] at h2
      rw [h2, hy]
      exact hu)
    exact ⟨some a, n, c, L, hcs, hL, hl, by simpa [maxLen] using hm, hR, hP⟩
theorem nums_flat (k : IntKind) (l : List Int) : l.flatMap (fun y => [Value.int k y]) = nums k l := by
  induction l with
  | nil => rfl
  | cons x l ih => rw [List.flatMap_cons, ih]; rfl
/-- Bytes within an element. -/
theorem bytes_of_trod {t e : TypeId} (ht : P.underlying t = some (.slice e)) (he : P.underlying e = some (.int .u8)) (hC : P.cellsOf e = 1) {fuel : Nat} {cs : List Value} {x : DataW H × List MemPlace} (h : DataW.trod enc P w base spare held fuel t cs = some x) :
    ∃ A n c, ∃ L : List Int, cs = [.slice A n c] ∧ n ≤ c ∧ c ≤ 9223372036854775807 ∧ Rd w 1 A n (nums .u8 L) ∧ ∀ y ∈ L, 0 ≤ y ∧ y ≤ 255 := by
  obtain ⟨A, n, c, L, g1, _, hc, hm, hR, hP⟩ := list_of_trod (size := 1) (fun y : Int => [Value.int .u8 y]) (fun y => 0 ≤ y ∧ y ≤ 255) (fun _ => rfl) (by omega) ht hC (fun fuel cs x h => by
    obtain ⟨y, hy, hw⟩ := el_int he fuel cs x h
    exact ⟨y, hy, wf_u8 hw⟩) h
  rw [nums_flat] at hR
  exact ⟨A, n, c, L, g1, hc, hm, hR, hP⟩
end
end Go.Proofs.Ytmpjdploacfmeaa
