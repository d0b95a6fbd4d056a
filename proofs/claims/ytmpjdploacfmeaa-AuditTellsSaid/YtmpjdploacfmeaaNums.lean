/- Numbers as cells; are two lists the same? No program is spoken of. -/
import Derived.Test.YtmpjdploacfmeaaBase2
namespace Go.Proofs.Ytmpjdploacfmeaa
set_option linter.unusedSimpArgs false
set_option linter.unusedVariables false
open Go.RowKit

/-- Numbers of a kind, as cells. -/
def nums (k : IntKind) (l : List Int) : List Value := l.map (Value.int k)
theorem nums_len (k : IntKind) (l : List Int) : (nums k l).length = l.length := by simp [nums]
theorem nums_at (k : IntKind) (l : List Int) (i : Nat) (h : i < l.length) : (nums k l)[i]? = some (.int k (l.getD i 0)) := by
  simp [nums, List.getElem?_map, List.getElem?_eq_getElem h]
theorem nums_app (k : IntKind) (a b : List Int) : nums k (a ++ b) = nums k a ++ nums k b := by simp [nums]
theorem nums_one (k : IntKind) (l : List Int) : ∀ u ∈ nums k l, u.oneCell' = true := by
  intro u hu
  obtain ⟨x, _, rfl⟩ := List.mem_map.1 hu
  rfl
theorem Rd.num {w : World} {k : IntKind} {A : Option Addr} {n : Nat} {l : List Int} (h : Rd w 1 A n (nums k l)) {i : Nat} (hi : i < n) : ∃ b o, A = some ⟨b, o, none⟩ ∧ b < w.heap.size ∧ w.cell? ⟨b, o + i, none⟩ = some (.int k (l.getD i 0)) := by
  obtain ⟨b, o, e, hb, u, hu, hc⟩ := h.at_ hi
  have hl : l.length = n := by have := h.len; rwa [nums_len] at this
  rw [nums_at k l i (by omega)] at hu
  injection hu with hu
  exact ⟨b, o, e, hb, by rw [hc, hu]⟩
theorem Rd.numlen {w : World} {k : IntKind} {A : Option Addr} {n : Nat} {l : List Int} (h : Rd w 1 A n (nums k l)) : l.length = n := by have := h.len; rwa [nums_len] at this

/-- Two lists part at a place, or are the same. -/
theorem getD_ne {la lb : List Int} {k : Nat} (h : la.getD k 0 ≠ lb.getD k 0) : la ≠ lb := fun e => h (by rw [e])
theorem eq_of_getD {la lb : List Int} (hl : la.length = lb.length) (h : ∀ k, k < la.length → la.getD k 0 = lb.getD k 0) : la = lb := by
  apply List.ext_getElem hl
  intro i h1 h2
  have := h i h1
  simpa [List.getD_eq_getElem?_getD, List.getElem?_eq_getElem h1, List.getElem?_eq_getElem h2] using this
def sameInts (a b : List Int) : Bool := decide (a = b)
theorem sameInts_len {a b : List Int} (h : a.length ≠ b.length) : sameInts a b = false := decide_eq_false fun e => h (by rw [e])
end Go.Proofs.Ytmpjdploacfmeaa
