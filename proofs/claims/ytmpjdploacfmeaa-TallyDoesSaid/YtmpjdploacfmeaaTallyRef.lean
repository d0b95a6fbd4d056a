/- Layer 8's document, walked. -/
import Derived.Test.YtmpjdploacfmeaaTallyLaw
import Derived.Test.YtmpjdploacfmeaaOpen
import Derived.Deep.RegionHeld3
import Derived.Deep.RegionWith
import Derived.Deep.DeepCutAuto
import Derived.Deep.CutBlock
namespace Go.Proofs.Ytmpjdploacfmeaa
open Go.RowKit

theorem addTo_len {c : List Int} (h : c.length = 8) (i n : Int) : (addTo c i n).length = 8 := by unfold addTo; split <;> simp [h]
theorem dropOf_len {c : List Int} (h : c.length = 8) (i : Int) : (dropOf c i).length = 8 := by unfold dropOf; split <;> simp [h]
/-- Eight words as cells. -/
def w8 (c : List Int) : Array Value := (nums .u16 c).toArray
theorem w8_lit (c0 c1 c2 c3 c4 c5 c6 c7 : Int) : w8 [c0, c1, c2, c3, c4, c5, c6, c7] = #[.int .u16 c0, .int .u16 c1, .int .u16 c2, .int .u16 c3, .int .u16 c4, .int .u16 c5, .int .u16 c6, .int .u16 c7] := rfl
theorem w8_at {c : List Int} (h : c.length = 8) (i : Nat) (hi : i < 8) : (w8 c)[i]? = some (.int .u16 (c.getD i 0)) := by
  unfold w8
  rw [List.getElem?_toArray]
  exact nums_at .u16 c i (by omega)
theorem w8_set (c : List Int) (i : Nat) (x : Int) : (w8 c).setIfInBounds i (.int .u16 x) = w8 (c.set i x) := by
  simp only [w8, nums, List.setIfInBounds_toArray, List.map_set]

set_option maxHeartbeats 1000000 in
theorem ref08_add (c0 c1 c2 c3 c4 c5 c6 c7 i n : Int) (w : World) (h : ∀ x ∈ [c0, c1, c2, c3, c4, c5, c6, c7], 0 ≤ x ∧ x < 65536) :
    Calls Try.prog 13 #[.agg #[.int .u16 c0, .int .u16 c1, .int .u16 c2, .int .u16 c3, .int .u16 c4, .int .u16 c5, .int .u16 c6, .int .u16 c7], .int .i64 i, .int .i64 n] w fun e w' =>
      e = .returned (.tuple #[.agg (w8 (addTo [c0, c1, c2, c3, c4, c5, c6, c7] i n)), .bool (addErr i n == 0)]) ∧ Fr nob w w' := by
  by_cases hok : 0 ≤ i ∧ i < 8 ∧ 0 ≤ n ∧ n ≤ 65536
  · have e1 : addTo [c0, c1, c2, c3, c4, c5, c6, c7] i n = [c0, c1, c2, c3, c4, c5, c6, c7].set i.toNat (([c0, c1, c2, c3, c4, c5, c6, c7].getD i.toNat 0 + n) % 65536) := by unfold addTo; rw [if_pos hok]
    have e2 : (addErr i n == 0) = true := by unfold addErr; rw [if_pos hok]; rfl
    rw [e1, e2]
    obtain ⟨h0, h1, h2, h3⟩ := hok
    clear e1 e2
    obtain ⟨b0, b1, b2, b3, b4, b5, b6, b7⟩ : (0 ≤ c0 ∧ c0 < 65536) ∧ (0 ≤ c1 ∧ c1 < 65536) ∧ (0 ≤ c2 ∧ c2 < 65536) ∧ (0 ≤ c3 ∧ c3 < 65536) ∧ (0 ≤ c4 ∧ c4 < 65536) ∧ (0 ≤ c5 ∧ c5 < 65536) ∧ (0 ≤ c6 ∧ c6 < 65536) ∧ (0 ≤ c7 ∧ c7 < 65536) := by
      refine ⟨h _ ?_, h _ ?_, h _ ?_, h _ ?_, h _ ?_, h _ ?_, h _ ?_, h _ ?_⟩ <;> simp
    clear h
    have hi : i = 0 ∨ i = 1 ∨ i = 2 ∨ i = 3 ∨ i = 4 ∨ i = 5 ∨ i = 6 ∨ i = 7 := by omega
    rcases hi with rfl | rfl | rfl | rfl | rfl | rfl | rfl | rfl
    all_goals
      simp only [Int.toNat_zero, Int.toNat_one, Int.reduceToNat, List.getD_cons_zero, List.getD_cons_succ, List.set_cons_zero, List.set_cons_succ]
      rw [w8_lit]
      go_enter Try.func13, Try.ntmps13
      go_wp2
      exact bodyPost_ret (v := .tuple #[.agg _, .bool true]) (by simp [results, Try.results13, go_sem]) rfl ⟨rfl, ((Fr.refl _ _).alloc _).alloc _⟩
  · have e1 : addTo [c0, c1, c2, c3, c4, c5, c6, c7] i n = [c0, c1, c2, c3, c4, c5, c6, c7] := by unfold addTo; rw [if_neg hok]
    have e2 : (addErr i n == 0) = false := by unfold addErr; rw [if_neg hok]; rfl
    rw [e1, e2, w8_lit]
    clear e1 e2 h
    have hc : i < 0 ∨ 8 ≤ i ∨ (0 ≤ i ∧ i < 8 ∧ n < 0) ∨ (0 ≤ i ∧ i < 8 ∧ 0 ≤ n ∧ 65536 < n) := by omega
    clear hok
    rcases hc with hc | hc | ⟨g0, g1, g2⟩ | ⟨g0, g1, g2, g3⟩
    all_goals
      go_enter Try.func13, Try.ntmps13
      go_wp2
      exact bodyPost_ret (v := .tuple #[.agg #[.int .u16 c0, .int .u16 c1, .int .u16 c2, .int .u16 c3, .int .u16 c4, .int .u16 c5, .int .u16 c6, .int .u16 c7], .bool false]) (by simp [results, Try.results13, go_sem]) rfl ⟨rfl, ((Fr.refl _ _).alloc _).alloc _⟩
end Go.Proofs.Ytmpjdploacfmeaa
