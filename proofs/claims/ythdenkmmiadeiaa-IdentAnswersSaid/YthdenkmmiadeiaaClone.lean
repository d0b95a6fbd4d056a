/- Contract of slices.Clone of bytes. -/
import Derived.Test.YthdenkmmiadeiaaRows
import Derived.Test.YthdenkmmiadeiaaNums
import Derived.Test.YthdenkmmiadeiaaOwn
import Derived.Lib.SliceRun
namespace Go.Proofs.Ythdenkmmiadeiaa
set_option linter.unusedSimpArgs false
set_option linter.unusedVariables false
open Go.RowKit

set_option maxHeartbeats 400000 in
set_option maxRecDepth 100000 in
/-- slices.Clone of bytes. -/
theorem clone_bytes (A : Option Addr) (n c : Nat) (d : List Int) (w : World) (hr : Rd w 1 A n (nums .u8 d)) (hc : n ≤ c) (hn : n ≤ 100000) :
    Calls Try.prog 97 #[.slice A n c] w fun e w' => ∃ A' c', e = .returned (.slice A' n c') ∧ w'.ownsRow w.heap.size 5 1 (.slice A' n c') n (nums .u8 d) ∧ Fr nob w w' := by
  have q : ∀ (w : World) (a : Option Addr) (n c n' c' : Nat), (binOp .eql 25 (.slice a n c) (.slice none n' c')).run Try.prog w = .ok (.bool a.isNone) w := fun w a n c n' c' => Lib.run_eql_slice_nil w _ _ a n c n' c' Try.underlying25
  rcases A with _ | ad
  · have h0 : n = 0 := by
      rcases Nat.eq_zero_or_pos n with h0 | h0
      · exact h0
      · obtain ⟨b, o', e, _⟩ := hr.2 h0
        cases e
    subst h0
    have hy : nums .u8 d = [] := List.eq_nil_of_length_eq_zero (by simpa using hr.1)
    rw [hy]
    go_enter Try.func97, Try.ntmps97
    go_wp2
    go_ret
    exact ⟨none, 0, rfl, World.ownsRow_nil _ _ _ _, Fr.refl _ _⟩
  · have hown : (w.alloc (.cells #[] 5)).ownsRow w.heap.size 5 1 (.slice (some ⟨w.heap.size, 0, none⟩) 0 0) 0 [] :=
      ⟨rfl, .inr ⟨w.heap.size, 0, #[], rfl, Nat.le_refl _, heap_alloc_new w _, Nat.le_refl _, by decide, rfl, rfl⟩⟩
    have hr1 := hr.alloc (.cells #[] 5)
    go_enter Try.func97, Try.ntmps97
    go_wp2_with (at_builtin; (refine app_row (P := Try.prog) (W := w.alloc (.cells #[] 5)) w.heap.size rfl _ _ _ 5 (Value.int .u8 0) 1 1 rfl Try.underlying25 (by kernel_rfl) rfl (by omega) _ 0 [] (some ad) n c (nums .u8 d) rfl rfl (nums_one _ _) hown hr1 (by simp) (by omega) (by omega) ?_); intro v1 w1 hown1 hg1 hat1)
    go_ret
    have hown2 : w1.ownsRow w.heap.size 5 1 v1 n (nums .u8 d) := by simpa using hown1
    obtain ⟨A', c', rfl, _⟩ := own_form hown2
    exact ⟨A', c', rfl, hown2, ((Fr.refl nob w).alloc _).grown hg1 (fun k hk => by cases hk; exact .inr (Nat.le_refl _))⟩
end Go.Proofs.Ythdenkmmiadeiaa
