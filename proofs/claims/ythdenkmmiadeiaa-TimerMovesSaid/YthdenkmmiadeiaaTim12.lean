/- Layer 6's own sure: what must come whatever the input is. -/
import Derived.Test.YthdenkmmiadeiaaTim11
import Derived.Test.YthdenkmmiadeiaaInts
namespace Go.Proofs.Ythdenkmmiadeiaa
set_option linter.unusedSimpArgs false
set_option linter.unusedVariables false
open Go.RowKit

set_option maxHeartbeats 1000000 in
set_option maxRecDepth 100000 in
theorem qset_nil (w : World) (id a : Int) : Calls Try.prog 35 #[.pointer none, .int .i64 id, .int .i64 a] w fun e w' => e = .returned (.int .i64 11) ∧ w = w' := by
  go_enter Try.func35, Try.ntmps35
  go_wp2_with fail
  refine (none_nil w).mono ?_
  rintro e w1 ⟨rfl, rfl⟩
  go_wp2_with fail
  go_ret
  exact ⟨rfl, rfl⟩
set_option maxHeartbeats 1000000 in
set_option maxRecDepth 100000 in
theorem qlen_nil (w : World) : Calls Try.prog 31 #[.pointer none] w fun e w' => e = .returned (.int .i64 0) ∧ w = w' := by
  go_enter Try.func31, Try.ntmps31
  go_wp2_with fail
  refine (none_nil w).mono ?_
  rintro e w1 ⟨rfl, rfl⟩
  go_wp2_with fail
  go_ret
  exact ⟨rfl, rfl⟩
set_option maxHeartbeats 1000000 in
set_option maxRecDepth 100000 in
theorem qdrop_nil (w : World) (id : Int) : Calls Try.prog 37 #[.pointer none, .int .i64 id] w fun e w' => e = .returned (.bool false) ∧ w = w' := by
  go_enter Try.func37, Try.ntmps37
  go_wp2_with fail
  refine (none_nil w).mono ?_
  rintro e w1 ⟨rfl, rfl⟩
  go_wp2_with fail
  go_ret
  exact ⟨rfl, rfl⟩
/-- A step of a queue in new memory leaves the old memory. -/
theorem QStep.old {w0 w w' : World} {g mb : Nat} {v : Value} {E : List Ent} {L L' : List Tm} (hf : Fr nob w0 w) (h : QS w w0.heap.size g mb v E L) (k : QStep w w0.heap.size g mb v E L' w') :
    ∃ v' E', QS w' w0.heap.size g mb v' E' L' ∧ Fr nob w0 w' := by
  obtain ⟨v', E', hq, hf2, _⟩ := k
  exact ⟨v', E', hq, hf.newer hf2 (fun i hi => h.ge hi)⟩

set_option maxHeartbeats 4000000 in
set_option maxRecDepth 100000 in
theorem timer_sure (w : World) : Calls Try.prog 28 #[] w fun e w' => e = .returned (.bool true) ∧ Fr nob w w' := by
  go_enter Try.func28, Try.ntmps28
  go_wp2_with fail
  refine (tnew_any w).mono ?_
  rintro e w1 ⟨rfl, hq1, hf1⟩
  obtain ⟨g, hg⟩ : ∃ g, g = w.heap.size + 1 := ⟨_, rfl⟩
  rw [← hg] at hq1 ⊢
  have hc1 := qset_any w1 _ g _ _ _ [] 3 9 hq1 (by unfold W64; decide)
  rw [show setErr [] 3 9 = 0 by decide, show setS [] 3 9 = [(3, 9)] by decide] at hc1
  have HC1 := Lib.hid hc1
  have HQ1 := Lib.hid hq1
  clear hc1 hq1 hg
  go_wp2_with fail
  refine HC1.out.mono ?_
  rintro e w2 ⟨rfl, hs2⟩
  obtain ⟨v2, E2, hq2, hf2⟩ := hs2.old hf1 HQ1.out
  have hc2 := qset_any w2 _ g _ v2 E2 _ 1 5 hq2 (by unfold W64; decide)
  rw [show setErr [(3, 9)] 1 5 = 0 by decide, show setS [(3, 9)] 1 5 = [(1, 5), (3, 9)] by decide] at hc2
  have HC2 := Lib.hid hc2
  have HQ2 := Lib.hid hq2
  clear hc2 hq2 hs2 hf1 HC1 HQ1
  go_wp2_with fail
  refine HC2.out.mono ?_
  rintro e w3 ⟨rfl, hs3⟩
  obtain ⟨v3, E3, hq3, hf3⟩ := hs3.old hf2 HQ2.out
  have hc3 := qset_any w3 _ g _ v3 E3 _ 2 5 hq3 (by unfold W64; decide)
  rw [show setErr [(1, 5), (3, 9)] 2 5 = 0 by decide, show setS [(1, 5), (3, 9)] 2 5 = [(1, 5), (2, 5), (3, 9)] by decide] at hc3
  have HC3 := Lib.hid hc3
  have HQ3 := Lib.hid hq3
  clear hc3 hq3 hs3 hf2 HC2 HQ2
  go_wp2_with fail
  refine HC3.out.mono ?_
  rintro e w4 ⟨rfl, hs4⟩
  obtain ⟨v4, E4, hq4, hf4⟩ := hs4.old hf3 HQ3.out
  have hc4 := tfirst_any w4 _ g _ v4 E4 _ hq4
  simp only [firstS] at hc4
  have HC4 := Lib.hid hc4
  have HQ4 := Lib.hid hq4
  clear hc4 hq4 hs4 hf3 HC3 HQ3
  go_wp2_with fail
  refine HC4.out.mono ?_
  rintro e w5 ⟨rfl, q5, rfl⟩
  have hq5 := HQ4.out.keep ((Fr.refl nob w4).drewN q5)
  have hf5 := hf4.drewN q5
  have hc5 := qdue_any (w4.drewN q5) _ g _ v4 E4 _ 8 hq5
  have HC5 := Lib.hid hc5
  have HQ5 := Lib.hid hq5
  clear hc5 hq5 HC4 HQ4
  go_wp2_with fail
  refine HC5.out.mono ?_
  rintro e w6 hd
  obtain ⟨A6, c6, rfl, hown6, hs6⟩ := hd
  rw [show dueS [(1, 5), (2, 5), (3, 9)] 8 = [(1, 5), (2, 5)] by decide] at hown6 ⊢
  rw [show restS [(1, 5), (2, 5), (3, 9)] 8 = [(3, 9)] by decide] at hs6
  obtain ⟨v6, E6, hq6, hf6⟩ := hs6.old hf5 HQ5.out
  have hrd : Rd w6 1 A6 2 (nums .i64 [1, 2]) := Rd.of_own hown6
  have HRD := Lib.hid hrd
  have HQ6 := Lib.hid hq6
  simp only [List.length_cons, List.length_nil, Nat.reduceAdd]
  clear hown6 hs6 hq6 HC5 HQ5 hrd
  go_wp2_with fail
  have hfa := (Fr.refl nob w6).alloc (.cells #[.int .i64 1, .int .i64 2] 3)
  refine (ints_any A6 (some ⟨w6.heap.size, 0, none⟩) 2 2 c6 2 [1, 2] [1, 2] _ (HRD.out.nob hfa) (Rd.of_blk (Blk.new w6 _ _) rfl (fun j u hu => by rw [Nat.zero_add]; simpa [nums] using hu)) (by omega) (by omega)).mono ?_
  rintro e w7 ⟨rfl, q7, rfl⟩
  rw [show sameInts [1, 2] [1, 2] = true by decide]
  have hf67 := hfa.drewN q7
  have hq7 := HQ6.out.keep hf67
  have hf7 := hf6.trans hf67 (fun _ _ h => h)
  have hc8 := qlen_any _ _ g _ v6 E6 _ hq7
  have HC8 := Lib.hid hc8
  have hc9 := qset_any _ _ g _ v6 E6 _ (-1) 0 hq7 (by unfold W64; decide)
  rw [show setErr [(3, 9)] (-1) 0 = 11 by decide] at hc9
  have HC9 := Lib.hid hc9
  have HQ7 := Lib.hid hq7
  clear hc8 hc9 hq7 HQ6 hfa hf67
  go_wp2_with fail
  refine HC8.out.mono ?_
  rintro e w8 ⟨rfl, rfl⟩
  go_wp2_with fail
  refine HC9.out.mono ?_
  rintro e w9 ⟨rfl, hs9⟩
  obtain ⟨v9, E9, hq9, hf9⟩ := hs9.old hf7 HQ7.out
  clear hs9 hq9
  go_wp2_with fail
  refine (qset_nil _ _ _).mono ?_
  rintro e w10 ⟨rfl, rfl⟩
  go_wp2_with fail
  refine (qlen_nil _).mono ?_
  rintro e w10 ⟨rfl, rfl⟩
  go_wp2_with fail
  refine (qdrop_nil _ _).mono ?_
  rintro e w10 ⟨rfl, rfl⟩
  go_wp2_with fail
  go_ret
  exact ⟨rfl, hf9⟩
end Go.Proofs.Ythdenkmmiadeiaa
