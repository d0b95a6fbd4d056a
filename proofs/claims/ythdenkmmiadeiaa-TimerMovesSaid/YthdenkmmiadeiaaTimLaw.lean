/- Plain laws of timers for the theorem of stage 6. -/
import Derived.Test.YthdenkmmiadeiaaTim11
namespace Go.Proofs.Ythdenkmmiadeiaa
set_option linter.unusedSimpArgs false
set_option linter.unusedVariables false
open Go.RowKit

theorem w64_of {n : Int} (h : -9223372036854775808 ≤ n ∧ n ≤ 9223372036854775807) : W64 n := by
  have hmin : IntKind.i64.min = -9223372036854775808 := rfl
  have hmax : IntKind.i64.max = 9223372036854775807 := rfl
  simp only [W64, Lit.wf, Bool.and_eq_true, decide_eq_true_eq]; omega
theorem put_mem {L : List Tm} {id a : Int} {x : Tm} : x ∈ putS L id a ↔ x = (id, a) ∨ (x ∈ L ∧ x.1 ≠ id) := by
  rw [putS, (ins_perm _ _).mem_iff, List.mem_cons, drop_mem]
/-- The first k numbers stand, each at its time. -/
def Upto (la : List Int) (k : Nat) (L : List Tm) : Prop := Good L ∧ L.length = k ∧ ∀ x, x ∈ L ↔ ∃ j : Nat, j < k ∧ x = ((j : Int), la.getD j 0)
theorem upto_zero (la : List Int) : Upto la 0 [] := ⟨⟨List.Pairwise.nil, List.nodup_nil⟩, rfl, fun x => by simp⟩
theorem upto_one {la : List Int} {k : Nat} {L : List Tm} (h : Upto la k L) (hk : k < 256) {a : Int} (ha : 0 ≤ a ∧ a ≤ 65535) : setErr L k a = 0 ∧ setS L k a = putS L k a ∧ Good (putS L k a) ∧ (putS L k a).length = k + 1 ∧ (∀ x, x ∈ putS L k a ↔ x = ((k : Int), a) ∨ ∃ j : Nat, j < k ∧ x = ((j : Int), la.getD j 0)) := by
  obtain ⟨hg, hl, hm⟩ := h
  have hno : hasS L k = false := Bool.eq_false_iff.2 fun hh => by
    obtain ⟨x, hx, he⟩ := has_iff.1 hh
    obtain ⟨j, hj, rfl⟩ := (hm x).1 hx
    dsimp only at he
    omega
  have he : setErr L k a = 0 := by
    rw [setErr, if_neg (by omega), if_neg (by omega)]
  refine ⟨he, by rw [setS, if_pos he], put_good hg _ _, by rw [put_len hg, hno]; simp; exact hl, fun x => ?_⟩
  rw [put_mem, hm x]
  constructor
  · rintro (h1 | ⟨h1, _⟩)
    · exact .inl h1
    · exact .inr h1
  · rintro (h1 | ⟨j, hj, rfl⟩)
    · exact .inl h1
    · exact .inr ⟨⟨j, hj, rfl⟩, by dsimp only; omega⟩
theorem upto_two {la : List Int} {k : Nat} {L : List Tm} (hg : Good L) (hl : L.length = k + 1) {a0 : Int} (hm : ∀ x, x ∈ L ↔ x = ((k : Int), a0) ∨ ∃ j : Nat, j < k ∧ x = ((j : Int), la.getD j 0)) (hk : k < 256) (ha : 0 ≤ la.getD k 0 ∧ la.getD k 0 ≤ 65535) :
    setErr L k (la.getD k 0) = 0 ∧ Upto la (k + 1) (setS L k (la.getD k 0)) := by
  have hyes : hasS L k = true := has_iff.2 ⟨((k : Int), a0), (hm _).2 (.inl rfl), rfl⟩
  have he : setErr L k (la.getD k 0) = 0 := by
    rw [setErr, if_neg (by omega), if_neg (by rw [hyes]; simp)]
  refine ⟨he, ?_⟩
  rw [setS, if_pos he]
  refine ⟨put_good hg _ _, by rw [put_len hg, hyes]; simpa using hl, fun x => ?_⟩
  rw [put_mem, hm x]
  constructor
  · rintro (h1 | ⟨h1 | ⟨j, hj, h1⟩, h2⟩)
    · exact ⟨k, by omega, h1⟩
    · rw [h1] at h2; exact absurd rfl h2
    · exact ⟨j, by omega, h1⟩
  · rintro ⟨j, hj, rfl⟩
    by_cases h : j = k
    · subst h; exact .inl rfl
    · exact .inr ⟨.inr ⟨j, by omega, rfl⟩, by dsimp only; omega⟩
theorem due_cut (now : Int) : ∀ (L : List Tm), dueS L now = L.take (dueS L now).length ∧ restS L now = L.drop (dueS L now).length
  | [] => ⟨rfl, rfl⟩
  | x :: r => by
    obtain ⟨h1, h2⟩ := due_cut now r
    by_cases h : x.2 ≤ now
    · have e1 : dueS (x :: r) now = x :: dueS r now := by rw [dueS, List.takeWhile_cons, decide_eq_true h]; rfl
      have e2 : restS (x :: r) now = restS r now := by rw [restS, List.dropWhile_cons, decide_eq_true h]; rfl
      rw [e1, e2, List.length_cons, List.take_succ_cons, List.drop_succ_cons, ← h1, ← h2]
      exact ⟨rfl, rfl⟩
    · have e1 : dueS (x :: r) now = [] := by rw [dueS, List.takeWhile_cons, decide_eq_false h]; rfl
      have e2 : restS (x :: r) now = x :: r := by rw [restS, List.dropWhile_cons, decide_eq_false h]; rfl
      rw [e1, e2]
      exact ⟨rfl, rfl⟩
theorem due_le {L : List Tm} {now : Int} : ∀ x ∈ dueS L now, x.2 ≤ now := fun x hx => by
  have h : ∀ (L : List Tm), x ∈ dueS L now → x.2 ≤ now := by
    intro L
    induction L with
    | nil => intro h; simp [dueS] at h
    | cons y r ih =>
      intro h
      rw [dueS, List.takeWhile_cons] at h
      by_cases hy : y.2 ≤ now
      · rw [decide_eq_true hy] at h
        rcases List.mem_cons.1 h with rfl | h
        · exact hy
        · exact ih h
      · rw [decide_eq_false hy] at h
        simp at h
  exact h L hx
theorem rest_gt {now : Int} : ∀ (L : List Tm), L.Pairwise ltK → ∀ x ∈ restS L now, now < x.2
  | [], _, x, hx => by simp [restS] at hx
  | y :: r, h, x, hx => by
    rw [List.pairwise_cons] at h
    rw [restS, List.dropWhile_cons] at hx
    by_cases hy : y.2 ≤ now
    · rw [decide_eq_true hy] at hx
      exact rest_gt r h.2 x hx
    · rw [decide_eq_false hy] at hx
      simp only [Bool.false_eq_true, if_false] at hx
      rcases List.mem_cons.1 hx with rfl | hx
      · omega
      · have := h.1 x hx
        unfold ltK at this
        omega
theorem good_drop {L : List Tm} (h : Good L) (k : Nat) : Good (L.drop k) :=
  ⟨h.1.sublist (List.drop_sublist _ _), ((List.drop_sublist k L).map _).nodup h.2⟩
theorem has_drop {L : List Tm} (hg : Good L) {r : Nat} {x : Tm} (hx : L[r]? = some x) (j : Int) : hasS (L.drop (r + 1)) j = (hasS (L.drop r) j && (j != x.1)) := by
  obtain ⟨h1, h2⟩ := List.getElem?_eq_some_iff.1 hx
  have hd : L.drop r = x :: L.drop (r + 1) := by rw [List.drop_eq_getElem_cons h1, h2]
  have hgd := good_drop hg r
  rw [hd] at hgd ⊢
  have hn := hgd.2
  rw [List.map_cons, List.nodup_cons] at hn
  by_cases hj : j = x.1
  · subst hj
    rw [bne_self_eq_false, Bool.and_false]
    refine Bool.eq_false_iff.2 fun hh => ?_
    obtain ⟨y, hy, he⟩ := has_iff.1 hh
    exact hn.1 (List.mem_map.2 ⟨y, hy, he⟩)
  · have : (j != x.1) = true := by rw [bne_iff_ne]; exact hj
    rw [this, Bool.and_true]
    simp only [hasS, List.any_cons]
    have : (x.1 == j) = false := by rw [beq_eq_false_iff_ne]; exact fun e => hj e.symm
    rw [this, Bool.false_or]
/-- Which of the first n numbers have been told, when L.drop r is left. -/
def Told (n : Nat) (L : List Tm) (r : Nat) (tl : List Bool) : Prop := tl.length = n ∧ ∀ j : Nat, j < n → tl.getD j false = !(hasS (L.drop r) j)
theorem told_start {la : List Int} {n : Nat} {L : List Tm} (h : Upto la n L) : Told n L 0 (List.replicate n false) := by
  refine ⟨by simp, fun j hj => ?_⟩
  have : hasS (L.drop 0) j = true := has_iff.2 ⟨((j : Int), la.getD j 0), (h.2.2 _).2 ⟨j, hj, rfl⟩, rfl⟩
  rw [this]
  simp [List.getD_eq_getElem?_getD, List.getElem?_replicate, hj]
theorem told_step {n : Nat} {L : List Tm} {r : Nat} {tl : List Bool} (h : Told n L r tl) (hg : Good L) {j : Nat} {a : Int} (hx : L[r]? = some ((j : Int), a)) (hj : j < n) : tl.getD j false = false ∧ Told n L (r + 1) (tl.set j true) := by
  obtain ⟨h1, h2⟩ := h
  obtain ⟨k1, k2⟩ := List.getElem?_eq_some_iff.1 hx
  have hin : hasS (L.drop r) j = true := has_iff.2 ⟨((j : Int), a), by rw [List.drop_eq_getElem_cons k1, k2]; exact List.mem_cons_self .., rfl⟩
  refine ⟨by rw [h2 j hj, hin]; rfl, by rw [List.length_set]; exact h1, fun i hi => ?_⟩
  rw [has_drop hg hx]
  rw [List.getD_eq_getElem?_getD, List.getElem?_set]
  by_cases hij : j = i
  · subst hij
    rw [if_pos rfl, if_pos (by omega)]
    simp
  · rw [if_neg hij]
    have := h2 i hi
    rw [List.getD_eq_getElem?_getD] at this
    rw [this]
    have : ((i : Int) != (j : Int)) = true := by rw [bne_iff_ne]; omega
    dsimp only
    rw [this, Bool.and_true]
end Go.Proofs.Ythdenkmmiadeiaa
