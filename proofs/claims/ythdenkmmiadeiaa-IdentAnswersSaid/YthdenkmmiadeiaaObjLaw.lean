/- Plain laws of objects: no program is spoken of. -/
import Derived.Test.YthdenkmmiadeiaaObj5
namespace Go.Proofs.Ythdenkmmiadeiaa
set_option linter.unusedSimpArgs false
set_option linter.unusedVariables false
open Go.RowKit

theorem right_pair {last : Int} {i : Nat} {S : List (Int × List Int)} (h : rightFrom last i S = true) : S.Pairwise (fun a b => a.1 < b.1) ∧ ∀ x ∈ S, last < x.1 ∧ x.1 < 256 ∧ (x.1 < 7 ∨ 128 ≤ x.1) ∧ x.2.length ≤ 240 := by
  induction S generalizing last i with
  | nil => simp
  | cons x r ih =>
    rw [rightFrom, Bool.and_eq_true] at h
    obtain ⟨hp, ha⟩ := ih h.2
    have hb : badOb last i x = false := by simpa using h.1
    have hnb : ¬ badOb last i (x.1, x.2) = true := by rw [show (x.1, x.2) = x from rfl, hb]; simp
    rw [bad_iff] at hnb
    refine ⟨List.pairwise_cons.2 ⟨fun y hy => (ha y hy).1, hp⟩, fun y hy => ?_⟩
    rcases List.mem_cons.1 hy with rfl | hy
    · omega
    · have := ha y hy
      omega
theorem right_three {S : List (Int × List Int)} (h : rightS S = true) : ∃ a b c r, S = a :: b :: c :: r ∧ a.1 = 0 ∧ b.1 = 1 ∧ c.1 = 2 := by
  rw [rightS, Bool.and_eq_true, decide_eq_true_eq] at h
  obtain ⟨h, hl⟩ := h
  match S, hl with
  | a :: b :: c :: r, _ =>
    refine ⟨a, b, c, r, rfl, ?_⟩
    simp only [rightFrom, Bool.and_eq_true, Bool.not_eq_true'] at h
    obtain ⟨ha, hb, hc, _⟩ := h
    have ha' : ¬ badOb (-1) 0 (a.1, a.2) = true := by rw [show (a.1, a.2) = a from rfl, ha]; simp
    have hb' : ¬ badOb a.1 (0 + 1) (b.1, b.2) = true := by rw [show (b.1, b.2) = b from rfl, hb]; simp
    have hc' : ¬ badOb b.1 (0 + 1 + 1) (c.1, c.2) = true := by rw [show (c.1, c.2) = c from rfl, hc]; simp
    rw [bad_iff] at ha' hb' hc'
    omega
theorem find_mem {S : List (Int × List Int)} (hp : S.Pairwise (fun a b => a.1 < b.1)) {x : Int × List Int} (hx : x ∈ S) : findS S x.1 = some x := by
  induction S with
  | nil => simp at hx
  | cons y r ih =>
    rw [List.pairwise_cons] at hp
    rcases List.mem_cons.1 hx with rfl | hx
    · simp [findS]
    · have h1 := hp.1 x hx
      rw [findS, List.find?_cons, show (y.1 == x.1) = false by simp; omega]
      exact ih hp.2 hx
theorem last_le {S : List (Int × List Int)} (hp : S.Pairwise (fun a b => a.1 < b.1)) : ∀ x ∈ S, x.1 ≤ lastS S := by
  induction S with
  | nil => simp
  | cons y r ih =>
    rw [List.pairwise_cons] at hp
    intro x hx
    cases r with
    | nil =>
      simp at hx
      subst hx
      simp [lastS]
    | cons z r =>
      have e : lastS (y :: z :: r) = lastS (z :: r) := by simp [lastS]
      rw [e]
      rcases List.mem_cons.1 hx with rfl | hx
      · have h1 := hp.1 z (by simp)
        have h2 := ih hp.2 z (by simp)
        omega
      · exact ih hp.2 x hx
theorem last_mem {S : List (Int × List Int)} (h : S ≠ []) : ∃ x ∈ S, x.1 = lastS S := by
  refine ⟨S.getLast h, List.getLast_mem h, ?_⟩
  rw [lastS, List.getLast?_eq_some_getLast h]
  rfl

/-- The law's parts, of objects that may be a device's. -/
theorem sorts_level {S : List (Int × List Int)} (h : rightS S = true) : 1 ≤ levelS S ∧ levelS S ≤ 3 := by
  rw [levelS, if_pos h]
  split
  · omega
  · split <;> omega
theorem sorts_same {S : List (Int × List Int)} (h : rightS S = true) {sort : Int} (hs : sort = 1 ∨ sort = 2 ∨ sort = 3) : decide (ofS S sort = S) = decide (levelS S ≤ sort) := by
  have h' := h
  rw [rightS, Bool.and_eq_true] at h'
  obtain ⟨hp, ha⟩ := right_pair h'.1
  obtain ⟨a, b, c, r, e, _⟩ := right_three h
  obtain ⟨z, hz, hzl⟩ := last_mem (S := S) (by rw [e]; simp)
  have hle := last_le hp
  have hza := ha z hz
  have hiff : (ofS S sort = S) ↔ (levelS S ≤ sort) := by
    rw [ofS, if_neg (by omega), List.filter_eq_self, levelS, if_pos h]
    constructor
    · intro hall
      have := hall z hz
      simp only [keepS, below, Bool.or_eq_true, Bool.and_eq_true, decide_eq_true_eq] at this
      rcases hs with rfl | rfl | rfl <;> simp at this <;> split <;> (try split) <;> omega
    · intro hl x hx
      have h1 := ha x hx
      have h2 := hle x hx
      simp only [keepS, below, Bool.or_eq_true, Bool.and_eq_true, decide_eq_true_eq]
      rcases hs with rfl | rfl | rfl <;> simp
      all_goals (split at hl <;> (try split at hl) <;> omega)
  by_cases hc : levelS S ≤ sort
  · rw [decide_eq_true hc, decide_eq_true (hiff.2 hc)]
  · rw [decide_eq_false hc, decide_eq_false (fun e => hc (hiff.1 e))]
theorem sorts_three {S : List (Int × List Int)} (h : rightS S = true) {sort : Int} (hs : sort = 1 ∨ sort = 2 ∨ sort = 3) : 3 ≤ (ofS S sort).length := by
  obtain ⟨a, b, c, r, rfl, ha, hb, hc⟩ := right_three h
  rw [ofS, if_neg (by omega)]
  have k : ∀ i : Int, 0 ≤ i → i < 3 → keepS sort i = true := by
    intro i h0 h1
    simp only [keepS, below, Bool.or_eq_true, Bool.and_eq_true, decide_eq_true_eq]
    rcases hs with rfl | rfl | rfl <;> simp <;> omega
  rw [List.filter_cons_of_pos (by rw [ha]; exact k 0 (by omega) (by omega)), List.filter_cons_of_pos (by rw [hb]; exact k 1 (by omega) (by omega)), List.filter_cons_of_pos (by rw [hc]; exact k 2 (by omega) (by omega))]
  simp
theorem of_sub {S : List (Int × List Int)} {sort : Int} (hs : sort = 1 ∨ sort = 2 ∨ sort = 3) {x : Int × List Int} : x ∈ ofS S sort ↔ x ∈ S ∧ keepS sort x.1 = true := by
  rw [ofS, if_neg (by omega), List.mem_filter]
theorem of_pair {S : List (Int × List Int)} (hp : S.Pairwise (fun a b => a.1 < b.1)) (sort : Int) : (ofS S sort).Pairwise (fun a b => a.1 < b.1) := by
  rw [ofS]
  split
  · exact List.Pairwise.nil
  · exact hp.filter _
theorem sorts_find {S : List (Int × List Int)} (h : rightS S = true) {sort : Int} (hs : sort = 1 ∨ sort = 2 ∨ sort = 3) {x : Int × List Int} (hx : x ∈ ofS S sort) : findS S x.1 = some x := by
  rw [rightS, Bool.and_eq_true] at h
  exact find_mem (right_pair h.1).1 ((of_sub hs).1 hx).1
theorem sorts_next {S : List (Int × List Int)} (h : rightS S = true) {sort : Int} (hs : sort = 1 ∨ sort = 2 ∨ sort = 3) {x : Int × List Int} (hx : x ∈ ofS S sort) : findS (ofS S (min (sort + 1) 3)) x.1 = some x := by
  rw [rightS, Bool.and_eq_true] at h
  refine find_mem (of_pair (right_pair h.1).1 _) ((of_sub (by omega)).2 ⟨((of_sub hs).1 hx).1, ?_⟩)
  have hk := ((of_sub hs).1 hx).2
  simp only [keepS, below, Bool.or_eq_true, Bool.and_eq_true, decide_eq_true_eq] at hk ⊢
  rcases hs with rfl | rfl | rfl <;> simp at hk ⊢ <;> omega
theorem sorts_from {S : List (Int × List Int)} (h : rightS S = true) {sort : Int} (hs : sort = 1 ∨ sort = 2 ∨ sort = 3) (id : Int) : ∃ k, k < (ofS S sort).length ∧ fromS S sort id = (ofS S sort).drop k ∧ (k = 0 ∨ ∃ x, (ofS S sort)[k]? = some x ∧ x.1 = id) := by
  have h3 := sorts_three h hs
  rw [fromS]
  cases hi : idxS (ofS S sort) id with
  | none => exact ⟨0, by omega, rfl, .inl rfl⟩
  | some k =>
    obtain ⟨hk, he, _⟩ := List.findIdx?_eq_some_iff_getElem.1 hi
    exact ⟨k, hk, rfl, .inr ⟨_, List.getElem?_eq_getElem hk, by simpa using he⟩⟩
theorem right_short {S : List (Int × List Int)} (h : rightS S = true) : ∀ x ∈ S, x.2.length ≤ 240 := by
  rw [rightS, Bool.and_eq_true] at h
  exact fun x hx => ((right_pair h.1).2 x hx).2.2.2
end Go.Proofs.Ythdenkmmiadeiaa
