/- Plain law of binary heaps over lists (no program is spoken of). -/
import Derived.Test.YthdenkmmiadeiaaBase2
namespace Go.Proofs.Ythdenkmmiadeiaa
set_option linter.unusedSimpArgs false
set_option linter.unusedVariables false

/-- A timer as it stands in the heap: its number, its time, its block. -/
structure Ent where
  id : Int
  at_ : Int
  b : Nat
def ent0 : Ent := ⟨0, 0, 0⟩
def ltE (x y : Ent) : Prop := x.at_ < y.at_ ∨ (x.at_ = y.at_ ∧ x.id < y.id)
instance (x y : Ent) : Decidable (ltE x y) := by unfold ltE; infer_instance
theorem ltE_asymm {x y : Ent} (h : ltE x y) : ¬ ltE y x := by unfold ltE at *; omega
theorem ltE_ge {x y z : Ent} (h : ltE x y) (k : ¬ ltE z y) : ¬ ltE z x := by unfold ltE at *; omega
theorem ge_trans {x y z : Ent} (h : ¬ ltE x y) (k : ¬ ltE y z) : ¬ ltE x z := by unfold ltE at *; omega
def at' (E : List Ent) (k : Nat) : Ent := E.getD k ent0
def swapE (E : List Ent) (i j : Nat) : List Ent := (E.set i (at' E j)).set j (at' E i)
theorem swap_len (E : List Ent) (i j : Nat) : (swapE E i j).length = E.length := by simp [swapE]
theorem swap_at {E : List Ent} {i j : Nat} (hi : i < E.length) (hj : j < E.length) (k : Nat) : at' (swapE E i j) k = if k = j then at' E i else if k = i then at' E j else at' E k := by
  simp only [at', swapE, List.getD_eq_getElem?_getD, List.getElem?_set, List.length_set]
  by_cases h1 : k = j
  · subst h1; simp [hj]
  · rw [if_neg (fun h => h1 h.symm), if_neg h1]
    by_cases h2 : k = i
    · subst h2; simp [hi]
    · rw [if_neg (fun h => h2 h.symm), if_neg h2]
theorem swap_perm {E : List Ent} {i j : Nat} (hi : i < E.length) (hj : j < E.length) : (swapE E i j).Perm E := by
  have h := List.set_set_perm (as := E) (i := i) (j := j) hi hj
  simpa [swapE, at', List.getD_eq_getElem?_getD, List.getElem?_eq_getElem hi, List.getElem?_eq_getElem hj] using h

/-- A place is not ahead of its parent. -/
def okAt (E : List Ent) (k : Nat) : Prop := ¬ ltE (at' E k) (at' E ((k - 1) / 2))
def HeapN (E : List Ent) (n : Nat) : Prop := ∀ k, 0 < k → k < n → okAt E k
/-- All but what stands at i, and its children. -/
def AllBut (E : List Ent) (n i : Nat) : Prop :=
  (∀ k, 0 < k → k < n → (k - 1) / 2 ≠ i → k ≠ i → okAt E k) ∧ (∀ k, 0 < k → k < n → (k - 1) / 2 = i → 0 < i → ¬ ltE (at' E k) (at' E ((i - 1) / 2)))
/-- All but what stands at j. -/
def UpI (E : List Ent) (n j : Nat) : Prop :=
  (∀ k, 0 < k → k < n → k ≠ j → okAt E k) ∧ (∀ k, 0 < k → k < n → (k - 1) / 2 = j → 0 < j → ¬ ltE (at' E k) (at' E ((j - 1) / 2)))

theorem up_step {E : List Ent} {n j : Nat} (h : UpI E n j) (hj : 0 < j) (hn : j < n) (hl : n ≤ E.length) (hlt : ltE (at' E j) (at' E ((j - 1) / 2))) : UpI (swapE E ((j - 1) / 2) j) n ((j - 1) / 2) := by
  obtain ⟨h1, h2⟩ := h
  obtain ⟨i, hi⟩ : ∃ i, i = (j - 1) / 2 := ⟨_, rfl⟩
  rw [← hi] at hlt ⊢
  have hij : i < j := by omega
  have hs := swap_at (E := E) (i := i) (j := j) (by omega) (by omega)
  refine ⟨fun k hk hkn hne => ?_, fun k hk hkn hp h0 => ?_⟩
  · unfold okAt
    rw [hs k, hs ((k - 1) / 2)]
    by_cases hkj : k = j
    · subst hkj
      rw [if_pos rfl, ← hi, if_neg (by omega), if_pos rfl]
      exact ltE_asymm hlt
    · rw [if_neg hkj, if_neg hne]
      by_cases hpj : (k - 1) / 2 = j
      · rw [if_pos hpj]
        have := h2 k hk hkn hpj hj
        rwa [← hi] at this
      · rw [if_neg hpj]
        by_cases hpi : (k - 1) / 2 = i
        · rw [if_pos hpi]
          have := h1 k hk hkn hkj
          unfold okAt at this
          rw [hpi] at this
          exact ltE_ge hlt this
        · rw [if_neg hpi]
          exact h1 k hk hkn hkj
  · rw [hs k, hs ((i - 1) / 2), if_neg (c := (i - 1) / 2 = j) (by omega), if_neg (c := (i - 1) / 2 = i) (by omega)]
    have hi' := h1 i h0 (by omega) (by omega)
    unfold okAt at hi'
    by_cases hkj : k = j
    · rw [if_pos hkj]; exact hi'
    · rw [if_neg hkj, if_neg (by omega)]
      have := h1 k hk hkn hkj
      unfold okAt at this
      rw [hp] at this
      exact ge_trans this hi'
theorem up_done {E : List Ent} {n j : Nat} (h : UpI E n j) (hd : j = 0 ∨ ¬ ltE (at' E j) (at' E ((j - 1) / 2))) : HeapN E n := by
  intro k hk hkn
  by_cases hkj : k = j
  · subst hkj
    rcases hd with hd | hd
    · omega
    · exact hd
  · exact h.1 k hk hkn hkj

theorem down_step {E : List Ent} {n i j : Nat} (h : AllBut E n i) (hij : (j - 1) / 2 = i) (hj0 : 0 < j) (hjn : j < n) (hl : n ≤ E.length) (hlt : ltE (at' E j) (at' E i))
    (hmin : ∀ k, 0 < k → k < n → (k - 1) / 2 = i → ¬ ltE (at' E k) (at' E j)) : AllBut (swapE E i j) n j ∧ okAt (swapE E i j) j := by
  obtain ⟨h1, h2⟩ := h
  have hlt' : i < j := by omega
  have hs := swap_at (E := E) (i := i) (j := j) (by omega) (by omega)
  refine ⟨⟨fun k hk hkn hp hne => ?_, fun k hk hkn hp h0 => ?_⟩, ?_⟩
  · unfold okAt
    rw [hs k, hs ((k - 1) / 2), if_neg hne, if_neg hp]
    by_cases hki : k = i
    · subst hki
      rw [if_pos rfl, if_neg (by omega)]
      exact h2 j hj0 hjn hij hk
    · rw [if_neg hki]
      by_cases hpi : (k - 1) / 2 = i
      · rw [if_pos hpi]; exact hmin k hk hkn hpi
      · rw [if_neg hpi]; exact h1 k hk hkn hpi hki
  · rw [hs k, hs ((j - 1) / 2), hij, if_neg (c := i = j) (by omega), if_pos rfl, if_neg (by omega), if_neg (by omega)]
    have := h1 k hk hkn (by omega) (by omega)
    unfold okAt at this
    rwa [hp] at this
  · unfold okAt
    rw [hs j, if_pos rfl, hs ((j - 1) / 2), hij, if_neg (by omega), if_pos rfl]
    exact ltE_asymm hlt
theorem down_done {E : List Ent} {n i : Nat} (h : AllBut E n i) (hc : ∀ k, 0 < k → k < n → (k - 1) / 2 = i → ¬ ltE (at' E k) (at' E i)) : UpI E n i := by
  refine ⟨fun k hk hkn hne => ?_, h.2⟩
  by_cases hp : (k - 1) / 2 = i
  · unfold okAt; rw [hp]; exact hc k hk hkn hp
  · exact h.1 k hk hkn hp hne
theorem up_heap {E : List Ent} {n i : Nat} (h : UpI E n i) (hi : okAt E i) : HeapN E n := by
  intro k hk hkn
  by_cases hki : k = i
  · subst hki; exact hi
  · exact h.1 k hk hkn hki

theorem heap_root {E : List Ent} {n : Nat} (h : HeapN E n) : ∀ k, k < n → ¬ ltE (at' E k) (at' E 0) := by
  intro k
  induction k using Nat.strongRecOn with
  | _ k ih =>
    intro hk
    rcases Nat.eq_zero_or_pos k with h0 | h0
    · subst h0; unfold ltE; omega
    · exact ge_trans (h k h0 hk) (ih ((k - 1) / 2) (by omega) (by omega))
/-- Another time at a place. -/
theorem heap_set {E : List Ent} {n i : Nat} (h : HeapN E n) (e : Ent) : AllBut (E.set i e) n i := by
  have hs : ∀ k, k ≠ i → at' (E.set i e) k = at' E k := fun k hk => by
    simp only [at', List.getD_eq_getElem?_getD, List.getElem?_set]
    rw [if_neg (fun h => hk h.symm)]
  refine ⟨fun k hk hkn hp hne => ?_, fun k hk hkn hp h0 => ?_⟩
  · unfold okAt
    rw [hs k hne, hs _ hp]
    exact h k hk hkn
  · rw [hs k (by omega), hs _ (by omega)]
    have h1 := h k hk hkn
    have h2 := h i h0 (by omega)
    unfold okAt at h1 h2
    rw [hp] at h1
    exact ge_trans h1 h2
/-- The last one stands at the end: what is ahead of it is a heap but for it. -/
theorem heap_snoc {E : List Ent} {n : Nat} (h : HeapN E n) (hn : n = E.length) (e : Ent) : UpI (E ++ [e]) (n + 1) n := by
  have hs : ∀ k, k < n → at' (E ++ [e]) k = at' E k := fun k hk => by
    simp only [at', List.getD_eq_getElem?_getD]
    rw [List.getElem?_append_left (by omega)]
  refine ⟨fun k hk hkn hne => ?_, fun k hk hkn hp h0 => by omega⟩
  unfold okAt
  rw [hs k (by omega), hs _ (by omega)]
  exact h k hk (by omega)
/-- Two stand each where the other did, the last one out of sight. -/
theorem heap_last {E : List Ent} {n i : Nat} (h : HeapN E (n + 1)) (hi : i < n) (hn : n < E.length) : AllBut (swapE E i n) n i := by
  have hs := swap_at (E := E) (i := i) (j := n) (by omega) (by omega)
  refine ⟨fun k hk hkn hp hne => ?_, fun k hk hkn hp h0 => ?_⟩
  · unfold okAt
    rw [hs k, hs ((k - 1) / 2), if_neg (by omega), if_neg hne, if_neg (by omega), if_neg hp]
    exact h k hk (by omega)
  · rw [hs k, hs ((i - 1) / 2), if_neg (by omega), if_neg (by omega), if_neg (by omega), if_neg (by omega)]
    have h1 := h k hk (by omega)
    have h2 := h i h0 (by omega)
    unfold okAt at h1 h2
    rw [hp] at h1
    exact ge_trans h1 h2
theorem heap_less {E : List Ent} {n m : Nat} (h : HeapN E n) (hm : m ≤ n) : HeapN E m := fun k hk hkn => h k hk (by omega)
theorem heap_take {E : List Ent} {n : Nat} (h : HeapN E n) (hn : n ≤ E.length) : HeapN (E.take n) n := by
  have hs : ∀ k, k < n → at' (E.take n) k = at' E k := fun k hk => by
    simp only [at', List.getD_eq_getElem?_getD]
    rw [List.getElem?_take_of_lt (by omega)]
  intro k hk hkn
  unfold okAt
  rw [hs k hkn, hs _ (by omega)]
  exact h k hk hkn
end Go.Proofs.Ythdenkmmiadeiaa
