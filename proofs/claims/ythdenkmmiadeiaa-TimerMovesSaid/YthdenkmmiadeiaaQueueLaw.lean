/- Plain law of the document's timers, a sorted list, beside a heap (no program is spoken of). -/
import Derived.Test.YthdenkmmiadeiaaHeap
namespace Go.Proofs.Ythdenkmmiadeiaa
set_option linter.unusedSimpArgs false
set_option linter.unusedVariables false

/-- A number and its time. -/
abbrev Tm := Int × Int
def ltK (a b : Tm) : Prop := a.2 < b.2 ∨ (a.2 = b.2 ∧ a.1 < b.1)
instance (a b : Tm) : Decidable (ltK a b) := by unfold ltK; infer_instance
def dropS (L : List Tm) (id : Int) : List Tm := L.filter (fun x => x.1 != id)
def insS (t : Tm) : List Tm → List Tm
  | [] => [t]
  | x :: r => if ltK t x then t :: x :: r else x :: insS t r
def putS (L : List Tm) (id at_ : Int) : List Tm := insS (id, at_) (dropS L id)
def hasS (L : List Tm) (id : Int) : Bool := L.any (fun x => x.1 == id)
def setErr (L : List Tm) (id at_ : Int) : Int := if id < 0 ∨ at_ < 0 ∨ 1099511627776 < at_ then 11 else if hasS L id = false ∧ 256 ≤ L.length then 17 else 0
def setS (L : List Tm) (id at_ : Int) : List Tm := if setErr L id at_ = 0 then putS L id at_ else L
def dueS (L : List Tm) (now : Int) : List Tm := L.takeWhile (fun x => decide (x.2 ≤ now))
def restS (L : List Tm) (now : Int) : List Tm := L.dropWhile (fun x => decide (x.2 ≤ now))
/-- In order, each number once. -/
def Good (L : List Tm) : Prop := L.Pairwise ltK ∧ (L.map (·.1)).Nodup

theorem ins_perm (t : Tm) (L : List Tm) : (insS t L).Perm (t :: L) := by
  induction L with
  | nil => exact List.Perm.refl _
  | cons x r ih =>
    rw [insS]
    split
    · exact List.Perm.refl _
    · exact (List.Perm.cons x ih).trans (List.Perm.swap _ _ _)
theorem ins_sorted {t : Tm} {L : List Tm} (h : L.Pairwise ltK) (hn : ∀ x ∈ L, x.1 ≠ t.1) : (insS t L).Pairwise ltK := by
  induction L with
  | nil => simp [insS]
  | cons x r ih =>
    rw [List.pairwise_cons] at h
    rw [insS]
    split
    · rename_i hlt
      refine List.pairwise_cons.2 ⟨fun y hy => ?_, List.pairwise_cons.2 h⟩
      rcases List.mem_cons.1 hy with rfl | hy
      · exact hlt
      · have := h.1 y hy
        unfold ltK at *
        omega
    · rename_i hlt
      refine List.pairwise_cons.2 ⟨fun y hy => ?_, ih h.2 (fun z hz => hn z (List.mem_cons_of_mem _ hz))⟩
      rcases List.mem_cons.1 ((ins_perm t r).mem_iff.1 hy) with rfl | hy
      · have := hn x (List.mem_cons_self ..)
        unfold ltK at *
        omega
      · exact h.1 y hy
theorem drop_mem {L : List Tm} {id : Int} {x : Tm} : x ∈ dropS L id ↔ x ∈ L ∧ x.1 ≠ id := by simp [dropS]
theorem drop_good {L : List Tm} (h : Good L) (id : Int) : Good (dropS L id) := by
  refine ⟨h.1.filter _, ?_⟩
  have hs : (dropS L id).Sublist L := List.filter_sublist
  exact (hs.map _).nodup h.2
theorem put_good {L : List Tm} (h : Good L) (id at_ : Int) : Good (putS L id at_) := by
  have hd := drop_good h id
  refine ⟨ins_sorted hd.1 (fun x hx => (drop_mem.1 hx).2), ?_⟩
  have hp : ((putS L id at_).map (·.1)).Perm (id :: (dropS L id).map (·.1)) := (ins_perm (id, at_) (dropS L id)).map _
  refine hp.nodup_iff.2 (List.nodup_cons.2 ⟨fun hm => ?_, hd.2⟩)
  obtain ⟨x, hx, he⟩ := List.mem_map.1 hm
  exact (drop_mem.1 hx).2 he
theorem set_good {L : List Tm} (h : Good L) (id at_ : Int) : Good (setS L id at_) := by
  unfold setS
  split
  · exact put_good h id at_
  · exact h
theorem good_tail {x : Tm} {L : List Tm} (h : Good (x :: L)) : Good L := by
  refine ⟨(List.pairwise_cons.1 h.1).2, ?_⟩
  have := h.2
  rw [List.map_cons] at this
  exact (List.nodup_cons.1 this).2
/-- The first one's number dropped: the rest. -/
theorem drop_head {x : Tm} {L : List Tm} (h : Good (x :: L)) : dropS (x :: L) x.1 = L := by
  have hn := (List.nodup_cons.1 (by simpa using h.2 : (x.1 :: L.map (·.1)).Nodup)).1
  rw [dropS, List.filter_cons, if_neg (by simp)]
  refine List.filter_eq_self.2 fun y hy => ?_
  rw [bne_iff_ne]
  intro e
  exact hn (List.mem_map.2 ⟨y, hy, e⟩)
theorem has_iff {L : List Tm} {id : Int} : hasS L id = true ↔ ∃ x ∈ L, x.1 = id := by simp [hasS]
theorem drop_none {L : List Tm} {id : Int} (h : hasS L id = false) : dropS L id = L := by
  refine List.filter_eq_self.2 fun y hy => ?_
  rw [bne_iff_ne]
  intro e
  rw [has_iff.2 ⟨y, hy, e⟩] at h
  cases h

def key (e : Ent) : Tm := (e.id, e.at_)
theorem key_lt {x y : Ent} : ltE x y ↔ ltK (key x) (key y) := Iff.rfl
/-- What stands in a heap is what the list holds. -/
def Holds (E : List Ent) (L : List Tm) : Prop := (E.map key).Perm L
theorem holds_len {E : List Ent} {L : List Tm} (h : Holds E L) : E.length = L.length := by have := h.length_eq; simpa using this
theorem holds_head {E : List Ent} {L : List Tm} (h : Holds E L) (hg : Good L) (hh : HeapN E E.length) (h0 : 0 < E.length) : ∃ r, L = key (at' E 0) :: r := by
  cases L with
  | nil => have := holds_len h; simp only [List.length_nil] at this; omega
  | cons x r =>
    have hx : x ∈ E.map key := h.mem_iff.2 (List.mem_cons_self ..)
    obtain ⟨e, he, hex⟩ := List.mem_map.1 hx
    obtain ⟨k, hk, hke⟩ := List.mem_iff_getElem.1 he
    have h1 := heap_root hh k hk
    have e0 : at' E 0 = E[0] := by simp [at', List.getD_eq_getElem?_getD, List.getElem?_eq_getElem h0]
    have ek : at' E k = e := by simp [at', List.getD_eq_getElem?_getD, List.getElem?_eq_getElem hk, hke]
    have h2 : key (at' E 0) ∈ x :: r := h.mem_iff.1 (List.mem_map.2 ⟨_, by rw [e0]; exact List.getElem_mem h0, rfl⟩)
    refine ⟨r, ?_⟩
    rcases List.mem_cons.1 h2 with h2 | h2
    · rw [h2]
    · have h3 := (List.pairwise_cons.1 hg.1).1 _ h2
      rw [ek, key_lt, hex] at h1
      exact absurd h3 (by unfold ltK at *; omega)
/-- The ids of a heap are unlike. -/
theorem holds_inj {E : List Ent} {L : List Tm} (h : Holds E L) (hg : Good L) {i j : Nat} (hi : i < E.length) (hj : j < E.length) (he : (at' E i).id = (at' E j).id) : i = j := by
  have hn : (E.map (·.id)).Nodup := by
    have := (h.map (·.1)).nodup_iff.2 hg.2
    simpa [key, Function.comp_def] using this
  have e1 : at' E i = E[i] := by simp [at', List.getD_eq_getElem?_getD, List.getElem?_eq_getElem hi]
  have e2 : at' E j = E[j] := by simp [at', List.getD_eq_getElem?_getD, List.getElem?_eq_getElem hj]
  rw [e1, e2] at he
  have hp := List.pairwise_iff_getElem.1 hn
  rcases Nat.lt_trichotomy i j with h | h | h
  · exact absurd (by rw [List.getElem_map, List.getElem_map]; exact he) (hp i j (by simpa using hi) (by simpa using hj) h)
  · exact h
  · exact absurd (by rw [List.getElem_map, List.getElem_map]; exact he.symm) (hp j i (by simpa using hj) (by simpa using hi) h)
theorem perm_drop {E : List Ent} {L : List Tm} (h : Holds E L) (id : Int) : ((E.filter (fun e => e.id != id)).map key).Perm (dropS L id) := by
  have := h.filter (fun x => x.1 != id)
  rw [dropS]
  refine List.Perm.trans (List.Perm.of_eq ?_) this
  rw [List.filter_map]
  rfl
theorem split_at {α : Type} (E : List α) {i : Nat} (hi : i < E.length) : E = E.take i ++ E[i] :: E.drop (i + 1) := by
  rw [← List.drop_eq_getElem_cons hi, List.take_append_drop]
theorem filter_out {E : List Ent} {L : List Tm} (h : Holds E L) (hg : Good L) {i : Nat} (hi : i < E.length) : E.filter (fun e => e.id != (at' E i).id) = E.eraseIdx i := by
  have e1 : at' E i = E[i] := by simp [at', List.getD_eq_getElem?_getD, List.getElem?_eq_getElem hi]
  have hsplit := split_at E hi
  have hne : ∀ j, j < E.length → j ≠ i → (at' E j).id ≠ (at' E i).id := fun j hj hji he => hji (holds_inj h hg hj hi he)
  rw [List.eraseIdx_eq_take_drop_succ]
  conv => lhs; arg 2; rw [hsplit]
  rw [List.filter_append, List.filter_cons, if_neg (by simp [e1])]
  congr 1
  · refine List.filter_eq_self.2 fun y hy => ?_
    obtain ⟨j, hj, hjy⟩ := List.mem_iff_getElem.1 hy
    simp at hj
    have := hne j (by omega) (by omega)
    simp only [at', List.getD_eq_getElem?_getD, List.getElem?_eq_getElem (show j < E.length by omega), Option.getD_some] at this
    simp only [List.getElem?_eq_getElem hi, Option.getD_some] at this
    rw [List.getElem_take] at hjy
    rw [bne_iff_ne, ← hjy, e1]
    exact this
  · refine List.filter_eq_self.2 fun y hy => ?_
    obtain ⟨j, hj, hjy⟩ := List.mem_iff_getElem.1 hy
    simp at hj
    have := hne (i + 1 + j) (by omega) (by omega)
    simp only [at', List.getD_eq_getElem?_getD, List.getElem?_eq_getElem (show i + 1 + j < E.length by omega), Option.getD_some] at this
    simp only [List.getElem?_eq_getElem hi, Option.getD_some] at this
    rw [List.getElem_drop] at hjy
    rw [bne_iff_ne, ← hjy, e1]
    exact this
theorem perm_erase {α : Type} (E : List α) {i : Nat} (hi : i < E.length) : E.Perm (E[i] :: E.eraseIdx i) := by
  rw [List.eraseIdx_eq_take_drop_succ]
  have hsplit := split_at E hi
  exact (List.Perm.of_eq hsplit).trans List.perm_middle
/-- Another time for a number that is there. -/
theorem holds_set {E : List Ent} {L : List Tm} (h : Holds E L) (hg : Good L) {i : Nat} (hi : i < E.length) (a : Int) : Holds (E.set i ⟨(at' E i).id, a, (at' E i).b⟩) (putS L (at' E i).id a) := by
  have h1 : (E.set i ⟨(at' E i).id, a, (at' E i).b⟩).Perm (⟨(at' E i).id, a, (at' E i).b⟩ :: E.eraseIdx i) := by
    have hp := perm_erase (E.set i ⟨(at' E i).id, a, (at' E i).b⟩) (i := i) (by simpa using hi)
    rw [List.getElem_set_self, List.eraseIdx_set_eq] at hp
    exact hp
  have h2 := perm_drop h (at' E i).id
  rw [filter_out h hg hi] at h2
  exact ((h1.map key).trans (List.Perm.cons _ h2)).trans (ins_perm _ _).symm
theorem holds_drop {E : List Ent} {L : List Tm} (h : Holds E L) (hg : Good L) {i : Nat} (hi : i < E.length) : Holds (E.eraseIdx i) (dropS L (at' E i).id) := by
  have h2 := perm_drop h (at' E i).id
  rwa [filter_out h hg hi] at h2
theorem holds_new {E : List Ent} {L : List Tm} (h : Holds E L) (e : Ent) (hn : hasS L e.id = false) : Holds (E ++ [e]) (putS L e.id e.at_) := by
  have h1 : (E ++ [e]).Perm (e :: E) := List.perm_append_comm
  rw [putS, drop_none hn]
  exact ((h1.map key).trans (List.Perm.cons _ h)).trans (ins_perm _ _).symm
theorem holds_has {E : List Ent} {L : List Tm} (h : Holds E L) {id : Int} (hh : hasS L id = true) : ∃ i, i < E.length ∧ (at' E i).id = id := by
  obtain ⟨x, hx, he⟩ := has_iff.1 hh
  obtain ⟨e, hm, hk⟩ := List.mem_map.1 (h.mem_iff.2 hx)
  obtain ⟨i, hi, hie⟩ := List.mem_iff_getElem.1 hm
  refine ⟨i, hi, ?_⟩
  rw [show at' E i = e by simp [at', List.getD_eq_getElem?_getD, List.getElem?_eq_getElem hi, hie], ← he, ← hk]
  rfl
theorem holds_perm {E E' : List Ent} {L : List Tm} (h : Holds E L) (hp : E'.Perm E) : Holds E' L := (hp.map key).trans h
end Go.Proofs.Ythdenkmmiadeiaa
