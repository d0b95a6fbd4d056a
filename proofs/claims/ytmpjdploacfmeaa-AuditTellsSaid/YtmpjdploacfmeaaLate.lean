/- A region that draws its order and ends with stores into what it loads: the condition on the world is asked only till the first of the late operations. No program is spoken of. -/
import Derived.Test.YtmpjdploacfmeaaMix
namespace Go.Proofs.Ytmpjdploacfmeaa
set_option linter.unusedSimpArgs false
set_option linter.unusedVariables false

/-- Has a late operation come up? -/
def gone (late : Nat → Bool) (listed : Array Bool) : Bool := (List.range listed.size).any fun j => late j && listed.getD j false
theorem gone_mono {late : Nat → Bool} {listed : Array Bool} (i : Nat) (h : gone late listed = true) : gone late (listed.setIfInBounds i true) = true := by
  simp only [gone, List.any_eq_true, List.mem_range, Bool.and_eq_true] at h ⊢
  obtain ⟨j, hj, hl, hg⟩ := h
  exact ⟨j, by simpa using hj, hl, getD_set_true hg⟩
theorem gone_set {late : Nat → Bool} {listed : Array Bool} {i : Nat} (hl : late i = false) (h : gone late (listed.setIfInBounds i true) = true) : gone late listed = true := by
  simp only [gone, List.any_eq_true, List.mem_range, Bool.and_eq_true] at h ⊢
  obtain ⟨j, hj, hlj, hg⟩ := h
  have hne : i ≠ j := by rintro rfl; rw [hl] at hlj; cases hlj
  exact ⟨j, by simpa using hj, hlj, by rwa [getD_set_ne false hne] at hg⟩
section
variable {P : Program} {l : List Oper} {Q : Exit → Act → World → Prop} {S : World → Prop} {late : Nat → Bool}
/-- Whatever comes up next; S holds till a late operation has come up. -/
def wpLate (P : Program) (ops : Array Oper) (Q : Exit → Act → World → Prop) (S : World → Prop) (late : Nat → Bool) : Nat → Array Bool → Act → World → Prop
  | 0, listed, a, w => Region.ready .any ops listed = [] ∧ Q .normal a w
  | n + 1, listed, a, w => (Region.ready .any ops listed = [] → Q .normal a w) ∧
      ∀ i ∈ Region.ready .any ops listed, wpOp P ops Q i (fun b v => (gone late (listed.setIfInBounds i true) = true ∨ S v) ∧ wpLate P ops Q S late n (listed.setIfInBounds i true) b v) a w
theorem late_any {ops : Array Oper} : ∀ (n : Nat) (listed : Array Bool) (a : Act) (w : World), wpLate P ops Q S late n listed a w → wpAny P .any ops Q n listed a w
  | 0, _, _, _, h => h
  | n + 1, _, _, _, h => ⟨h.1, fun i hi => wpOp_mono (fun b v hb => late_any n _ b v hb.2) (h.2 i hi)⟩
/-- Each late operation waits for number i. -/
def waits (ops : Array Oper) (late : Nat → Bool) (i : Nat) : Bool :=
  (List.range ops.size).all fun j => !late j || (match ops[j]? with
    | some o => o.after.any fun e => Region.binds .any e && e.on == i
    | none => true)
theorem waits_spec {ops : Array Oper} {i : Nat} (h : waits ops late i = true) {j : Nat} {o : Oper} (hj : ops[j]? = some o) (hl : late j = true) : ∃ e ∈ o.after, Region.binds .any e = true ∧ e.on = i := by
  have h1 := List.all_eq_true.1 h j (List.mem_range.2 (Array.getElem?_eq_some_iff.1 hj).1)
  rw [hl, hj] at h1
  simp only [Bool.not_true, Bool.false_or, Array.any_eq_true, Bool.and_eq_true, beq_iff_eq] at h1
  obtain ⟨k, hk, h2, h3⟩ := h1
  exact ⟨o.after[k], Array.getElem_mem hk, h2, h3⟩
theorem not_waits {ops : Array Oper} {listed : Array Bool} {i : Nat} {oj : Oper} (hr : i ∈ Region.ready .any ops listed) (hall : ∀ e ∈ oj.after, Region.binds .any e = true → listed.getD e.on false = true) :
    ∀ e ∈ oj.after, Region.binds .any e = true → e.on ≠ i := fun e he hb heq => by
  have h1 := hall e he hb
  have h0 := (mem_ready.1 hr).1
  rw [heq] at h1
  rcases Nat.lt_or_ge i listed.size with h' | h'
  · simp [h'] at h0 h1; rw [h0] at h1; cases h1
  · simp [Array.getElem?_eq_none h'] at h1
/-- A worldless operation (T holds of any world), or a load of what S tells, may be taken first. -/
theorem late_first {ops : Array Oper} {T : World → Prop} {i : Nat} {oi : Oper} {v : Value} (hi : ops[i]? = some oi) (hs : Region.noSelect ops = true) (hl : late i = false)
    (hT : (∀ w, T w) ∨ ((∀ w, S w → T w) ∧ waits ops late i = true))
    (hQ : ∀ c a w, Q (.panic c) (a.put oi.dst v) w → Q (.panic c) a w) :
    ∀ (n : Nat) (listed : Array Bool) (a : Act) (w : World),
      (∀ j oj, ops[j]? = some oj → j ≠ i → listed.getD j true = false → (∀ e ∈ oj.after, Region.binds .any e = true → e.on ≠ i) → oi.apart ops oj = true) →
      i ∈ Region.ready .any ops listed → YieldsIf P ops T oi v a → ((∀ w, T w) ∨ gone late listed = false) → (gone late listed = true ∨ S w) →
      wpLate P ops Q S late n (listed.setIfInBounds i true) (a.put oi.dst v) w → wpLate P ops Q S late (n + 1) listed a w := by
  have hTw : ∀ (listed : Array Bool) (w : World), ((∀ w, T w) ∨ gone late listed = false) → (gone late listed = true ∨ S w) → T w := by
    intro listed w h1 h2
    rcases hT with hT | ⟨hT, _⟩
    · exact hT w
    · rcases h1 with h1 | h1
      · exact h1 w
      · rcases h2 with h2 | h2
        · rw [h1] at h2; cases h2
        · exact hT w h2
  have hgo : ∀ (listed : Array Bool) (w : World), (gone late listed = true ∨ S w) → (gone late (listed.setIfInBounds i true) = true ∨ S w) := fun listed w h => h.imp (gone_mono i) id
  intro n
  induction n with
  | zero =>
    intro listed a w _ hr hy hg hS H
    refine ⟨fun h => (by rw [h] at hr; cases hr), fun j hj => ?_⟩
    by_cases hji : j = i
    · subst hji; exact hy.wpOp hi (hTw _ _ hg hS) ⟨hgo _ _ hS, H⟩
    · have := ready_mono hj hji
      rw [H.1] at this
      cases this
  | succ n ih =>
    intro listed a w hfree hr hy hg hS H
    refine ⟨fun h => (by rw [h] at hr; cases hr), fun j hj => ?_⟩
    by_cases hji : j = i
    · subst hji; exact hy.wpOp hi (hTw _ _ hg hS) ⟨hgo _ _ hS, H⟩
    · have h1 := H.2 j (ready_mono hj hji)
      obtain ⟨hjun, oj, hoj, hall⟩ := mem_ready.1 hj
      have hnot := not_waits hr hall
      have hg' : (∀ w, T w) ∨ gone late (listed.setIfInBounds j true) = false := by
        rcases hT with hT | ⟨_, hw⟩
        · exact .inl hT
        · rcases hg with hg | hg
          · exact .inl hg
          · refine .inr (Bool.eq_false_iff.2 fun h => ?_)
            have hnl : late j = false := Bool.eq_false_iff.2 fun hlj => by
              obtain ⟨e, he, hb, heq⟩ := waits_spec hw hoj hlj
              exact hnot e he hb heq
            rw [gone_set hnl h] at hg
            cases hg
      have h2 := wpOp_putIf hoj (hfree j oj hoj hji hjun hnot) (fun cs b => Region.noSelect_spec hs i oi cs b hi) (fun cs b => Region.noSelect_spec hs j oj cs b hoj) hQ hy h1
      have hfree' : ∀ k ok, ops[k]? = some ok → k ≠ i → (listed.setIfInBounds j true).getD k true = false →
          (∀ e ∈ ok.after, Region.binds .any e = true → e.on ≠ i) → oi.apart ops ok = true := fun k ok hk hki hun hno => by
        refine hfree k ok hk hki ?_ hno
        by_cases hjk : j = k
        · subst hjk; exact hjun
        · rw [getD_set_ne true hjk] at hun; exact hun
      refine wpOp_mono (fun b v' h3 => ?_) h2
      have hS' : gone late (listed.setIfInBounds j true) = true ∨ S v' := by
        have h4 := h3.2.1
        rw [Array.setIfInBounds_comm _ _ (Ne.symm hji)] at h4
        exact h4.imp (gone_set hl) id
      refine ⟨hS', ih (listed.setIfInBounds j true) b v' hfree' (ready_mono hr (Ne.symm hji)) h3.1 hg' hS' ?_⟩
      rw [Array.setIfInBounds_comm _ _ hji]
      exact h3.2.2
/-- The beginning. -/
theorem late_start {id : Nat} {a : Act} {w : World} (S : World → Prop) (late : Nat → Bool) (hm : P.follows .mixedOrders = true) (hS : S w.drew)
    (h : S w.drew → wpLate P l.toArray Q S late l.toArray.size (Array.replicate l.toArray.size false) a w.drew) : (Code.region id l.toArray true).wp P Q a w :=
  wp_region_any hm (late_any _ _ _ _ (h hS))
section
variable {oi : Oper} {v : Value} {n : Nat} {listed : Array Bool} {a : Act} {w : World}
theorem late_skip (i : Nat) (hi : l[i]? = some oi)
    (hs : Region.noSelect l.toArray = true) (hl : late i = false) (hf : Region.free .any l.toArray listed i = true) (hr : (Region.ready .any l.toArray listed).contains i = true)
    (hg : Region.wanted oi (yielded l.toArray a.tmps) = false) (hS : gone late listed = true ∨ S w) (hQ : ∀ c a w, Q (.panic c) (a.put oi.dst undef) w → Q (.panic c) a w)
    (h : wpLate P l.toArray Q S late n (listed.setIfInBounds i true) (a.put oi.dst undef) w) : wpLate P l.toArray Q S late (n + 1) listed a w :=
  late_first (T := fun _ => True) (by simpa using hi) hs hl (.inl fun _ => trivial) hQ n listed a w (Region.free_spec (by simpa using hi) hf) (by simpa using hr) (.inr ⟨hg, rfl⟩) (.inl fun _ => trivial) hS h
/-- A worldless operation. -/
theorem late_free (i : Nat) (hi : l[i]? = some oi)
    (hs : Region.noSelect l.toArray = true) (hl : late i = false) (hf : Region.free .any l.toArray listed i = true) (hr : (Region.ready .any l.toArray listed).contains i = true)
    (hg : Region.wanted oi (yielded l.toArray a.tmps) = true) (hS : gone late listed = true ∨ S w) (hQ : ∀ c a w, Q (.panic c) (a.put oi.dst v) w → Q (.panic c) a w)
    (hv : ∀ w, (execOp a.eval oi).run P w = .ok (.value v) w)
    (h : wpLate P l.toArray Q S late n (listed.setIfInBounds i true) (a.put oi.dst v) w) : wpLate P l.toArray Q S late (n + 1) listed a w :=
  late_first (T := fun _ => True) (by simpa using hi) hs hl (.inl fun _ => trivial) hQ n listed a w (Region.free_spec (by simpa using hi) hf) (by simpa using hr) (.inl ⟨hg, fun w _ => hv w⟩) (.inl fun _ => trivial) hS h
/-- A load of what S tells. -/
theorem late_pure (i : Nat) (hi : l[i]? = some oi)
    (hs : Region.noSelect l.toArray = true) (hl : late i = false) (hf : Region.free .any l.toArray listed i = true) (hr : (Region.ready .any l.toArray listed).contains i = true)
    (hg : Region.wanted oi (yielded l.toArray a.tmps) = true) (hS : S w) (hQ : ∀ c a w, Q (.panic c) (a.put oi.dst v) w → Q (.panic c) a w)
    (hw : waits l.toArray late i = true) (hgo : gone late listed = false)
    (hv : ∀ w, S w → (execOp a.eval oi).run P w = .ok (.value v) w)
    (h : wpLate P l.toArray Q S late n (listed.setIfInBounds i true) (a.put oi.dst v) w) : wpLate P l.toArray Q S late (n + 1) listed a w :=
  late_first (T := S) (by simpa using hi) hs hl (.inr ⟨fun _ h => h, hw⟩) hQ n listed a w (Region.free_spec (by simpa using hi) hf) (by simpa using hr) (.inl ⟨hg, hv⟩) (.inr hgo) (.inr hS) h
end
/-- The one operation that may come up, ahead of the late ones. -/
theorem late_one (i : Nat) {oi : Oper} {n : Nat} {listed : Array Bool} {a : Act} {w : World} (hi : l[i]? = some oi) (hr : Region.ready .any l.toArray listed = [i])
    (h : ∀ K' : Act → World → Prop, Shut (∀ a w, S w → (S w → wpLate P l.toArray Q S late n (listed.setIfInBounds i true) a w) → K' a w) → if Region.wanted oi (yielded l.toArray a.tmps) = true then Oper.wp P oi a w K' Q else K' (a.put oi.dst undef) w) :
    wpLate P l.toArray Q S late (n + 1) listed a w := by
  refine ⟨fun h0 => (by rw [h0] at hr; cases hr), fun j hj => ?_⟩
  rw [hr] at hj
  obtain rfl : j = i := by simpa using hj
  exact wpOp_step (by simpa using hi) fun K' hK => h K' fun b v hS hW => hK b v ⟨.inr hS, hW hS⟩
/-- The one operation that may come up, late, or behind a late one. -/
theorem late_last (i : Nat) {oi : Oper} {n : Nat} {listed : Array Bool} {a : Act} {w : World} (hi : l[i]? = some oi) (hr : Region.ready .any l.toArray listed = [i]) (hl : gone late (listed.setIfInBounds i true) = true)
    (h : ∀ K' : Act → World → Prop, Shut (∀ a w, wpLate P l.toArray Q S late n (listed.setIfInBounds i true) a w → K' a w) → if Region.wanted oi (yielded l.toArray a.tmps) = true then Oper.wp P oi a w K' Q else K' (a.put oi.dst undef) w) :
    wpLate P l.toArray Q S late (n + 1) listed a w := by
  refine ⟨fun h0 => (by rw [h0] at hr; cases hr), fun j hj => ?_⟩
  rw [hr] at hj
  obtain rfl : j = i := by simpa using hj
  exact wpOp_step (by simpa using hi) fun K' hK => h K' fun b v hW => hK b v ⟨.inl hl, hW⟩
/-- One of two, ahead of the late ones. -/
theorem late_two (i j : Nat) {oi oj : Oper} {n : Nat} {listed : Array Bool} {a : Act} {w : World} (hi : l[i]? = some oi) (hj : l[j]? = some oj) (hr : Region.ready .any l.toArray listed = [i, j])
    (h : ∀ K' : Act → World → Prop, Shut (∀ a w, S w → (S w → wpLate P l.toArray Q S late n (listed.setIfInBounds i true) a w) → K' a w) → if Region.wanted oi (yielded l.toArray a.tmps) = true then Oper.wp P oi a w K' Q else K' (a.put oi.dst undef) w)
    (h' : ∀ K' : Act → World → Prop, Shut (∀ a w, S w → (S w → wpLate P l.toArray Q S late n (listed.setIfInBounds j true) a w) → K' a w) → if Region.wanted oj (yielded l.toArray a.tmps) = true then Oper.wp P oj a w K' Q else K' (a.put oj.dst undef) w) :
    wpLate P l.toArray Q S late (n + 1) listed a w := by
  refine ⟨fun h0 => (by rw [h0] at hr; cases hr), fun k hk => ?_⟩
  rw [hr] at hk
  have hk2 : k = i ∨ k = j := by simpa using hk
  rcases hk2 with rfl | rfl
  · exact wpOp_step (by simpa using hi) fun K' hK => h K' fun b v hS hW => hK b v ⟨.inr hS, hW hS⟩
  · exact wpOp_step (by simpa using hj) fun K' hK => h' K' fun b v hS hW => hK b v ⟨.inr hS, hW hS⟩
theorem late_done {n : Nat} {listed : Array Bool} {a : Act} {w : World} (hr : Region.ready .any l.toArray listed = []) (h : Q .normal a w) : wpLate P l.toArray Q S late n listed a w := by
  cases n with
  | zero => exact ⟨hr, h⟩
  | succ n => exact ⟨fun _ => h, by rw [hr]; simp⟩
end
end Go.Proofs.Ytmpjdploacfmeaa
