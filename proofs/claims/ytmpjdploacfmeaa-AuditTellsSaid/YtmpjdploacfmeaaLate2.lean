/- XLate's law of a load that a late operation waits for through others. No program is spoken of. -/
import Derived.Test.YtmpjdploacfmeaaLate
namespace Go.Proofs.Ytmpjdploacfmeaa
set_option linter.unusedSimpArgs false
set_option linter.unusedVariables false

/-- Does number j wait for number i, directly or through others? -/
def depB (ops : Array Oper) (i : Nat) : Nat → Nat → Bool
  | 0, _ => false
  | f + 1, j => match ops[j]? with
    | some o => o.after.any fun e => Region.binds .any e && (e.on == i || depB ops i f e.on)
    | none => false
/-- Each late operation waits for number i. -/
def waitsT (ops : Array Oper) (late : Nat → Bool) (i : Nat) : Bool :=
  (List.range ops.size).all fun j => !late j || depB ops i ops.size j
/-- What is listed waits for nothing that is not. -/
def closedB (ops : Array Oper) (listed : Array Bool) : Bool :=
  (List.range ops.size).all fun j => !listed.getD j false || (match ops[j]? with
    | some o => o.after.all fun e => !Region.binds .any e || listed.getD e.on false
    | none => true)
def Closed (ops : Array Oper) (listed : Array Bool) : Prop := ∀ j o, ops[j]? = some o → listed.getD j false = true → ∀ e ∈ o.after, Region.binds .any e = true → listed.getD e.on false = true
theorem closed_of {ops : Array Oper} {listed : Array Bool} (h : closedB ops listed = true) : Closed ops listed := by
  intro j o ho hl e he hb
  have h1 := List.all_eq_true.1 h j (List.mem_range.2 (Array.getElem?_eq_some_iff.1 ho).1)
  rw [hl, ho] at h1
  simp only [Bool.not_true, Bool.false_or, Array.all_eq_true] at h1
  obtain ⟨k, hk, rfl⟩ := Array.mem_iff_getElem.1 he
  have h2 := h1 k hk
  rw [hb] at h2
  simpa using h2
theorem dep_listed {ops : Array Oper} {listed : Array Bool} {i : Nat} (hc : Closed ops listed) : ∀ (f j : Nat) (o : Oper), ops[j]? = some o → (∀ e ∈ o.after, Region.binds .any e = true → listed.getD e.on false = true) → depB ops i f j = true → listed.getD i false = true
  | 0, _, _, _, _, h => by simp [depB] at h
  | f + 1, j, o, ho, hall, h => by
    rw [depB, ho] at h
    simp only [Array.any_eq_true, Bool.and_eq_true, Bool.or_eq_true, beq_iff_eq] at h
    obtain ⟨k, hk, hb, h1⟩ := h
    have hl := hall o.after[k] (Array.getElem_mem hk) hb
    rcases h1 with h1 | h1
    · rw [← h1]; exact hl
    · cases ho' : ops[(o.after[k]).on]? with
      | none =>
        cases f with
        | zero => simp [depB] at h1
        | succ f => rw [depB, ho'] at h1; cases h1
      | some o' => exact dep_listed hc f _ o' ho' (fun e he hb' => hc _ o' ho' hl e he hb') h1
theorem closed_set {ops : Array Oper} {listed : Array Bool} {j : Nat} {oj : Oper} (h : Closed ops listed) (hj : ops[j]? = some oj) (hall : ∀ e ∈ oj.after, Region.binds .any e = true → listed.getD e.on false = true) : Closed ops (listed.setIfInBounds j true) := by
  intro k o ho hl e he hb
  refine getD_set_true ?_
  by_cases hkj : k = j
  · subst hkj
    rw [hj] at ho
    cases ho
    exact hall e he hb
  · exact h k o ho (by rwa [getD_set_ne false (fun e => hkj e.symm)] at hl) e he hb
section
variable {P : Program} {l : List Oper} {Q : Exit → Act → World → Prop} {S : World → Prop} {late : Nat → Bool}
theorem late_firstT {ops : Array Oper} {i : Nat} {oi : Oper} {v : Value} (hi : ops[i]? = some oi) (hs : Region.noSelect ops = true) (hl : late i = false)
    (hw : waitsT ops late i = true) (hQ : ∀ c a w, Q (.panic c) (a.put oi.dst v) w → Q (.panic c) a w) :
    ∀ (n : Nat) (listed : Array Bool) (a : Act) (w : World),
      (∀ j oj, ops[j]? = some oj → j ≠ i → listed.getD j true = false → (∀ e ∈ oj.after, Region.binds .any e = true → e.on ≠ i) → oi.apart ops oj = true) →
      i ∈ Region.ready .any ops listed → YieldsIf P ops S oi v a → gone late listed = false → S w → Closed ops listed →
      wpLate P ops Q S late n (listed.setIfInBounds i true) (a.put oi.dst v) w → wpLate P ops Q S late (n + 1) listed a w := by
  intro n
  induction n with
  | zero =>
    intro listed a w _ hr hy hg hS _ H
    refine ⟨fun h => (by rw [h] at hr; cases hr), fun j hj => ?_⟩
    by_cases hji : j = i
    · subst hji; exact hy.wpOp hi hS ⟨.inr hS, H⟩
    · have := ready_mono hj hji
      rw [H.1] at this
      cases this
  | succ n ih =>
    intro listed a w hfree hr hy hg hS hcl H
    refine ⟨fun h => (by rw [h] at hr; cases hr), fun j hj => ?_⟩
    by_cases hji : j = i
    · subst hji; exact hy.wpOp hi hS ⟨.inr hS, H⟩
    · have h1 := H.2 j (ready_mono hj hji)
      obtain ⟨hjun, oj, hoj, hall⟩ := mem_ready.1 hj
      have hnot := not_waits hr hall
      have hnl : late j = false := Bool.eq_false_iff.2 fun hlj => by
        have h2 := List.all_eq_true.1 hw j (List.mem_range.2 (Array.getElem?_eq_some_iff.1 hoj).1)
        rw [hlj] at h2
        have h3 := dep_listed hcl ops.size j oj hoj hall (by simpa using h2)
        have h0 := (mem_ready.1 hr).1
        rcases Nat.lt_or_ge i listed.size with h' | h'
        · simp [h'] at h0 h3; rw [h0] at h3; cases h3
        · simp [Array.getElem?_eq_none h'] at h3
      have hg' : gone late (listed.setIfInBounds j true) = false := Bool.eq_false_iff.2 fun h => by
        rw [gone_set hnl h] at hg
        cases hg
      have h2 := wpOp_putIf hoj (hfree j oj hoj hji hjun hnot) (fun cs b => Region.noSelect_spec hs i oi cs b hi) (fun cs b => Region.noSelect_spec hs j oj cs b hoj) hQ hy h1
      have hfree' : ∀ k ok, ops[k]? = some ok → k ≠ i → (listed.setIfInBounds j true).getD k true = false →
          (∀ e ∈ ok.after, Region.binds .any e = true → e.on ≠ i) → oi.apart ops ok = true := fun k ok hk hki hun hno => by
        refine hfree k ok hk hki ?_ hno
        by_cases hjk : j = k
        · subst hjk; exact hjun
        · rw [getD_set_ne true hjk] at hun; exact hun
      refine wpOp_mono (fun b v' h3 => ?_) h2
      have hS' : gone late (listed.setIfInBounds j true) = true ∨ S v' := by
        have h4 := h3.2.1
        rw [Array.setIfInBounds_comm _ _ (Ne.symm hji)] at h4
        exact h4.imp (gone_set hl) id
      have hS2 : S v' := by
        rcases hS' with h | h
        · rw [hg'] at h; cases h
        · exact h
      refine ⟨hS', ih (listed.setIfInBounds j true) b v' hfree' (ready_mono hr (Ne.symm hji)) h3.1 hg' hS2 (closed_set hcl hoj hall) ?_⟩
      rw [Array.setIfInBounds_comm _ _ hji]
      exact h3.2.2
/-- A load of what S tells. -/
theorem late_pureT {oi : Oper} {v : Value} {n : Nat} {listed : Array Bool} {a : Act} {w : World} (i : Nat) (hi : l[i]? = some oi)
    (hs : Region.noSelect l.toArray = true) (hl : late i = false) (hf : Region.free .any l.toArray listed i = true) (hr : (Region.ready .any l.toArray listed).contains i = true)
    (hg : Region.wanted oi (yielded l.toArray a.tmps) = true) (hS : S w) (hQ : ∀ c a w, Q (.panic c) (a.put oi.dst v) w → Q (.panic c) a w)
    (hw : waitsT l.toArray late i = true) (hgo : gone late listed = false) (hcl : closedB l.toArray listed = true)
    (hv : ∀ w, S w → (execOp a.eval oi).run P w = .ok (.value v) w)
    (h : wpLate P l.toArray Q S late n (listed.setIfInBounds i true) (a.put oi.dst v) w) : wpLate P l.toArray Q S late (n + 1) listed a w :=
  late_firstT (by simpa using hi) hs hl hw hQ n listed a w (Region.free_spec (by simpa using hi) hf) (by simpa using hr) (.inl ⟨hg, hv⟩) hgo hS (closed_of hcl) h
end
end Go.Proofs.Ytmpjdploacfmeaa
