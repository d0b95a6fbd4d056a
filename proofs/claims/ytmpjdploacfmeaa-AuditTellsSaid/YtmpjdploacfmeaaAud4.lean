/- A byte more for the last row. -/
import Derived.Test.YtmpjdploacfmeaaAud3
namespace Go.Proofs.Ytmpjdploacfmeaa
set_option linter.unusedSimpArgs false
set_option linter.unusedVariables false
open Go.RowKit

theorem row_put {w : World} {base n c g i : Nat} {e : TypeId} {xs : List Value} (h : w.ownsRow base e 1 (.slice (some ⟨g, 0, none⟩) n c) n xs) (u : Value) :
    (w.setCell ⟨g, i, none⟩ u).ownsRow base e 1 (.slice (some ⟨g, 0, none⟩) n c) n (xs.set i u) := by
  obtain ⟨h1, h2⟩ := h
  refine ⟨by simpa using h1, ?_⟩
  rcases h2 with ⟨h2, _⟩ | ⟨g', cap, cur, hv, hb, hh, hc, hm, hs, ht⟩
  · cases h2
  · cases hv
    refine .inr ⟨g, c, cur.setIfInBounds i u, rfl, hb, ?_, hc, hm, by simpa using hs, ?_⟩
    · exact Blk.set_ hh i u
    · rw [Array.toList_setIfInBounds, List.take_set, ht]
theorem row_addr {w : World} {base n c : Nat} {A : Option Addr} {e : TypeId} {xs : List Value} (h : w.ownsRow base e 1 (.slice A n c) n xs) (hn : 0 < n) : ∃ g, A = some ⟨g, 0, none⟩ ∧ base ≤ g := by
  rcases h.2 with ⟨h2, h3⟩ | ⟨g', cap, cur, hv, hb, hh, hc, hm, hs, ht⟩
  · omega
  · cases hv; exact ⟨g', rfl, hb⟩
theorem WsR.wrote {w w1 w6 : World} {base : Nat} {og oc : Nat} {done : List (List Int)} {cur : List Int} {b : Int} {vs : List Value} {cv v1 : Value} {B : Nat}
    (h1 : vs.length = done.length) (h2 : w.ownsRow base 47 1 (.slice (some ⟨og, 0, none⟩) (done.length + 1) oc) (done.length + 1) (vs ++ [cv]))
    (h3 : ∀ (i : Nat) v, vs[i]? = some v → ∃ f, done[i]? = some f ∧ InnR w B v f) (h4 : w.ownsRow B 5 1 cv cur.length (nums .u8 cur)) (h5 : base ≤ B) (h6 : B ≤ w.heap.size)
    (hf : Fr nob w w1) (hg : w1.grownBy w6 cv.ownBlock) (hown : w6.ownsRow B 5 1 v1 (cur.length + 1) (nums .u8 (cur ++ [b]))) :
    WsR (w6.setCell ⟨og, done.length, none⟩ v1) base (.slice (some ⟨og, 0, none⟩) (done.length + 1) oc) done (cur ++ [b]) ∧ (∀ {S : Nat → Prop} {w0 : World}, Fr S w0 w → (∀ k, base ≤ k → S k ∨ w0.heap.size ≤ k) → Fr S w0 (w6.setCell ⟨og, done.length, none⟩ v1)) := by
  have hg6 : Fr (fun k => some k = cv.ownBlock) w w6 := hf.of_nob.trans ((Fr.refl (fun k => some k = cv.ownBlock) w1).grown hg (fun k hk => .inl hk.symm)) (fun _ _ h => h)
  have hne : ∀ k cs t, t ≠ 5 → Blk w k t cs → ¬ some k = cv.ownBlock := fun k cs t ht hb e => by
    obtain ⟨cs', hcs'⟩ := own_block h4 k e.symm
    unfold Blk at hb
    rw [hb] at hcs'
    cases hcs'
    exact ht rfl
  have ho6 := own_fr h2 hg6 (fun k hk => by
    obtain ⟨cs, hcs⟩ := own_block h2 k hk
    exact hne k cs _ (by decide) hcs)
  obtain ⟨ocs, hob⟩ := own_block ho6 og rfl
  have hob6 : Blk w6 og 47 ocs := hob
  have hset : (vs ++ [cv]).set done.length v1 = vs ++ [v1] := by
    rw [← h1, List.set_append_right _ _ (by omega), Nat.sub_self]
    rfl
  have ho7 := row_put (i := done.length) ho6 v1
  rw [hset] at ho7
  have hfs : Fr (fun k => k = og) w6 (w6.setCell ⟨og, done.length, none⟩ v1) := (Fr.refl (fun k => k = og) w6).set_ (p := ⟨og, done.length, none⟩) (.inl rfl) v1
  have hog : base ≤ og := by
    obtain ⟨_, hh⟩ := own_block h2 og rfl
    exact own_at h2 og rfl
  refine ⟨⟨vs, v1, B, h1, ho7, fun i v hv => ?_, ?_, h5, Nat.le_trans h6 (Nat.le_trans hg6.size hfs.size)⟩, fun {S w0} h0 hS => ?_⟩
  · obtain ⟨f, hf', hr⟩ := h3 i v hv
    refine ⟨f, hf', (hr.fr hg6 (fun k cs hk _ e => ?_)).fr hfs (fun k cs _ hb e => ?_)⟩
    · have := own_at h4 k e.symm
      omega
    · subst e
      unfold Blk at hb hob6
      rw [hob6] at hb
      cases hb
  · have := own_set (i := done.length) hown hob6 (by decide) v1
    simpa using this
  · have h7 : Fr S w0 w6 := ⟨hg6.os.trans h0.os, hg6.tape.trans h0.tape, hg6.output.trans h0.output, Nat.le_trans h0.size hg6.size, fun k hk hn => (hg6.block k (Nat.lt_of_lt_of_le hk h0.size) (fun e => by
      have := own_at h4 k e.symm
      rcases hS k (by omega) with h | h
      · exact hn h
      · omega)).trans (h0.block k hk hn)⟩
    exact h7.set_ (p := ⟨og, done.length, none⟩) (hS og hog) v1
end Go.Proofs.Ytmpjdploacfmeaa
