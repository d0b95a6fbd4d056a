/- Plain law: the document's greedy Read is readS. -/
import Derived.Test.YthdenkmmiadeiaaIdLaw
namespace Go.Proofs.Ythdenkmmiadeiaa
set_option linter.unusedSimpArgs false
set_option linter.unusedVariables false
open Go.RowKit

/-- The objects that are cut off while one fits. -/
def greedS : List Int → List (Int × List Int)
  | [] => []
  | [_] => []
  | id :: n :: r => if n.toNat ≤ r.length then (id, r.take n.toNat) :: greedS (r.drop n.toNat) else []
termination_by d => d.length
decreasing_by simp; omega
theorem greedS_nil : greedS [] = [] := by rw [greedS]
theorem greedS_one (x : Int) : greedS [x] = [] := by rw [greedS]
theorem greedS_cons (id n : Int) (r : List Int) : greedS (id :: n :: r) = if n.toNat ≤ r.length then (id, r.take n.toNat) :: greedS (r.drop n.toNat) else [] := by rw [greedS]
theorem greed_obj : ∀ (m : Nat) (d : List Int) (S : List (Int × List Int)), d.length ≤ m → objS d = some S → greedS d = S := by
  intro m
  induction m with
  | zero =>
    intro d S hd h
    obtain rfl : d = [] := List.eq_nil_of_length_eq_zero (by omega)
    rw [objS_nil] at h
    cases h
    exact greedS_nil
  | succ m ih =>
    intro d S hd h
    match d, hd, h with
    | [], _, h =>
      rw [objS_nil] at h
      cases h
      exact greedS_nil
    | [x], _, h =>
      rw [objS_one] at h
      cases h
    | id :: n :: r, hd, h =>
      rw [objS_cons] at h
      rw [greedS_cons]
      split at h
      · rename_i hn
        rw [if_pos hn]
        cases ho : objS (r.drop n.toNat) with
        | none => rw [ho] at h; cases h
        | some T =>
          rw [ho] at h
          cases h
          rw [ih _ T (by simp at hd ⊢; omega) ho]
      · cases h
/-- What the document's Read tells. -/
def refReadS (d : List Int) : Option Ps := if d.length < 6 ∨ d.getD 2 0 < 128 then none else if writeS (ptOf d (greedS (d.drop 6))) = some d then some (ptOf d (greedS (d.drop 6))) else none
theorem refRead_eq {d : List Int} (h8 : bytes8 d) : refReadS d = readS d := by
  cases hr : readS d with
  | some p =>
    have hw := write_read h8 hr
    rw [readS] at hr
    split at hr
    · cases hr
    · rename_i hb
      cases ho : objS (d.drop 6) with
      | none => rw [ho] at hr; cases hr
      | some S =>
        rw [ho, readO] at hr
        split at hr
        · rename_i hc
          cases hr
          have hg := greed_obj _ _ _ (Nat.le_refl _) ho
          have hlv := (may_parts hc.2).2.2.2.1
          have h6 : ¬ (d.length < 6 ∨ d.getD 2 0 < 128) := by
            unfold hdrBad at hb
            simp only [ptOf] at hlv
            omega
          rw [refReadS, if_neg h6, hg, if_pos hw]
        · cases hr
  | none =>
    rw [refReadS]
    split
    · rfl
    · split
      · rename_i h
        rw [(read_write h).1] at hr
        cases hr
      · rfl
end Go.Proofs.Ythdenkmmiadeiaa
