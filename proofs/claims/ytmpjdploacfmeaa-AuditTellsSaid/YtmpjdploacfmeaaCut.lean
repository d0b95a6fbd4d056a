/- Parts of slices: one run equation that holds whatever the capacity is. No program is spoken of. -/
import Derived.Test.YtmpjdploacfmeaaBase2
namespace Go.Proofs.Ytmpjdploacfmeaa
set_option linter.unusedSimpArgs false
set_option linter.unusedVariables false
open Go.RowKit

theorem add_zero_ (a : Addr) : a.add 0 = a := by unfold Addr.add; simp
/-- 'x[k:]'. -/
theorem cut_run {P : Program} {T e : TypeId} {size : Nat} (hT : P.underlying T = some (.slice e)) (hinfo : (P.info? e).map (·.size) = some size) (A : Option Addr) (n c k : Nat) (kv : Int) (hkv : kv = (k : Int)) (h : k ≤ n) (hc : n ≤ c) :
    ∃ A', (∀ w, (Instr.slice T (.slice A n c) (some (.int .i64 kv)) none none).run P w = .ok (.slice A' (n - k) (c - k)) w) ∧ (∀ w xs, Rd w size A n xs → Rd w size A' (n - k) (xs.drop (k * size))) ∧ ∀ ad, A' = some ad → ∃ ad0, A = some ad0 ∧ ad.block = ad0.block := by
  subst hkv
  refine ⟨if c = k then A else A.map (·.add (k * size)), fun w => ?_, fun w xs hr => hr.cut h hc, fun ad hh => ?_⟩
  · obtain ⟨i, hi, hs⟩ : ∃ i, P.info? e = some i ∧ i.size = size := by
      cases hh : P.info? e with
      | none => rw [hh] at hinfo; cases hinfo
      | some i => rw [hh] at hinfo; exact ⟨i, rfl, by simpa using hinfo⟩
    simp [Instr.slice, Instr.sliceBounds, Instr.sliceBound, asIntOf, run_underlying hT, h, sizeOf, typeInfo, hi, hs, go_sem]
  · split at hh
    · exact ⟨ad, hh, rfl⟩
    · cases A with
      | none => cases hh
      | some a0 => cases hh; exact ⟨a0, rfl, block_add _ _⟩
/-- 'x[:k]'. -/
theorem take_run {P : Program} {T e : TypeId} {size : Nat} (hT : P.underlying T = some (.slice e)) (hinfo : (P.info? e).map (·.size) = some size) (A : Option Addr) (n c k : Nat) (kv : Int) (hkv : kv = (k : Int)) (h : k ≤ c) (w : World) :
    (Instr.slice T (.slice A n c) none (some (.int .i64 kv)) none).run P w = .ok (.slice A k c) w := by
  subst hkv
  obtain ⟨i, hi, hs⟩ : ∃ i, P.info? e = some i ∧ i.size = size := by
    cases hh : P.info? e with
    | none => rw [hh] at hinfo; cases hinfo
    | some i => rw [hh] at hinfo; exact ⟨i, rfl, by simpa using hinfo⟩
  simp [Instr.slice, Instr.sliceBounds, Instr.sliceBound, asIntOf, run_underlying hT, h, sizeOf, typeInfo, hi, go_sem]
/-- 'x[j:k]'. -/
theorem mid_run {P : Program} {T e : TypeId} {size : Nat} (hT : P.underlying T = some (.slice e)) (hinfo : (P.info? e).map (·.size) = some size) (A : Option Addr) (n c j k : Nat) (jv kv : Int) (hjv : jv = (j : Int)) (hkv : kv = (k : Int)) (hj : j ≤ k) (h : k ≤ n) (hc : n ≤ c) :
    ∃ A', (∀ w, (Instr.slice T (.slice A n c) (some (.int .i64 jv)) (some (.int .i64 kv)) none).run P w = .ok (.slice A' (k - j) (c - j)) w) ∧ (∀ w xs, Rd w size A n xs → Rd w size A' (k - j) ((xs.take (k * size)).drop (j * size))) ∧ ∀ ad, A' = some ad → ∃ ad0, A = some ad0 ∧ ad.block = ad0.block := by
  subst hjv hkv
  refine ⟨if c = j then A else A.map (·.add (j * size)), fun w => ?_, fun w xs hr => (hr.take_ h).cut hj (by omega), fun ad hh => ?_⟩
  · obtain ⟨i, hi, hs⟩ : ∃ i, P.info? e = some i ∧ i.size = size := by
      cases hh : P.info? e with
      | none => rw [hh] at hinfo; cases hinfo
      | some i => rw [hh] at hinfo; exact ⟨i, rfl, by simpa using hinfo⟩
    have h2 : k ≤ c := by omega
    simp [Instr.slice, Instr.sliceBounds, Instr.sliceBound, asIntOf, run_underlying hT, hj, h2, sizeOf, typeInfo, hi, hs, go_sem]
  · split at hh
    · exact ⟨ad, hh, rfl⟩
    · cases A with
      | none => cases hh
      | some a0 => cases hh; exact ⟨a0, rfl, block_add _ _⟩
end Go.Proofs.Ytmpjdploacfmeaa
