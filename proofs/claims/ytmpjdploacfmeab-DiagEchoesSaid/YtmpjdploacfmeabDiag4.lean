/- Contracts: which number does what, and whether words may stand behind it (package diag). -/
import Derived.Test.YtmpjdploacfmeabDiag3
namespace Go.Proofs.Ytmpjdploacfmeab
set_option linter.unusedSimpArgs false
set_option linter.unusedVariables false
open Go.RowKit

/-- What is done by a number. -/
def ofV (n : Int) : Value :=
  if 11 ≤ n ∧ n < 19 then .func (.func 32) #[] #[]
  else if n = 0 then .func (.func 33) #[] #[]
  else if n = 1 then .func (.func 34) #[] #[]
  else if n = 2 then .func (.func 35) #[] #[]
  else if n = 3 then .func (.func 36) #[] #[]
  else if n = 4 then .func (.func 37) #[] #[]
  else if n = 10 then .func (.func 38) #[] #[]
  else if n = 20 then .func (.func 39) #[] #[]
  else .nilFunc

set_option maxHeartbeats 1000000 in
theorem diag_of (n : Int) (w : World) : Calls Try.prog 23 #[.int .i64 n] w fun e w' => e = .returned (ofV n) ∧ w' = w := by
  by_cases hc : 11 ≤ n ∧ n < 19
  · have hv : ofV n = .func (.func 32) #[] #[] := by rw [ofV, if_pos hc]
    rw [hv]
    clear hv
    go_enter Try.func23, Try.ntmps23
    go_wp2_with fail
    go_ret
    exact ⟨rfl, rfl⟩
  by_cases h0 : n = 0 ∨ n = 1 ∨ n = 2 ∨ n = 3 ∨ n = 4 ∨ n = 10 ∨ n = 20
  · rcases h0 with rfl | rfl | rfl | rfl | rfl | rfl | rfl
    all_goals
      simp only [ofV]
      go_enter Try.func23, Try.ntmps23
      go_wp2_with fail
      go_ret
      exact ⟨rfl, rfl⟩
  · have hv : ofV n = .nilFunc := by
      rw [ofV, if_neg hc, if_neg (by omega), if_neg (by omega), if_neg (by omega), if_neg (by omega), if_neg (by omega), if_neg (by omega), if_neg (by omega)]
    rw [hv]
    have e0 : (n == 0) = false := by simp; omega
    have e1 : (n == 1) = false := by simp; omega
    have e2 : (n == 2) = false := by simp; omega
    have e3 : (n == 3) = false := by simp; omega
    have e4 : (n == 4) = false := by simp; omega
    have e5 : (n == 10) = false := by simp; omega
    have e6 : (n == 20) = false := by simp; omega
    clear hv h0
    rcases Int.lt_or_le n 11 with hlt | hge
    · have d1 : decide (11 ≤ n) = false := decide_eq_false (by omega)
      clear hc
      go_enter Try.func23, Try.ntmps23
      go_wp2_with fail
      go_ret
      exact ⟨rfl, rfl⟩
    · have d1 : decide (11 ≤ n) = true := decide_eq_true (by omega)
      have d2 : decide (n < 19) = false := decide_eq_false (by omega)
      clear hc
      go_enter Try.func23, Try.ntmps23
      go_wp2_with fail
      go_ret
      exact ⟨rfl, rfl⟩

/-- The word ahead, 0 where there is none. -/
def word0 (d : List Int) : Int := if 2 ≤ d.length then at2 d 0 else 0
/-- May these bytes stand behind a number? -/
def mayS (n : Int) (d : List Int) : Bool :=
  if n = 0 then decide (2 ≤ d.length) && decide (d.length ≤ 250) && decide (d.length % 2 = 0)
  else if d.length ≠ 2 then false
  else if n = 1 then decide (word0 d = 0) || decide (word0 d = 65280)
  else if n = 3 then decide (word0 d % 256 = 0)
  else decide (word0 d = 0)
theorem at2_word {d : List Int} (h : bytes8 d) (i : Nat) : 0 ≤ at2 d i ∧ at2 d i ≤ 65535 := by
  have h1 := h.at_ i
  have h2 := h.at_ (i + 1)
  unfold at2
  omega
theorem word_at0 (A : Option Addr) (n c : Nat) (d : List Int) (w : World) (h : Rd w 1 A n (nums .u8 d)) (hd : bytes8 d) (hn : n ≤ c) (hc : c ≤ 9223372036854775807) :
    Calls Try.prog 22 #[.slice A n c, .int .i64 0] w fun e w' => e = .returned (.tuple #[.int .u16 (word0 d), .bool (decide (2 ≤ d.length))]) ∧ ∃ k, w' = w.drewN k := by
  have hl := h.numlen
  by_cases h2 : 2 ≤ d.length
  · rw [word0, if_pos h2, decide_eq_true h2]
    exact word_at_ok A n c d 0 w h hd (by omega) hn hc
  · rw [word0, if_neg h2, decide_eq_false h2]
    exact (word_at_no A n c 0 w (by omega) hn hc).mono fun e w' ⟨he, hw⟩ => ⟨he, 0, hw⟩

set_option maxHeartbeats 2000000 in
theorem diag_may (A : Option Addr) (m c : Nat) (n : Int) (d : List Int) (w : World) (h : Rd w 1 A m (nums .u8 d)) (hd : bytes8 d) (hm : m ≤ c) (hc : c ≤ 9223372036854775807) :
    Calls Try.prog 24 #[.int .i64 n, .slice A m c] w fun e w' => e = .returned (.bool (mayS n d)) ∧ ∃ k, w' = w.drewN k := by
  have hl := h.numlen
  obtain ⟨x, hx⟩ : ∃ x, x = word0 d := ⟨_, rfl⟩
  have hxb : 0 ≤ x ∧ x ≤ 65535 := by
    rw [hx, word0]
    split
    · exact at2_word hd 0
    · omega
  obtain ⟨s, hs⟩ : ∃ s, s = mayS n d := ⟨_, rfl⟩
  rw [← hs]
  have HS := Lib.hid hs
  have HX := Lib.hid hx
  have HL := Lib.hid hl
  clear hs
  have hand : bits .and .u16 x 255 = x % 256 := bits_mask .u16 16 (by decide) wraps_u16 8 (by decide) x (by omega) (by omega)
  go_enter Try.func24, Try.ntmps24
  go_wp2_with fail
  refine (word_at0 A m c d _ h hd hm hc).mono ?_
  rintro e w2 ⟨rfl, k, rfl⟩
  rw [← hx]
  clear hx hl
  go_wp2_with fail
  all_goals
    go_ret
    refine ⟨congrArg Ending.returned (congrArg Value.bool ?_), k, rfl⟩
    have hs := HS.out
    rw [mayS, ← HX.out, HL.out] at hs
    rw [hs]
    clear HS hs HX HL h hd hand
    simp only [beq_iff_eq, beq_eq_false_iff_ne, bne_iff_ne, bne_eq_false_iff_eq, ne_eq] at *
    rw [Bool.eq_iff_iff]
    repeat' split
    all_goals first
      | omega
      | (simp only [Bool.and_eq_true, Bool.or_eq_true, decide_eq_true_eq, beq_iff_eq, Bool.false_eq_true, true_iff, iff_true, iff_false, false_iff]; try omega)
end Go.Proofs.Ytmpjdploacfmeab
