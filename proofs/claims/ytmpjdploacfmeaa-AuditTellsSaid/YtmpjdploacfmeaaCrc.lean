/- Contracts of the document's sums (bilgeref03, bilgeref04). -/
import Derived.Test.YtmpjdploacfmeaaRows
import Derived.Test.YtmpjdploacfmeaaNums
import Derived.Test.YtmpjdploacfmeaaOwn
import Derived.Test.YtmpjdploacfmeaaCrcLaw
namespace Go.Proofs.Ytmpjdploacfmeaa
set_option linter.unusedSimpArgs false
set_option linter.unusedVariables false
open Go.RowKit

theorem bit_is (r : Nat) (one : Bool) : bitT (r ^^^ (if one then 1 else 0)) = if (decide (r % 2 = 1) != one) then (r / 2) ^^^ 40961 else r / 2 := by
  have h := xor_par r (if one then 1 else 0)
  unfold bitT
  rw [Nat.xor_div_two]
  cases one with
  | false =>
    simp only [Bool.false_eq_true, if_false, Nat.zero_mod, Nat.add_zero, Nat.mod_mod] at h ⊢
    simp
  | true =>
    simp only [if_true] at h ⊢
    rcases Nat.mod_two_eq_zero_or_one r with hr | hr <;> rw [hr] at h <;> simp [h, hr]
set_option maxHeartbeats 1000000 in
set_option maxRecDepth 100000 in
theorem bit_any (r : Nat) (one : Bool) (w : World) (hr : r < 65536) :
    Calls Try.prog 88 #[.int .u16 (r : Int), .bool one] w fun e w' => e = .returned (.int .u16 ((bitT (r ^^^ (if one then 1 else 0)) : Nat) : Int)) ∧ w = w' := by
  have hr2 : 0 ≤ (r : Int) ∧ (r : Int) ≤ 65535 := by omega
  have hx := bits_xor_u16_nat (r / 2) 40961 (by omega) (by omega)
  have hv : ((bitT (r ^^^ (if one then 1 else 0)) : Nat) : Int) = if (decide (r % 2 = 1) != one) then bits .xor .u16 ((r : Int) / 2) 40961 else (r : Int) / 2 := by
    rw [bit_is r one]
    split
    · rw [← hx]; rfl
    · rfl
  have hpar : ((r : Int) % 2 == 1) = decide (r % 2 = 1) := by
    rw [Bool.eq_iff_iff]
    simp
    omega
  obtain ⟨p, hp⟩ : ∃ p, p = decide (r % 2 = 1) := ⟨_, rfl⟩
  obtain ⟨v, hve⟩ : ∃ v, v = ((bitT (r ^^^ (if one then 1 else 0)) : Nat) : Int) := ⟨_, rfl⟩
  rw [← hp] at hpar hv
  rw [← hve] at hv ⊢
  have HV := Lib.hid hv
  clear hp hx hve hv
  cases one <;> cases p
  all_goals
    go_enter Try.func88, Try.ntmps88
    go_wp2_with fail
    go_ret
    exact ⟨by rw [HV.out]; rfl, rfl⟩
set_option maxHeartbeats 1000000 in
set_option maxRecDepth 100000 in
theorem byte_any (r b : Nat) (w : World) (hr : r < 65536) (hb : b < 256) :
    Calls Try.prog 86 #[.int .u16 (r : Int), .int .u8 (b : Int)] w fun e w' => e = .returned (.int .u16 ((stepD b 8 r : Nat) : Int)) ∧ w = w' := by
  go_enter Try.func86, Try.ntmps86
  go_wp2_with fail
  go_loop [0, 5] (fun rv iv => ∃ k x : Nat, k ≤ 8 ∧ iv = .int .i64 (k : Int) ∧ rv = .int .u16 (x : Int) ∧ x < 65536 ∧ Hid (x = stepD b k r)) (fun _ iv => 8 - (intOf iv).toNat)
  case atStart => exact ⟨0, r, by omega, rfl, rfl, hr, Lib.hid rfl⟩
  case round =>
    obtain ⟨k, x, hk, rfl, rfl, hx, hxe⟩ := hrel
    by_cases hlt : k < 8
    · have hbit := Lib.hid (fun o => bit_any x o w hx)
      have hnext : bitT (x ^^^ (if decide (b / 2 ^ k % 2 = 1) then 1 else 0)) = stepD b (k + 1) r := by
        rw [stepD, ← hxe.out]
        rcases Nat.mod_two_eq_zero_or_one (b / 2 ^ k) with h | h <;> simp [h]
      have HN := Lib.hid hnext
      have hbt : (((b : Int) / 2 ^ k).tmod 2 == 1) = decide (b / 2 ^ k % 2 = 1) := by
        have e1 : (b : Int) / 2 ^ k = ((b / 2 ^ k : Nat) : Int) := by rw [Int.natCast_ediv]; simp
        rw [e1, Int.tmod_eq_emod_of_nonneg (Int.natCast_nonneg _), Bool.eq_iff_iff]
        simp
        omega
      clear hnext
      go_wp2_with fail
      refine (hbit.out _).mono ?_
      rintro e w1 ⟨rfl, rfl⟩
      rw [HN.out]
      have hlt2 : stepD b (k + 1) r < 65536 := stepD_lt hr _
      go_wp2_with fail
      go_round
      case rel => exact ⟨k + 1, stepD b (k + 1) r, by omega, by go_num, rfl, hlt2, Lib.hid rfl⟩
      case measure => simp [intOf]; omega
    · obtain rfl : k = 8 := by omega
      go_wp2_with fail
      go_ret
      exact ⟨by rw [← hxe.out]; rfl, rfl⟩
set_option maxHeartbeats 1000000 in
set_option maxRecDepth 100000 in
theorem rem_any (r : Nat) (A : Option Addr) (n c : Nat) (l : List Int) (w : World) (hr : r < 65536) (h : Rd w 1 A n (nums .u8 l)) (hl : ∀ x ∈ l, 0 ≤ x ∧ x ≤ 255) (hn : n ≤ 9223372036854775807) :
    Calls Try.prog 83 #[.int .u16 (r : Int), .slice A n c] w fun e w' => e = .returned (.int .u16 ((sumS r l : Nat) : Int)) ∧ w = w' := by
  have hln := h.numlen
  have HL := Lib.hid hl
  have HLN := Lib.hid hln
  clear hl hln
  go_enter Try.func83, Try.ntmps83
  go_wp2_with fail
  go_loop [0, 5] (fun rv iv => ∃ k x : Nat, k ≤ n ∧ iv = .int .i64 (k : Int) ∧ rv = .int .u16 (x : Int) ∧ x < 65536 ∧ Hid (x = sumS r (l.take k))) (fun _ iv => n - (intOf iv).toNat)
  case atStart => exact ⟨0, r, by omega, rfl, rfl, hr, Lib.hid rfl⟩
  case round =>
    obtain ⟨k, x, hk, rfl, rfl, hx, hxe⟩ := hrel
    by_cases hlt : k < n
    · obtain ⟨b, o, rfl, hb, hc⟩ := h.num (i := k) hlt
      have hlk : k < l.length := by rw [HLN.out]; exact hlt
      have hy := HL.out (l.getD k 0) (by rw [List.getD_eq_getElem?_getD, List.getElem?_eq_getElem hlk]; exact List.getElem_mem hlk)
      obtain ⟨y, hye⟩ : ∃ y : Nat, (y : Int) = l.getD k 0 := ⟨(l.getD k 0).toNat, by omega⟩
      have hy2 : y < 256 := by omega
      have HN := Lib.hid (show stepD y 8 x = sumS r (l.take (k + 1)) by rw [sumS_take hlk, ← hxe.out, ← hye, Int.toNat_natCast, upd_steps x y hy2])
      rw [← hye] at hc
      have hby := Lib.hid (byte_any x y w hx hy2)
      have hlt2 : stepD y 8 x < 65536 := stepD_lt hx _
      have hi0 : (0 : Int) ≤ (k : Int) ∧ (k : Int) < (n : Int) := ⟨by omega, by omega⟩
      clear hye hy hlk
      go_wp2_with fail
      refine hby.out.mono ?_
      rintro e w1 ⟨rfl, rfl⟩
      go_wp2_with fail
      go_round
      case rel => exact ⟨k + 1, stepD y 8 x, by omega, by go_num, rfl, hlt2, HN⟩
      case measure => simp [intOf]; omega
    · obtain rfl : k = n := by omega
      go_wp2_with fail
      go_ret
      exact ⟨by rw [hxe.out, List.take_of_length_le (by rw [HLN.out]; omega)]; rfl, rfl⟩
set_option maxHeartbeats 1000000 in
set_option maxRecDepth 100000 in
theorem ref04_sum (A : Option Addr) (n c : Nat) (l : List Int) (w : World) (h : Rd w 1 A n (nums .u8 l)) (hl : ∀ x ∈ l, 0 ≤ x ∧ x ≤ 255) (hn : n ≤ 9223372036854775807) :
    Calls Try.prog 81 #[.slice A n c] w fun e w' => e = .returned (.int .u16 ((sumS 65535 l : Nat) : Int)) ∧ w = w' := by
  have hrem := rem_any 65535 A n c l w (by omega) h hl hn
  clear h hl
  go_enter Try.func81, Try.ntmps81
  go_wp2_with fail
  refine hrem.mono ?_
  rintro e w1 ⟨rfl, rfl⟩
  go_wp2_with fail
  go_ret
  exact ⟨rfl, rfl⟩
end Go.Proofs.Ytmpjdploacfmeaa
