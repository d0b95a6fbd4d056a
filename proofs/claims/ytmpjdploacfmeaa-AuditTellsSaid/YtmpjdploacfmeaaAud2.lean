/- Contract of split.Right. -/
import Derived.Test.YtmpjdploacfmeaaAud1
namespace Go.Proofs.Ytmpjdploacfmeaa
set_option linter.unusedSimpArgs false
set_option linter.unusedVariables false
open Go.RowKit

set_option maxHeartbeats 2000000 in
set_option maxRecDepth 100000 in
theorem split_right (A : Option Addr) (n c : Nat) (l : List Hd) (f : Int) (w : World) (h : Rd w 3 A n (l.flatMap hdc)) (hn : n ≤ 9223372036854775807) (hf : 0 ≤ f ∧ f ≤ 1099511627776) :
    Calls Try.prog 65 #[.slice A n c, .int .i64 f] w fun e w' => e = .returned (.bool (rightH f l)) ∧ Fr nob w w' := by
  have hln : l.length = n := by
    have := h.1
    rw [flat_len hdc 3 l hdc_len] at this
    omega
  have hv : rightH f l = ordH f l := by rw [rightH, decide_eq_true hf]; rfl
  rw [hv]
  have HLN := Lib.hid hln
  have HR := Lib.hid h
  have hcl := clamp_any f w
  rw [show clampT f = f by rw [clampT, if_neg (by omega), if_neg (by omega)]] at hcl
  have HCL := Lib.hid hcl
  have hff : (f == f) = true := by simp
  clear hln hv h hcl
  go_enter Try.func65, Try.ntmps65
  go_wp2_with fail
  refine HCL.out.mono ?_
  rintro e w1 ⟨rfl, rfl⟩
  go_wp2_with fail
  go_loopw [1, 13] (fun fv iv wr => ∃ (k : Nat) (f' : Int), k ≤ n ∧ iv = .int .i64 k ∧ fv = .int .i64 f' ∧ Hid (ordH f l = ordH f' (l.drop k)) ∧ Hid (Fr nob w wr)) (fun _ iv _ => n - (intOf iv).toNat)
  case atStart => exact ⟨0, f, by omega, rfl, rfl, Lib.hid rfl, Lib.hid (Fr.refl _ _)⟩
  case round =>
    obtain ⟨k, f', hk, rfl, rfl, ho, hfr⟩ := hrel
    by_cases hlt : k < n
    · obtain ⟨b, o, x, rfl, hb, hx, hc0, hc1, hc2⟩ := hd_at (HR.out.nob hfr.out) hlt
      have hi0 : (0 : Int) ≤ (k : Int) ∧ (k : Int) < (n : Int) := ⟨by omega, by omega⟩
      have hd : l.drop k = x :: l.drop (k + 1) := by
        obtain ⟨h1, h2⟩ := List.getElem?_eq_some_iff.1 hx
        rw [List.drop_eq_getElem_cons h1, h2]
      obtain ⟨a, xb, xx⟩ := x
      dsimp only at hc0 hc1 hc2
      have HO := Lib.hid (show ordH f l = (!(decide (a < f') || decide (1099511627776 < a)) && ordH a (l.drop (k + 1))) by rw [ho.out, hd, ordH])
      clear hx hd ho
      by_cases hbad : a < f' ∨ 1099511627776 < a
      · have hz : (!(decide (a < f') || decide (1099511627776 < a)) && ordH a (l.drop (k + 1))) = false := by
          rcases hbad with h1 | h1 <;> simp [h1]
        have HZ := Lib.hid hz
        clear hz
        have hb2 : decide (a < f') = true ∨ (decide (a < f') = false ∧ decide (1099511627776 < a) = true) := by
          by_cases h1 : a < f'
          · exact .inl (decide_eq_true h1)
          · exact .inr ⟨decide_eq_false h1, decide_eq_true (by omega)⟩
        clear hbad
        rcases hb2 with h1 | ⟨h1, h2⟩
        all_goals
          go_wp2_with fail
          go_ret
          exact ⟨by rw [HO.out, HZ.out]; rfl, hfr.out.alloc _⟩
      · have h1 : decide (a < f') = false := decide_eq_false (by omega)
        have h2 : decide (1099511627776 < a) = false := decide_eq_false (by omega)
        have HZ := Lib.hid (show ordH f l = ordH a (l.drop (k + 1)) by rw [HO.out, h1, h2]; rfl)
        clear hbad HO
        go_wp2_with fail
        go_roundw
        case rel => exact ⟨k + 1, a, by omega, by go_num, rfl, HZ, Lib.hid (hfr.out.alloc _)⟩
        case measure => simp [intOf]; omega
    · obtain rfl : k = n := by omega
      have HZ := Lib.hid (show ordH f l = true by rw [ho.out, List.drop_eq_nil_of_le (by rw [HLN.out]; omega)]; rfl)
      clear ho
      go_wp2_with fail
      go_ret
      exact ⟨by rw [HZ.out]; rfl, hfr.out⟩
end Go.Proofs.Ytmpjdploacfmeaa
