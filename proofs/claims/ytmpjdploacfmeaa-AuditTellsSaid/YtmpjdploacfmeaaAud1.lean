/- Contracts of the small tests behind an audit: clock.Right, Clamp, the document's Right, filter.Right. -/
import Derived.Test.YtmpjdploacfmeaaRows
import Derived.Test.YtmpjdploacfmeaaNums
import Derived.Test.YtmpjdploacfmeaaOwn
import Derived.Test.YtmpjdploacfmeaaMix
import Derived.Test.YtmpjdploacfmeaaLate
namespace Go.Proofs.Ytmpjdploacfmeaa
set_option linter.unusedSimpArgs false
set_option linter.unusedVariables false
open Go.RowKit

/-- Times that may be. -/
def rightT (tc ts tl tt : Int) : Bool := decide (1 ≤ tc ∧ tc ≤ ts ∧ ts < tl ∧ tl ≤ 16777216 ∧ 0 ≤ tt ∧ tt ≤ 16777216)
set_option maxHeartbeats 2000000 in
set_option maxRecDepth 100000 in
theorem clock_right (tc ts tl tt : Int) (w : World) :
    Calls Try.prog 58 #[.agg #[.int .i64 tc, .int .i64 ts, .int .i64 tl, .int .i64 tt]] w fun e w' => e = .returned (.bool (rightT tc ts tl tt)) ∧ Fr nob w w' := by
  obtain ⟨v, hv⟩ : ∃ v, v = rightT tc ts tl tt := ⟨_, rfl⟩
  rw [← hv]
  have HV := Lib.hid hv
  clear hv
  go_enter Try.func58, Try.ntmps58
  go_wp2_with fail
  all_goals
    go_ret
    refine ⟨?_, (Fr.refl _ _).alloc _⟩
    rw [HV.out, rightT]
    first
      | (simp; done)
      | (simp; omega)
      | (simp [*]; done)
set_option maxHeartbeats 2000000 in
set_option maxRecDepth 100000 in
theorem ref05_right (tc ts tl tt : Int) (w : World) :
    Calls Try.prog 61 #[.agg #[.int .i64 tc, .int .i64 ts, .int .i64 tl, .int .i64 tt]] w fun e w' => e = .returned (.bool (rightT tc ts tl tt)) ∧ Fr nob w w' := by
  obtain ⟨v, hv⟩ : ∃ v, v = rightT tc ts tl tt := ⟨_, rfl⟩
  rw [← hv]
  have HV := Lib.hid hv
  clear hv
  go_enter Try.func61, Try.ntmps61
  go_wp2_with fail
  all_goals
    go_ret
    refine ⟨?_, (Fr.refl _ _).alloc _⟩
    rw [HV.out, rightT]
    first
      | (simp; done)
      | (simp; omega)
      | (simp [*]; done)
def clampT (a : Int) : Int := if a < 0 then 0 else if 1099511627776 < a then 1099511627776 else a
set_option maxHeartbeats 1000000 in
set_option maxRecDepth 100000 in
theorem clamp1_any (a : Int) (w : World) : Calls Try.prog 74 #[.int .i64 a] w fun e w' => e = .returned (.int .i64 (clampT a)) ∧ w = w' := by
  obtain ⟨v, hv⟩ : ∃ v, v = clampT a := ⟨_, rfl⟩
  rw [← hv]
  have HV := Lib.hid hv
  clear hv
  go_enter Try.func74, Try.ntmps74
  go_wp2_with fail
  all_goals
    go_ret
    refine ⟨?_, rfl⟩
    rw [HV.out, clampT]
    first
      | (simp; done)
      | (simp; omega)
      | (simp [*]; done)
set_option maxHeartbeats 1000000 in
set_option maxRecDepth 100000 in
theorem clamp_any (a : Int) (w : World) : Calls Try.prog 59 #[.int .i64 a] w fun e w' => e = .returned (.int .i64 (clampT a)) ∧ w = w' := by
  have hc := clamp1_any a w
  go_enter Try.func59, Try.ntmps59
  go_wp2_with fail
  refine hc.mono ?_
  rintro e w1 ⟨rfl, rfl⟩
  go_wp2_with fail
  go_ret
  exact ⟨rfl, rfl⟩
set_option maxHeartbeats 1000000 in
set_option maxRecDepth 100000 in
theorem filter_right (s : Int) (w : World) : Calls Try.prog 62 #[.int .i64 s] w fun e w' => e = .returned (.bool (decide (1 ≤ s ∧ s ≤ 247))) ∧ w = w' := by
  obtain ⟨v, hv⟩ : ∃ v, v = decide (1 ≤ s ∧ s ≤ 247) := ⟨_, rfl⟩
  rw [← hv]
  have HV := Lib.hid hv
  clear hv
  go_enter Try.func62, Try.ntmps62
  go_wp2_with fail
  all_goals
    go_ret
    refine ⟨?_, rfl⟩
    rw [HV.out]
    first
      | (simp; done)
      | (simp; omega)
      | (simp [*]; done)
/-- A byte that came, as it lies: when, what, whether it was bad. -/
structure Hd where
  at_ : Int
  b : Int
  x : Bool
def hdc (h : Hd) : List Value := [.int .i64 h.at_, .int .u8 h.b, .bool h.x]
theorem hdc_len (x : Hd) : (hdc x).length = 3 := rfl
theorem hd_at {w : World} {A : Option Addr} {n : Nat} {l : List Hd} (h : Rd w 3 A n (l.flatMap hdc)) {k : Nat} (hk : k < n) : ∃ b o x, A = some ⟨b, o, none⟩ ∧ b < w.heap.size ∧ l[k]? = some x ∧ w.cell? ⟨b, o + k * 3, none⟩ = some (.int .i64 x.at_) ∧ w.cell? ⟨b, o + k * 3 + 1, none⟩ = some (.int .u8 x.b) ∧ w.cell? ⟨b, o + k * 3 + 2, none⟩ = some (.bool x.x) := by
  obtain ⟨b, o, x, e, hb, hx, hc⟩ := Rd.row hdc_len (by omega) h hk
  exact ⟨b, o, x, e, hb, hx, hc 0 _ rfl, hc 1 _ rfl, hc 2 _ rfl⟩
/-- Bytes come in order, from a time on, and no later than may be. -/
def ordH : Int → List Hd → Bool
  | _, [] => true
  | f, x :: r => !(decide (x.at_ < f) || decide (1099511627776 < x.at_)) && ordH x.at_ r
def rightH (f : Int) (l : List Hd) : Bool := decide (0 ≤ f ∧ f ≤ 1099511627776) && ordH f l
set_option maxHeartbeats 2000000 in
set_option maxRecDepth 100000 in
theorem ref09_right (A : Option Addr) (n c : Nat) (l : List Hd) (f : Int) (w : World) (h : Rd w 3 A n (l.flatMap hdc)) (hn : n ≤ 9223372036854775807) (hf : 0 ≤ f ∧ f ≤ 1099511627776) :
    Calls Try.prog 68 #[.slice A n c, .int .i64 f] w fun e w' => e = .returned (.bool (rightH f l)) ∧ w = w' := by
  have hln : l.length = n := by
    have := h.1
    rw [flat_len hdc 3 l hdc_len] at this
    omega
  have hv : rightH f l = ordH f l := by rw [rightH, decide_eq_true hf]; rfl
  rw [hv]
  have HLN := Lib.hid hln
  clear hln hv
  have g1 : decide (f < 0) = false := decide_eq_false (by omega)
  have g2 : decide (1099511627776 < f) = false := decide_eq_false (by omega)
  go_enter Try.func68, Try.ntmps68
  go_wp2_with fail
  go_loop [1, 5] (fun fv iv => ∃ (k : Nat) (f' : Int), k ≤ n ∧ iv = .int .i64 k ∧ fv = .int .i64 f' ∧ Hid (ordH f l = ordH f' (l.drop k))) (fun _ iv => n - (intOf iv).toNat)
  case atStart => exact ⟨0, f, by omega, rfl, rfl, Lib.hid rfl⟩
  case round =>
    obtain ⟨k, f', hk, rfl, rfl, ho⟩ := hrel
    by_cases hlt : k < n
    · obtain ⟨b, o, x, rfl, hb, hx, hc0, _, _⟩ := hd_at h hlt
      have hi0 : (0 : Int) ≤ (k : Int) ∧ (k : Int) < (n : Int) := ⟨by omega, by omega⟩
      have hd : l.drop k = x :: l.drop (k + 1) := by
        obtain ⟨h1, h2⟩ := List.getElem?_eq_some_iff.1 hx
        rw [List.drop_eq_getElem_cons h1, h2]
      obtain ⟨a, ha⟩ : ∃ a, a = x.at_ := ⟨_, rfl⟩
      have HO := Lib.hid (show ordH f l = (!(decide (a < f') || decide (1099511627776 < a)) && ordH a (l.drop (k + 1))) by rw [ho.out, hd, ordH, ha])
      rw [← ha] at hc0
      clear hx hd ha ho
      by_cases hbad : a < f' ∨ 1099511627776 < a
      · have hz : (!(decide (a < f') || decide (1099511627776 < a)) && ordH a (l.drop (k + 1))) = false := by
          rcases hbad with h1 | h1 <;> simp [h1]
        have HZ := Lib.hid hz
        clear hz
        have hb2 : decide (a < f') = true ∨ (decide (a < f') = false ∧ decide (1099511627776 < a) = true) := by
          by_cases h1 : a < f'
          · exact .inl (decide_eq_true h1)
          · exact .inr ⟨decide_eq_false h1, decide_eq_true (by omega)⟩
        clear hbad
        rcases hb2 with h1 | ⟨h1, h2⟩
        all_goals
          go_wp2_with fail
          go_ret
          exact ⟨by rw [HO.out, HZ.out]; rfl, rfl⟩
      · have h1 : decide (a < f') = false := decide_eq_false (by omega)
        have h2 : decide (1099511627776 < a) = false := decide_eq_false (by omega)
        have HZ := Lib.hid (show ordH f l = ordH a (l.drop (k + 1)) by rw [HO.out, h1, h2]; rfl)
        clear hbad HO
        go_wp2_with fail
        go_round
        case rel => exact ⟨k + 1, a, by omega, by go_num, rfl, HZ⟩
        case measure => simp [intOf]; omega
    · obtain rfl : k = n := by omega
      have HZ := Lib.hid (show ordH f l = true by rw [ho.out, List.drop_eq_nil_of_le (by rw [HLN.out]; omega)]; rfl)
      clear ho
      go_wp2_with fail
      go_ret
      exact ⟨by rw [HZ.out]; rfl, rfl⟩
end Go.Proofs.Ytmpjdploacfmeaa
