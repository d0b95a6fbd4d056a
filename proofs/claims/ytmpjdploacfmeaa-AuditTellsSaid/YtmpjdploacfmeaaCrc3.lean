/- Contracts of Check and Strip (crc), and of the document's Check (bilgeref04). -/
import Derived.Test.YtmpjdploacfmeaaCrc2
import Derived.Test.YtmpjdploacfmeaaCut
namespace Go.Proofs.Ytmpjdploacfmeaa
set_option linter.unusedSimpArgs false
set_option linter.unusedVariables false
open Go.RowKit

/-- Bytes end with their sum. -/
def chk (l : List Int) : Bool := decide (2 ≤ l.length ∧ sumS 65535 l = 0)
theorem chk_of {m : List Int} {a b : Int} (hm : ∀ x ∈ m, 0 ≤ x ∧ x ≤ 255) (ha : 0 ≤ a ∧ a ≤ 255) (hb : 0 ≤ b ∧ b ≤ 255) {s : Nat} (hs : s = sumS 65535 m) : chk (m ++ [a, b]) = (a == ((s % 256 : Nat) : Int) && b == ((s / 256 : Nat) : Int)) := by
  have hlt : s < 65536 := by rw [hs]; exact sumS_lt (by omega) hm
  have e : sumS 65535 (m ++ [a, b]) = updS (updS s a.toNat) b.toNat := by rw [sumS_app, ← hs]; rfl
  rw [Bool.eq_iff_iff]
  simp only [chk, decide_eq_true_eq, Bool.and_eq_true, beq_iff_eq]
  rw [e]
  constructor
  · rintro ⟨_, h⟩
    have := sum_zero s a.toNat b.toNat hlt (by omega) (by omega) h
    omega
  · rintro ⟨h1, h2⟩
    refine ⟨by simp, ?_⟩
    have := sum_own s hlt
    rw [← h1, ← h2] at this
    exact this
set_option maxHeartbeats 1000000 in
set_option maxRecDepth 100000 in
theorem crc_check (A : Option Addr) (n c : Nat) (l : List Int) (w : World) (h : Rd w 1 A n (nums .u8 l)) (hl : ∀ x ∈ l, 0 ≤ x ∧ x ≤ 255) (hn : n ≤ 9223372036854775807) :
    Calls Try.prog 80 #[.slice A n c] w fun e w' => e = .returned (.bool (chk l)) ∧ Fr nob w w' := by
  have hln := h.numlen
  have hsum := Lib.hid (crc_sum A n c l w h hl hn)
  have hlt := sumS_lt (r := 65535) (by omega) hl
  obtain ⟨v, hv⟩ : ∃ v, v = chk l := ⟨_, rfl⟩
  rw [← hv]
  have hv2 : v = decide (2 ≤ n ∧ sumS 65535 l = 0) := by rw [hv, chk, hln]
  have HV := Lib.hid hv2
  obtain ⟨s, hs⟩ : ∃ s, s = sumS 65535 l := ⟨_, rfl⟩
  rw [← hs] at hsum hlt HV
  clear hv hv2 hs h hl hln
  by_cases h2 : 2 ≤ n
  · have hs0 : ((s : Int) == 0) = decide (s = 0) := by
      rw [Bool.eq_iff_iff]
      simp
    go_enter Try.func80, Try.ntmps80
    go_wp2_with fail
    refine hsum.out.mono ?_
    rintro e w1 ⟨rfl, hf⟩
    go_wp2_with fail
    go_ret
    refine ⟨?_, hf⟩
    rw [HV.out]
    by_cases hz : s = 0 <;> simp [hz, h2]
  · go_enter Try.func80, Try.ntmps80
    go_wp2_with fail
    go_ret
    refine ⟨?_, Fr.refl _ _⟩
    rw [HV.out]
    simp [h2]
theorem list_end {l : List Int} {n : Nat} (hl : l.length = n) (h2 : 2 ≤ n) : l = l.take (n - 2) ++ [l.getD (n - 2) 0, l.getD (n - 1) 0] := by
  have h1 : n - 2 < l.length := by omega
  have h3 : n - 2 + 1 < l.length := by omega
  have hd : l.drop (n - 2) = [l.getD (n - 2) 0, l.getD (n - 1) 0] := by
    rw [List.drop_eq_getElem_cons h1, List.drop_eq_getElem_cons h3, List.drop_eq_nil_of_le (by omega), List.getD_eq_getElem?_getD, List.getD_eq_getElem?_getD, List.getElem?_eq_getElem h1, show n - 1 = n - 2 + 1 by omega, List.getElem?_eq_getElem h3]
    rfl
  rw [← hd, List.take_append_drop]
set_option maxHeartbeats 1000000 in
set_option maxRecDepth 100000 in
theorem ref04_check (A : Option Addr) (n c : Nat) (l : List Int) (w : World) (h : Rd w 1 A n (nums .u8 l)) (hl : ∀ x ∈ l, 0 ≤ x ∧ x ≤ 255) (hnc : n ≤ c) (hc : c ≤ 9223372036854775807) :
    Calls Try.prog 78 #[.slice A n c] w fun e w' => e = .returned (.bool (chk l)) ∧ w = w' := by
  have hln := h.numlen
  by_cases h2 : 2 ≤ n
  · have hm : ∀ x ∈ l.take (n - 2), 0 ≤ x ∧ x ≤ 255 := fun x hx => hl x (List.mem_of_mem_take hx)
    have hR : Rd w 1 A (n - 2) (nums .u8 (l.take (n - 2))) := by
      have := h.take_ (k := n - 2) (by omega)
      rw [Nat.mul_one] at this
      rw [show nums IntKind.u8 (l.take (n - 2)) = (nums .u8 l).take (n - 2) by simp [nums, List.map_take]]
      exact this
    have hsum := Lib.hid (ref04_sum A (n - 2) c (l.take (n - 2)) w hR hm (by omega))
    have hg : ∀ i, i < n → 0 ≤ l.getD i 0 ∧ l.getD i 0 ≤ 255 := fun i hi => hl _ (by rw [List.getD_eq_getElem?_getD, List.getElem?_eq_getElem (by omega)]; exact List.getElem_mem _)
    obtain ⟨b, o, rfl, hb, hc0⟩ := h.num (i := n - 2) (by omega)
    obtain ⟨b', o', e', _, hc1⟩ := h.num (i := n - 1) (by omega)
    cases e'
    have hlt := sumS_lt (r := 65535) (by omega) hm
    obtain ⟨s, hs⟩ : ∃ s, s = sumS 65535 (l.take (n - 2)) := ⟨_, rfl⟩
    have hchk := chk_of hm (hg (n - 2) (by omega)) (hg (n - 1) (by omega)) hs
    rw [← list_end hln h2] at hchk
    rw [← hs] at hsum hlt
    have r1 := hg (n - 2) (by omega)
    have r2 := hg (n - 1) (by omega)
    obtain ⟨x, hx⟩ : ∃ x, x = l.getD (n - 2) 0 := ⟨_, rfl⟩
    obtain ⟨y, hy⟩ : ∃ y, y = l.getD (n - 1) 0 := ⟨_, rfl⟩
    rw [← hx] at hc0 hchk r1
    rw [← hy] at hc1 hchk r2
    rw [hchk]
    obtain ⟨m, rfl⟩ : ∃ m, n = m + 2 := ⟨n - 2, by omega⟩
    rw [show m + 2 - 2 = m by omega] at hsum hc0
    rw [show m + 2 - 1 = m + 1 by omega] at hc1
    have htk := fun V => take_run (P := Try.prog) (T := 47) (e := 5) (size := 1) Try.underlying47 (by kernel_rfl) (some ⟨b, o, none⟩) (m + 2) c m (m : Int) rfl (by omega) V
    have hi0 : (0 : Int) ≤ (m : Int) ∧ (m : Int) < ((m + 2 : Nat) : Int) := ⟨by omega, by omega⟩
    have hi1 : (0 : Int) ≤ (m : Int) + 1 ∧ (m : Int) + 1 < ((m + 2 : Nat) : Int) := ⟨by omega, by omega⟩
    have hw1 : IntKind.u8.wrap ((s : Int) % 256) = ((s % 256 : Nat) : Int) := by simp [IntKind.wrap, IntKind.bits, IntKind.signed]
    have hw2 : IntKind.u8.wrap ((s : Int) / 256) = ((s / 256 : Nat) : Int) := by simp [IntKind.wrap, IntKind.bits, IntKind.signed]; omega
    clear hchk hx hy hs hm hR hg hl hln h
    go_enter Try.func78, Try.ntmps78
    go_wp2_with fail
    refine hsum.out.mono ?_
    rintro e w1 ⟨rfl, rfl⟩
    go_wp2_with fail
    all_goals
      go_ret
      refine ⟨?_, rfl⟩
      rename_i _ hxe
      first
        | (have e1 : (x == ((s % 256 : Nat) : Int)) = true := beq_iff_eq.2 hxe; rw [e1]; rfl)
        | (have e1 : (x == ((s % 256 : Nat) : Int)) = false := beq_eq_false_iff_ne.2 hxe; rw [e1]; rfl)
  · have hv : chk l = false := by rw [chk, hln]; simp [h2]
    rw [hv]
    have hneg : decide ((n : Int) - 2 < 0) = true := decide_eq_true (by omega)
    go_enter Try.func78, Try.ntmps78
    go_wp2_with fail
    go_ret
    exact ⟨rfl, rfl⟩
end Go.Proofs.Ytmpjdploacfmeaa
