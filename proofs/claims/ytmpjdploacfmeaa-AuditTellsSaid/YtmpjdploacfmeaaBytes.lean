/- The document's bilgeref01.Bytes: are two slices the same? -/
import Derived.Test.YtmpjdploacfmeaaRows
import Derived.Test.YtmpjdploacfmeaaNums
namespace Go.Proofs.Ytmpjdploacfmeaa
set_option linter.unusedSimpArgs false
set_option linter.unusedVariables false
open Go.RowKit

set_option maxHeartbeats 400000 in
theorem bytes_any (A B : Option Addr) (n m c d : Nat) (la lb : List Int) (w : World) (ha : Rd w 1 A n (nums .u8 la)) (hb : Rd w 1 B m (nums .u8 lb)) (hn : n ≤ 9223372036854775807) (hm : m ≤ 9223372036854775807) :
    Calls Try.prog 35 #[.slice A n c, .slice B m d] w fun e w' => e = .returned (.bool (sameInts la lb)) ∧ ∃ k, w' = w.drewN k := by
  have hla := ha.numlen
  have hlb := hb.numlen
  by_cases hnm : n = m
  · obtain rfl := hnm
    have HA := Lib.hid hla
    have HB := Lib.hid hlb
    clear hla hlb
    have hne : ((n : Int) != (n : Int)) = false := by rw [bne_self_eq_false]
    go_enter Try.func35, Try.ntmps35
    go_wp2
    go_loopw [5] (fun i wr => ∃ k : Nat, k ≤ n ∧ i = .int .i64 k ∧ (∃ q, wr = w.drewN q) ∧ Hid (∀ j, j < k → la.getD j 0 = lb.getD j 0)) (fun i _ => n - (intOf i).toNat)
    case atStart => exact ⟨0, by omega, rfl, ⟨0, rfl⟩, fun j hj => absurd hj (by omega)⟩
    case round =>
      obtain ⟨k, hk, rfl, ⟨q, rfl⟩, heq⟩ := hrel
      by_cases hlt : k < n
      · obtain ⟨ab, ao, rfl, hadb, hxc⟩ := ha.num hlt
        obtain ⟨bb, bo, rfl, hbdb, hyc⟩ := hb.num hlt
        obtain ⟨x, hx⟩ : ∃ x, x = la.getD k 0 := ⟨_, rfl⟩
        obtain ⟨y, hy⟩ : ∃ y, y = lb.getD k 0 := ⟨_, rfl⟩
        rw [← hx] at hxc
        rw [← hy] at hyc
        have HX := Lib.hid hx
        have HY := Lib.hid hy
        clear hx hy
        have hi0 : (0 : Int) ≤ (k : Int) ∧ (k : Int) < (n : Int) := ⟨by omega, by omega⟩
        by_cases hxy : x = y
        · have hb1 : (x != y) = false := by rw [hxy, bne_self_eq_false]
          have HXY := Lib.hid hxy
          clear hxy
          go_wp2
          go_quiet (fail)
          go_wp2
          go_roundw
          case rel =>
            refine ⟨k + 1, by omega, by go_num, ⟨_, rfl⟩, fun j hj => ?_⟩
            rcases Nat.lt_or_ge j k with h | h
            · exact heq.out j h
            · obtain rfl : j = k := by omega
              rw [← HX.out, ← HY.out, HXY.out]
          case measure => simp [intOf]; omega
        · have hb1 : (x != y) = true := by rw [bne_iff_ne]; exact hxy
          go_wp2
          go_quiet (fail)
          go_wp2
          go_ret
          refine ⟨?_, _, World.drewN_drewN ..⟩
          have : sameInts la lb = false := decide_eq_false (getD_ne (k := k) (by rw [← HX.out, ← HY.out]; exact hxy))
          rw [this]; rfl
      · obtain rfl : k = n := by omega
        go_wp2
        go_ret
        refine ⟨?_, _, rfl⟩
        have : sameInts la lb = true := decide_eq_true (eq_of_getD (by rw [HA.out, HB.out]) (fun j hj => heq.out j (by rw [HA.out] at hj; exact hj)))
        rw [this]; rfl
  · have hne : ((n : Int) != (m : Int)) = true := by rw [bne_iff_ne]; omega
    go_enter Try.func35, Try.ntmps35
    go_wp2
    go_ret
    exact ⟨by rw [sameInts_len (by omega)]; rfl, 0, rfl⟩
end Go.Proofs.Ytmpjdploacfmeaa
