/- Contracts of the document's words (bilgeref01): are two slices the same? -/
import Derived.Test.YtmpjdploacfmeaaRows
import Derived.Test.YtmpjdploacfmeaaBase2
namespace Go.Proofs.Ytmpjdploacfmeaa
open Go.RowKit

/-- Numbers of a kind, as cells. -/
def nums (k : IntKind) (l : List Int) : List Value := l.map (Value.int k)
theorem nums_len (k : IntKind) (l : List Int) : (nums k l).length = l.length := by simp [nums]
theorem nums_at (k : IntKind) (l : List Int) (i : Nat) (h : i < l.length) : (nums k l)[i]? = some (.int k (l.getD i 0)) := by
  simp [nums, List.getElem?_map, List.getElem?_eq_getElem h]
theorem nums_app (k : IntKind) (a b : List Int) : nums k (a ++ b) = nums k a ++ nums k b := by simp [nums]
theorem nums_one (k : IntKind) (l : List Int) : ∀ u ∈ nums k l, u.oneCell' = true := by
  intro u hu
  obtain ⟨x, _, rfl⟩ := List.mem_map.1 hu
  rfl
theorem Rd.num {w : World} {k : IntKind} {A : Option Addr} {n : Nat} {l : List Int} (h : Rd w 1 A n (nums k l)) {i : Nat} (hi : i < n) : ∃ b o, A = some ⟨b, o, none⟩ ∧ b < w.heap.size ∧ w.cell? ⟨b, o + i, none⟩ = some (.int k (l.getD i 0)) := by
  obtain ⟨b, o, e, hb, u, hu, hc⟩ := h.at_ hi
  have hl : l.length = n := by have := h.len; rwa [nums_len] at this
  rw [nums_at k l i (by omega)] at hu
  injection hu with hu
  exact ⟨b, o, e, hb, by rw [hc, hu]⟩
theorem Rd.numlen {w : World} {k : IntKind} {A : Option Addr} {n : Nat} {l : List Int} (h : Rd w 1 A n (nums k l)) : l.length = n := by have := h.len; rwa [nums_len] at this

/-- Two lists part at a place, or are the same. -/
theorem getD_ne {la lb : List Int} {k : Nat} (h : la.getD k 0 ≠ lb.getD k 0) : la ≠ lb := fun e => h (by rw [e])
theorem eq_of_getD {la lb : List Int} (hl : la.length = lb.length) (h : ∀ k, k < la.length → la.getD k 0 = lb.getD k 0) : la = lb := by
  apply List.ext_getElem hl
  intro i h1 h2
  have := h i h1
  simpa [List.getD_eq_getElem?_getD, List.getElem?_eq_getElem h1, List.getElem?_eq_getElem h2] using this
def sameInts (a b : List Int) : Bool := decide (a = b)
theorem sameInts_len {a b : List Int} (h : a.length ≠ b.length) : sameInts a b = false := decide_eq_false fun e => h (by rw [e])


set_option maxHeartbeats 400000 in
theorem words_any (A B : Option Addr) (n m c d : Nat) (la lb : List Int) (w : World) (ha : Rd w 1 A n (nums .u16 la)) (hb : Rd w 1 B m (nums .u16 lb)) (hn : n ≤ 9223372036854775807) (hm : m ≤ 9223372036854775807) :
    Calls Try.prog 16 #[.slice A n c, .slice B m d] w fun e w' => e = .returned (.bool (sameInts la lb)) ∧ ∃ k, w' = w.drewN k := by
  have hla := ha.numlen
  have hlb := hb.numlen
  by_cases hnm : n = m
  · obtain rfl := hnm
    have HA := Lib.hid hla
    have HB := Lib.hid hlb
    clear hla hlb
    have hne : ((n : Int) != (n : Int)) = false := by rw [bne_self_eq_false]
    go_enter Try.func16, Try.ntmps16
    go_wp2
    go_loopw [5] (fun i wr => ∃ k : Nat, k ≤ n ∧ i = .int .i64 k ∧ (∃ q, wr = w.drewN q) ∧ Hid (∀ j, j < k → la.getD j 0 = lb.getD j 0)) (fun i _ => n - (intOf i).toNat)
    case atStart => exact ⟨0, by omega, rfl, ⟨0, rfl⟩, fun j hj => absurd hj (by omega)⟩
    case round =>
      obtain ⟨k, hk, rfl, ⟨q, rfl⟩, heq⟩ := hrel
      by_cases hlt : k < n
      · obtain ⟨ab, ao, rfl, hadb, hxc⟩ := ha.num hlt
        obtain ⟨bb, bo, rfl, hbdb, hyc⟩ := hb.num hlt
        obtain ⟨x, hx⟩ : ∃ x, x = la.getD k 0 := ⟨_, rfl⟩
        obtain ⟨y, hy⟩ : ∃ y, y = lb.getD k 0 := ⟨_, rfl⟩
        rw [← hx] at hxc
        rw [← hy] at hyc
        have HX := Lib.hid hx
        have HY := Lib.hid hy
        clear hx hy
        have hi0 : (0 : Int) ≤ (k : Int) ∧ (k : Int) < (n : Int) := ⟨by omega, by omega⟩
        by_cases hxy : x = y
        · have hb1 : (x != y) = false := by rw [hxy, bne_self_eq_false]
          have HXY := Lib.hid hxy
          clear hxy
          go_wp2
          go_quiet (fail)
          go_wp2
          go_roundw
          case rel =>
            refine ⟨k + 1, by omega, by go_num, ⟨_, rfl⟩, fun j hj => ?_⟩
            rcases Nat.lt_or_ge j k with h | h
            · exact heq.out j h
            · obtain rfl : j = k := by omega
              rw [← HX.out, ← HY.out, HXY.out]
          case measure => simp [intOf]; omega
        · have hb1 : (x != y) = true := by rw [bne_iff_ne]; exact hxy
          go_wp2
          go_quiet (fail)
          go_wp2
          go_ret
          refine ⟨?_, _, World.drewN_drewN ..⟩
          have : sameInts la lb = false := decide_eq_false (getD_ne (k := k) (by rw [← HX.out, ← HY.out]; exact hxy))
          rw [this]; rfl
      · obtain rfl : k = n := by omega
        go_wp2
        go_ret
        refine ⟨?_, _, rfl⟩
        have : sameInts la lb = true := decide_eq_true (eq_of_getD (by rw [HA.out, HB.out]) (fun j hj => heq.out j (by rw [HA.out] at hj; exact hj)))
        rw [this]; rfl
  · have hne : ((n : Int) != (m : Int)) = true := by rw [bne_iff_ne]; omega
    go_enter Try.func16, Try.ntmps16
    go_wp2
    go_ret
    exact ⟨by rw [sameInts_len (by omega)]; rfl, 0, rfl⟩

set_option maxHeartbeats 400000 in
theorem bytes_any (A B : Option Addr) (n m c d : Nat) (la lb : List Int) (w : World) (ha : Rd w 1 A n (nums .u8 la)) (hb : Rd w 1 B m (nums .u8 lb)) (hn : n ≤ 9223372036854775807) (hm : m ≤ 9223372036854775807) :
    Calls Try.prog 35 #[.slice A n c, .slice B m d] w fun e w' => e = .returned (.bool (sameInts la lb)) ∧ ∃ k, w' = w.drewN k := by
  have hla := ha.numlen
  have hlb := hb.numlen
  by_cases hnm : n = m
  · obtain rfl := hnm
    have HA := Lib.hid hla
    have HB := Lib.hid hlb
    clear hla hlb
    have hne : ((n : Int) != (n : Int)) = false := by rw [bne_self_eq_false]
    go_enter Try.func35, Try.ntmps35
    go_wp2
    go_loopw [5] (fun i wr => ∃ k : Nat, k ≤ n ∧ i = .int .i64 k ∧ (∃ q, wr = w.drewN q) ∧ Hid (∀ j, j < k → la.getD j 0 = lb.getD j 0)) (fun i _ => n - (intOf i).toNat)
    case atStart => exact ⟨0, by omega, rfl, ⟨0, rfl⟩, fun j hj => absurd hj (by omega)⟩
    case round =>
      obtain ⟨k, hk, rfl, ⟨q, rfl⟩, heq⟩ := hrel
      by_cases hlt : k < n
      · obtain ⟨ab, ao, rfl, hadb, hxc⟩ := ha.num hlt
        obtain ⟨bb, bo, rfl, hbdb, hyc⟩ := hb.num hlt
        obtain ⟨x, hx⟩ : ∃ x, x = la.getD k 0 := ⟨_, rfl⟩
        obtain ⟨y, hy⟩ : ∃ y, y = lb.getD k 0 := ⟨_, rfl⟩
        rw [← hx] at hxc
        rw [← hy] at hyc
        have HX := Lib.hid hx
        have HY := Lib.hid hy
        clear hx hy
        have hi0 : (0 : Int) ≤ (k : Int) ∧ (k : Int) < (n : Int) := ⟨by omega, by omega⟩
        by_cases hxy : x = y
        · have hb1 : (x != y) = false := by rw [hxy, bne_self_eq_false]
          have HXY := Lib.hid hxy
          clear hxy
          go_wp2
          go_quiet (fail)
          go_wp2
          go_roundw
          case rel =>
            refine ⟨k + 1, by omega, by go_num, ⟨_, rfl⟩, fun j hj => ?_⟩
            rcases Nat.lt_or_ge j k with h | h
            · exact heq.out j h
            · obtain rfl : j = k := by omega
              rw [← HX.out, ← HY.out, HXY.out]
          case measure => simp [intOf]; omega
        · have hb1 : (x != y) = true := by rw [bne_iff_ne]; exact hxy
          go_wp2
          go_quiet (fail)
          go_wp2
          go_ret
          refine ⟨?_, _, World.drewN_drewN ..⟩
          have : sameInts la lb = false := decide_eq_false (getD_ne (k := k) (by rw [← HX.out, ← HY.out]; exact hxy))
          rw [this]; rfl
      · obtain rfl : k = n := by omega
        go_wp2
        go_ret
        refine ⟨?_, _, rfl⟩
        have : sameInts la lb = true := decide_eq_true (eq_of_getD (by rw [HA.out, HB.out]) (fun j hj => heq.out j (by rw [HA.out] at hj; exact hj)))
        rw [this]; rfl
  · have hne : ((n : Int) != (m : Int)) = true := by rw [bne_iff_ne]; omega
    go_enter Try.func35, Try.ntmps35
    go_wp2
    go_ret
    exact ⟨by rw [sameInts_len (by omega)]; rfl, 0, rfl⟩

set_option maxHeartbeats 400000 in
theorem ints_any (A B : Option Addr) (n m c d : Nat) (la lb : List Int) (w : World) (ha : Rd w 1 A n (nums .i64 la)) (hb : Rd w 1 B m (nums .i64 lb)) (hn : n ≤ 9223372036854775807) (hm : m ≤ 9223372036854775807) :
    Calls Try.prog 34 #[.slice A n c, .slice B m d] w fun e w' => e = .returned (.bool (sameInts la lb)) ∧ ∃ k, w' = w.drewN k := by
  have hla := ha.numlen
  have hlb := hb.numlen
  by_cases hnm : n = m
  · obtain rfl := hnm
    have HA := Lib.hid hla
    have HB := Lib.hid hlb
    clear hla hlb
    have hne : ((n : Int) != (n : Int)) = false := by rw [bne_self_eq_false]
    go_enter Try.func34, Try.ntmps34
    go_wp2
    go_loopw [5] (fun i wr => ∃ k : Nat, k ≤ n ∧ i = .int .i64 k ∧ (∃ q, wr = w.drewN q) ∧ Hid (∀ j, j < k → la.getD j 0 = lb.getD j 0)) (fun i _ => n - (intOf i).toNat)
    case atStart => exact ⟨0, by omega, rfl, ⟨0, rfl⟩, fun j hj => absurd hj (by omega)⟩
    case round =>
      obtain ⟨k, hk, rfl, ⟨q, rfl⟩, heq⟩ := hrel
      by_cases hlt : k < n
      · obtain ⟨ab, ao, rfl, hadb, hxc⟩ := ha.num hlt
        obtain ⟨bb, bo, rfl, hbdb, hyc⟩ := hb.num hlt
        obtain ⟨x, hx⟩ : ∃ x, x = la.getD k 0 := ⟨_, rfl⟩
        obtain ⟨y, hy⟩ : ∃ y, y = lb.getD k 0 := ⟨_, rfl⟩
        rw [← hx] at hxc
        rw [← hy] at hyc
        have HX := Lib.hid hx
        have HY := Lib.hid hy
        clear hx hy
        have hi0 : (0 : Int) ≤ (k : Int) ∧ (k : Int) < (n : Int) := ⟨by omega, by omega⟩
        by_cases hxy : x = y
        · have hb1 : (x != y) = false := by rw [hxy, bne_self_eq_false]
          have HXY := Lib.hid hxy
          clear hxy
          go_wp2
          go_quiet (fail)
          go_wp2
          go_roundw
          case rel =>
            refine ⟨k + 1, by omega, by go_num, ⟨_, rfl⟩, fun j hj => ?_⟩
            rcases Nat.lt_or_ge j k with h | h
            · exact heq.out j h
            · obtain rfl : j = k := by omega
              rw [← HX.out, ← HY.out, HXY.out]
          case measure => simp [intOf]; omega
        · have hb1 : (x != y) = true := by rw [bne_iff_ne]; exact hxy
          go_wp2
          go_quiet (fail)
          go_wp2
          go_ret
          refine ⟨?_, _, World.drewN_drewN ..⟩
          have : sameInts la lb = false := decide_eq_false (getD_ne (k := k) (by rw [← HX.out, ← HY.out]; exact hxy))
          rw [this]; rfl
      · obtain rfl : k = n := by omega
        go_wp2
        go_ret
        refine ⟨?_, _, rfl⟩
        have : sameInts la lb = true := decide_eq_true (eq_of_getD (by rw [HA.out, HB.out]) (fun j hj => heq.out j (by rw [HA.out] at hj; exact hj)))
        rw [this]; rfl
  · have hne : ((n : Int) != (m : Int)) = true := by rw [bne_iff_ne]; omega
    go_enter Try.func34, Try.ntmps34
    go_wp2
    go_ret
    exact ⟨by rw [sameInts_len (by omega)]; rfl, 0, rfl⟩
end Go.Proofs.Ytmpjdploacfmeaa
