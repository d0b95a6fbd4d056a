/- Contracts of the sums by a table (crc). -/
import Derived.Test.YtmpjdploacfmeaaCrc
namespace Go.Proofs.Ytmpjdploacfmeaa
set_option linter.unusedSimpArgs false
set_option linter.unusedVariables false
open Go.RowKit

theorem bits_and_one (x : Nat) (hx : x < 65536) : bits .and .u16 (x : Int) 1 = (x : Int) % 2 := by
  have h1 : (BitVec.ofInt 16 (x : Int)).toNat = x := by
    rw [BitVec.ofInt_natCast, BitVec.toNat_ofNat]; exact Nat.mod_eq_of_lt (by omega)
  show IntKind.u16.wrap ((BitVec.ofInt 16 (x : Int) &&& BitVec.ofInt 16 (1 : Int)).toNat : Int) = _
  rw [BitVec.toNat_and, h1, show (BitVec.ofInt 16 (1 : Int)).toNat = 1 by decide, Nat.and_one_is_mod, show ∀ n, IntKind.u16.wrap n = n % 65536 by intro n; simp [IntKind.wrap, IntKind.bits, IntKind.signed]]
  omega
/-- A table, filled up to k. -/
def Tab (w : World) (g k : Nat) : Prop := ∃ cs : Array Value, Blk w g 152 cs ∧ cs.size = 256 ∧ ∀ i : Nat, i < k → cs[i]? = some (.int .u16 ((tabS i : Nat) : Int))
set_option maxHeartbeats 2000000 in
set_option maxRecDepth 100000 in
theorem fill_any (w : World) (g : Nat) (h : Tab w g 0) :
    Calls Try.prog 87 #[.pointer (some ⟨g, 0, none⟩)] w fun e w' => e = .returned (.tuple #[]) ∧ Tab w' g 256 ∧ Fr (fun b => b = g) w w' := by
  have HT := Lib.hid h
  clear h
  go_enter Try.func87, Try.ntmps87
  go_wp2_with fail
  go_loopw [5] (fun iv wr => ∃ k : Nat, k ≤ 256 ∧ iv = .int .i64 (k : Int) ∧ Hid (Tab wr g k) ∧ Hid (Fr (fun b => b = g) w wr)) (fun iv _ => 256 - (intOf iv).toNat)
  case atStart => exact ⟨0, by omega, rfl, HT, Lib.hid (Fr.refl _ _)⟩
  case round =>
    clear HT
    obtain ⟨k, hk, rfl, ht, hf⟩ := hrel
    by_cases hlt : k < 256
    · have hkw : IntKind.u16.wrap (k : Int) = (k : Int) := by simp [IntKind.wrap, IntKind.bits, IntKind.signed]; omega
      go_wp2_with fail
      go_loop [3, 10] (fun rv jv => ∃ j x : Nat, j ≤ 8 ∧ jv = .int .i64 (j : Int) ∧ rv = .int .u16 (x : Int) ∧ x < 65536 ∧ Hid (x = bitN j k)) (fun _ jv => 8 - (intOf jv).toNat)
      case atStart => exact ⟨0, k, by omega, rfl, rfl, by omega, Lib.hid rfl⟩
      case round =>
        obtain ⟨j, x, hj, rfl, rfl, hx, hxe⟩ := hrel
        by_cases hj8 : j < 8
        · have hpar : (bits .and .u16 (x : Int) 1 == 1) = decide (x % 2 = 1) := by
            rw [bits_and_one x hx, Bool.eq_iff_iff]
            simp
            omega
          have hb := bits_xor_u16_nat (x / 2) 40961 (by omega) (by omega)
          have hnext : bitN (j + 1) k = if decide (x % 2 = 1) then (x / 2) ^^^ 40961 else x / 2 := by
            rw [bitN, ← hxe.out, bitT]
            simp
          have hxr : (x : Int) / 2 = ((x / 2 : Nat) : Int) := rfl
          have hb2 : bits .xor .u16 ((x : Int) / 2) 40961 = (((x / 2) ^^^ 40961 : Nat) : Int) := hb
          have hlt2 : bitN (j + 1) k < 65536 := bitN_lt _ (by omega)
          have HN := Lib.hid hnext
          clear hnext hb hxr
          obtain ⟨p, hp⟩ : ∃ p, p = decide (x % 2 = 1) := ⟨_, rfl⟩
          rw [← hp] at hpar HN
          have HP := Lib.hid hp
          clear hp
          cases p
          all_goals
            go_wp2_with fail
            go_round
            case rel => exact ⟨j + 1, bitN (j + 1) k, by omega, by go_num, by rw [HN.out]; rfl, hlt2, Lib.hid rfl⟩
            case measure => simp [intOf]; omega
        · obtain rfl : j = 8 := by omega
          obtain ⟨cs, hb, hs, hc⟩ := ht.out
          have q1 := hb.lt
          have q2 := Blk.frozen hb k
          have q3 := hb.cell k
          obtain ⟨v0, hv0⟩ : ∃ v0, cs[k]? = some v0 := ⟨_, Array.getElem?_eq_getElem (by omega)⟩
          rw [hv0] at q3
          have HB := Lib.hid hb
          have HC := Lib.hid hc
          have HS := Lib.hid hs
          clear hb hc hs ht hv0
          go_wp2_with fail
          go_roundw
          case rel =>
            refine ⟨k + 1, by omega, by go_num, Lib.hid ⟨_, HB.out.set_ k _, by simp [HS.out], fun i hi => ?_⟩, Lib.hid (hf.out.set_ (.inl rfl) _)⟩
            rcases Nat.lt_or_ge i k with h | h
            · rw [Array.getElem?_setIfInBounds_ne (by omega)]
              exact HC.out i h
            · obtain rfl : i = k := by omega
              rw [Array.getElem?_setIfInBounds_self_of_lt (by rw [HS.out]; omega), hxe.out]
              rfl
          case measure => simp [intOf]; omega
    · obtain rfl : k = 256 := by omega
      go_wp2_with fail
      go_end0
      exact ⟨rfl, ht.out, hf.out⟩
set_option maxHeartbeats 1000000 in
set_option maxRecDepth 100000 in
theorem made_any (w : World) : Calls Try.prog 84 #[] w fun e w' => e = .returned (.pointer (some ⟨w.heap.size, 0, none⟩)) ∧ Tab w' w.heap.size 256 ∧ Fr nob w w' := by
  have hz : Try.zeroCells152.size = 256 := by kernel_rfl
  have ht : Tab (w.alloc (.cells Try.zeroCells152 152)) w.heap.size 0 := ⟨_, Blk.new w _ _, hz, fun i hi => absurd hi (by omega)⟩
  have hfl := Lib.hid (fill_any _ _ ht)
  clear hz ht
  go_enter Try.func84, Try.ntmps84
  go_wp2_with fail
  refine hfl.out.mono ?_
  rintro e w1 ⟨rfl, ht, hf⟩
  have HT := Lib.hid ht
  have HF := Lib.hid (((Fr.refl nob w).alloc (.cells Try.zeroCells152 152)).newer hf (fun i hi => by omega))
  clear ht hf
  go_wp2_with fail
  go_ret
  exact ⟨rfl, HT.out, HF.out⟩
set_option maxHeartbeats 1000000 in
set_option maxRecDepth 100000 in
theorem update_any (g : Nat) (c b : Nat) (w : World) (h : Tab w g 256) (hc : c < 65536) (hb : b < 256) :
    Calls Try.prog 85 #[.pointer (some ⟨g, 0, none⟩), .int .u16 (c : Int), .int .u8 (b : Int)] w fun e w' => e = .returned (.int .u16 ((updS c b : Nat) : Int)) ∧ w = w' := by
  obtain ⟨cs, hbk, hs, hcs⟩ := h
  have hx8 : bits .xor .u8 ((c : Int) % 256) (b : Int) = (((c % 256) ^^^ b : Nat) : Int) := bits_xor_u8_nat (c % 256) b (by omega) hb
  have hi : (c % 256) ^^^ b < 256 := Nat.xor_lt_two_pow (n := 8) (by omega) hb
  have hx16 := bits_xor_u16_nat (c / 256) (tabS ((c % 256) ^^^ b)) (by omega) (bitN_lt 8 (by omega))
  obtain ⟨i, hie⟩ : ∃ i, i = (c % 256) ^^^ b := ⟨_, rfl⟩
  have hu : updS c b = (c / 256) ^^^ tabS i := by rw [updS, ← hie]
  rw [← hie] at hx8 hi hx16
  rw [hu]
  have q0 := (hbk.cell i).trans (hcs i hi)
  have q1 := hbk.lt
  obtain ⟨t, ht⟩ : ∃ t, t = tabS i := ⟨_, rfl⟩
  obtain ⟨u, hu2⟩ : ∃ u, u = (c / 256) ^^^ tabS i := ⟨_, rfl⟩
  rw [← hu2] at hx16 ⊢
  rw [← ht] at q0 hx16
  have hx17 : bits .xor .u16 ((c : Int) / 256) (t : Int) = (u : Int) := hx16
  have hi2 : (0 : Int) ≤ (i : Int) ∧ (i : Int) < 256 := by omega
  clear hbk hs hcs hie hu ht hu2 hx16
  go_enter Try.func85, Try.ntmps85
  go_wp2_with fail
  go_ret
  exact ⟨rfl, rfl⟩
theorem Tab.fr {w w' : World} {g k : Nat} (h : Tab w g k) (hf : Fr nob w w') : Tab w' g k := by
  obtain ⟨cs, hb, r⟩ := h
  exact ⟨cs, hb.fr hf (fun h => h), r⟩
set_option maxHeartbeats 1000000 in
set_option maxRecDepth 100000 in
theorem crc_sum (A : Option Addr) (n c : Nat) (l : List Int) (w : World) (h : Rd w 1 A n (nums .u8 l)) (hl : ∀ x ∈ l, 0 ≤ x ∧ x ≤ 255) (hn : n ≤ 9223372036854775807) :
    Calls Try.prog 82 #[.slice A n c] w fun e w' => e = .returned (.int .u16 ((sumS 65535 l : Nat) : Int)) ∧ Fr nob w w' := by
  have hln := h.numlen
  have HL := Lib.hid hl
  have HLN := Lib.hid hln
  have HR := Lib.hid h
  clear hl hln h
  go_enter Try.func82, Try.ntmps82
  go_wp2_with fail
  refine (made_any w).mono ?_
  rintro e w1 ⟨rfl, ht, hf⟩
  have HT := Lib.hid ht
  have HF := Lib.hid hf
  obtain ⟨g, hg⟩ : ∃ g, g = w.heap.size := ⟨_, rfl⟩
  rw [← hg] at HT ⊢
  clear ht hf hg
  go_wp2_with fail
  go_loopw [5, 11] (fun rv iv wr => ∃ k x : Nat, k ≤ n ∧ iv = .int .i64 (k : Int) ∧ rv = .int .u16 (x : Int) ∧ x < 65536 ∧ Hid (x = sumS 65535 (l.take k)) ∧ Hid (Fr nob w1 wr)) (fun _ iv _ => n - (intOf iv).toNat)
  case atStart => exact ⟨0, 65535, by omega, rfl, rfl, by omega, Lib.hid rfl, Lib.hid (Fr.refl _ _)⟩
  case round =>
    obtain ⟨k, x, hk, rfl, rfl, hx, hxe, hf⟩ := hrel
    by_cases hlt : k < n
    · obtain ⟨b, o, rfl, hb, hc⟩ := (HR.out.nob (HF.out.trans hf.out (fun _ _ h => h))).num (i := k) hlt
      have hlk : k < l.length := by rw [HLN.out]; exact hlt
      have hy := HL.out (l.getD k 0) (by rw [List.getD_eq_getElem?_getD, List.getElem?_eq_getElem hlk]; exact List.getElem_mem hlk)
      obtain ⟨y, hye⟩ : ∃ y : Nat, (y : Int) = l.getD k 0 := ⟨(l.getD k 0).toNat, by omega⟩
      have hy2 : y < 256 := by omega
      have HN := Lib.hid (show updS x y = sumS 65535 (l.take (k + 1)) by rw [sumS_take hlk, ← hxe.out, ← hye, Int.toNat_natCast])
      rw [← hye] at hc
      have hby := Lib.hid (fun q => update_any g x y (wr.drewN q) (HT.out.fr (hf.out.drewN q)) hx hy2)
      have hby0 := Lib.hid (update_any g x y wr (HT.out.fr hf.out) hx hy2)
      have hlt2 : updS x y < 65536 := updS_lt hx hy2
      have hi0 : (0 : Int) ≤ (k : Int) ∧ (k : Int) < (n : Int) := ⟨by omega, by omega⟩
      clear hye hy hlk
      go_wp2_with fail
      refine hby0.out.mono ?_
      rintro e w2 ⟨rfl, rfl⟩
      go_wp2_with fail
      go_roundw
      case rel => exact ⟨k + 1, updS x y, by omega, by go_num, rfl, hlt2, HN, hf⟩
      case measure => simp [intOf]; omega
    · obtain rfl : k = n := by omega
      go_wp2_with fail
      go_ret
      exact ⟨by rw [hxe.out, List.take_of_length_le (by rw [HLN.out]; omega)]; rfl, HF.out.trans hf.out (fun _ _ h => h)⟩
end Go.Proofs.Ytmpjdploacfmeaa
