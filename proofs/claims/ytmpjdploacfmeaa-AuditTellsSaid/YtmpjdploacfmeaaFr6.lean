/- Contracts that audit.Asked leans on: is there a byte that a frame answers? -/
import Derived.Test.YtmpjdploacfmeaaFr5
namespace Go.Proofs.Ytmpjdploacfmeaa
set_option linter.unusedSimpArgs false
set_option linter.unusedVariables false
open Go.RowKit

set_option maxHeartbeats 1000000 in
set_option maxRecDepth 100000 in
theorem asked1_any (x : Hd) (tc ts tl tt a : Int) (bt bf : Nat) (w : World) (ht : Blk w bt 63 #[.int .i64 tc, .int .i64 ts, .int .i64 tl, .int .i64 tt]) (hf : w.cell? ⟨bf, 0, none⟩ = some (.int .i64 a)) (hbf : bf < w.heap.size)
    (hx : 0 ≤ x.at_ ∧ x.at_ ≤ 1099511627776) (hb : 0 ≤ tl ∧ tl ≤ 16777216 ∧ 0 ≤ tt ∧ tt ≤ 16777216) :
    Calls Try.prog 66 #[.agg #[.int .i64 x.at_, .int .u8 x.b, .bool x.x], .pointer (some ⟨bt, 0, none⟩), .pointer (some ⟨bf, 0, none⟩)] w fun e w' => e = .returned (.bool (hits tl tt a x)) ∧ Fr nob w w' := by
  obtain ⟨v, hv⟩ : ∃ v, v = hits tl tt a x := ⟨_, rfl⟩
  rw [← hv]
  have HV := Lib.hid hv
  obtain ⟨xa, xb, xx⟩ := x
  dsimp only at hx ⊢
  have w1' : IntKind.i64.wrap (xa + tl) = xa + tl := IntWalk.i64_in _ (by omega)
  have w2' : IntKind.i64.wrap (xa + tl + tt) = xa + tl + tt := IntWalk.i64_in _ (by omega)
  have q1 := ht.cell
  have q2 := ht.lt
  have HF := Lib.hid ((Fr.refl nob w).alloc (.cells #[.int .i64 xa, .int .u8 xb, .bool xx] 124))
  clear hv hx hb ht
  go_enter Try.func66, Try.ntmps66
  go_wp2_with fail
  go_ret
  exact ⟨by rw [HV.out]; rfl, HF.out⟩

theorem any_hit {l : List Hd} {k : Nat} {x : Hd} (p : Hd → Bool) (hx : l[k]? = some x) (h : p x = true) : l.any p = true := List.any_eq_true.2 ⟨x, List.mem_of_getElem? hx, h⟩

set_option maxHeartbeats 2000000 in
set_option maxRecDepth 100000 in
theorem index_any (A : Option Addr) (n c : Nat) (l : List Hd) (tc ts tl tt a : Int) (bt bf : Nat) (w : World) (h : Rd w 3 A n (l.flatMap hdc)) (hn : n ≤ 400) (ht : Blk w bt 63 #[.int .i64 tc, .int .i64 ts, .int .i64 tl, .int .i64 tt]) (hf : w.cell? ⟨bf, 0, none⟩ = some (.int .i64 a)) (hbf : bf < w.heap.size)
    (hx : ∀ x ∈ l, 0 ≤ x.at_ ∧ x.at_ ≤ 1099511627776) (hb : 0 ≤ tl ∧ tl ≤ 16777216 ∧ 0 ≤ tt ∧ tt ≤ 16777216) :
    Calls Try.prog 79 #[.slice A n c, .func (.func 66) #[] #[.pointer (some ⟨bt, 0, none⟩), .pointer (some ⟨bf, 0, none⟩)]] w fun e w' => ∃ j : Int, e = .returned (.int .i64 j) ∧ decide (0 ≤ j) = l.any (hits tl tt a) ∧ Fr nob w w' := by
  have hln : l.length = n := by
    have := h.1
    rw [flat_len hdc 3 l hdc_len] at this
    omega
  have HLN := Lib.hid hln
  have HR := Lib.hid h
  have HT := Lib.hid ht
  have HC := Lib.hid hf
  have HB := Lib.hid hb
  have HXR := Lib.hid hx
  clear hln h ht hf hb hx
  go_enter Try.func79, Try.ntmps79
  go_wp2_with fail
  go_loopw [8] (fun iv wr => ∃ k : Nat, iv = .int .i64 k ∧ k ≤ n ∧ Hid ((l.take k).any (hits tl tt a) = false) ∧ Hid (Fr nob w wr)) (fun iv _ => n - (intOf iv).toNat)
  case atStart => exact ⟨0, rfl, by omega, Lib.hid rfl, Lib.hid (Fr.refl _ _)⟩
  case round =>
    obtain ⟨k, rfl, hk, hno, hf⟩ := hrel
    by_cases hlt : k < n
    · obtain ⟨b, o, x, rfl, hb, hx, hc0, hc1, hc2⟩ := hd_at HR.out hlt
      have hi0 : (0 : Int) ≤ (k : Int) ∧ (k : Int) < (n : Int) := ⟨by omega, by omega⟩
      have d0 := (hf.out.cell (p := ⟨b, o + k * 3, none⟩) hb id).trans hc0
      have d1 := (hf.out.cell (p := ⟨b, o + k * 3 + 1, none⟩) hb id).trans hc1
      have d2 := (hf.out.cell (p := ⟨b, o + k * 3 + 2, none⟩) hb id).trans hc2
      have hca := asked1_any x tc ts tl tt a bt bf wr (HT.out.fr hf.out id) ((hf.out.cell (p := ⟨bf, 0, none⟩) hbf id).trans HC.out) (Nat.lt_of_lt_of_le hbf hf.out.size) (HXR.out x (List.mem_of_getElem? hx)) HB.out
      have HST := Lib.hid (any_take hx (hits tl tt a))
      have HHI := Lib.hid (any_hit (hits tl tt a) hx)
      obtain ⟨xa, xb, xx⟩ := x
      dsimp only at hca d0 d1 d2
      obtain ⟨p, hp⟩ : ∃ p, p = hits tl tt a ⟨xa, xb, xx⟩ := ⟨_, rfl⟩
      rw [← hp] at hca
      have HP := Lib.hid hp
      have HCA := Lib.hid hca
      clear hca hp hx hc0 hc1 hc2
      go_wp2_with fail
      refine HCA.out.mono ?_
      rintro e w3 ⟨rfl, hf3⟩
      have HF3 := Lib.hid (hf.out.trans hf3 (fun _ _ h => h))
      clear hf3 HCA
      cases p with
      | true =>
        go_wp2_with fail
        go_ret
        exact ⟨k, rfl, by rw [HHI.out HP.out.symm]; exact decide_eq_true (by omega), HF3.out⟩
      | false =>
        go_wp2_with fail
        go_roundw
        case rel => exact ⟨k + 1, by go_num, by omega, Lib.hid (by rw [HST.out, hno.out, ← HP.out]; rfl), HF3⟩
        case measure => simp [intOf]; omega
    · obtain rfl : k = n := by omega
      have HNO := Lib.hid (show l.any (hits tl tt a) = false by
        have := hno.out
        rwa [List.take_of_length_le (by rw [HLN.out]; exact Nat.le_refl _)] at this)
      go_wp2_with fail
      go_ret
      exact ⟨-1, rfl, by rw [HNO.out]; rfl, hf.out⟩

set_option maxHeartbeats 1000000 in
theorem contains_any (A : Option Addr) (n c : Nat) (l : List Hd) (tc ts tl tt a : Int) (bt bf : Nat) (w : World) (h : Rd w 3 A n (l.flatMap hdc)) (hn : n ≤ 400) (ht : Blk w bt 63 #[.int .i64 tc, .int .i64 ts, .int .i64 tl, .int .i64 tt]) (hf : w.cell? ⟨bf, 0, none⟩ = some (.int .i64 a)) (hbf : bf < w.heap.size)
    (hx : ∀ x ∈ l, 0 ≤ x.at_ ∧ x.at_ ≤ 1099511627776) (hb : 0 ≤ tl ∧ tl ≤ 16777216 ∧ 0 ≤ tt ∧ tt ≤ 16777216) :
    Calls Try.prog 67 #[.slice A n c, .func (.func 66) #[] #[.pointer (some ⟨bt, 0, none⟩), .pointer (some ⟨bf, 0, none⟩)]] w fun e w' => e = .returned (.bool (l.any (hits tl tt a))) ∧ Fr nob w w' := by
  have hca := index_any A n c l tc ts tl tt a bt bf w h hn ht hf hbf hx hb
  clear h ht hf hx hb
  go_enter Try.func67, Try.ntmps67
  go_wp2_with fail
  refine hca.mono ?_
  rintro e w2 ⟨j, rfl, hj, hf2⟩
  have HJ := Lib.hid hj
  clear hj hca
  go_wp2_with fail
  go_ret
  exact ⟨by rw [← HJ.out]; rfl, hf2⟩
end Go.Proofs.Ytmpjdploacfmeaa
