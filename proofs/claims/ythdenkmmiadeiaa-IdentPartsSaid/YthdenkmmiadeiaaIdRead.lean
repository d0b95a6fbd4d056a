/- Contract of the document's Read (bilgeref21). -/
import Derived.Test.YthdenkmmiadeiaaId12
import Derived.Test.YthdenkmmiadeiaaIdGreed
import Derived.Test.YthdenkmmiadeiaaLate
namespace Go.Proofs.Ythdenkmmiadeiaa
set_option linter.unusedSimpArgs false
set_option linter.unusedVariables false
open Go.RowKit

def refReadPost (d : List Int) (w : World) (e : Ending) (w' : World) : Prop :=
  ∃ p : Pt, e = .returned (.tuple #[p.val, .bool (refReadS d).isSome]) ∧ p.ok w' ∧ p.s = (refReadS d).getD ps0 ∧ Fr nob w w'
theorem greed_more {d rest : List Int} {S T : List (Int × List Int)} {x0 : Int} {n1 : Nat} {r : List Int} (h : greedS d = S ++ greedS rest) (hr : rest = x0 :: (n1 : Int) :: r) (hn : n1 ≤ r.length) (hT : T = S ++ [(x0, r.take n1)]) : greedS d = T ++ greedS (r.drop n1) := by
  rw [h, hr, greedS_cons, if_pos (by simpa using hn), hT]
  simp
theorem greed_stop {rest : List Int} (h : rest.length < 2 ∨ ∃ x0 n1 r, rest = x0 :: n1 :: r ∧ r.length < n1.toNat) : greedS rest = [] := by
  rcases h with h | ⟨x0, n1, r, rfl, h⟩
  · match rest, h with
    | [], _ => exact greedS_nil
    | [x], _ => exact greedS_one x
    | _ :: _ :: _, h => simp at h; omega
  · rw [greedS_cons, if_neg (by omega)]

set_option maxHeartbeats 4000000 in
set_option maxRecDepth 100000 in
theorem ref21_read (A : Option Addr) (m c : Nat) (d : List Int) (w : World) (hr : Rd w 1 A m (nums .u8 d)) (h8 : bytes8 d) (hm600 : m ≤ 600) (hmc : m ≤ c) (hc : c ≤ 9223372036854775807) :
    Calls Try.prog 16 #[.slice A m c] w (refReadPost d w) := by
  have hl := hr.numlen
  have HL := Lib.hid hl
  have hb0 := Blk.new w 33 #[.int .i64 0, .int .i64 0, .bool false, .int .i64 0, .slice none 0 0]
  have hf0 := (Fr.refl nob w).alloc (.cells #[.int .i64 0, .int .i64 0, .bool false, .int .i64 0, .slice none 0 0] 33)
  have bad : refReadS d = none → ∀ w', Fr nob w w' → refReadPost d w (.returned (.tuple #[.agg #[.int .i64 0, .int .i64 0, .bool false, .int .i64 0, .slice none 0 0], .bool false])) w' := by
    intro h w' hf
    rw [refReadPost, h]
    exact ⟨pt0, rfl, pt0_ok _, rfl, hf⟩
  have BAD := Lib.hid bad
  clear bad
  by_cases hlen : m < 6
  · have hbd : refReadS d = none := by rw [refReadS, if_pos (.inl (by omega))]
    have HBD := Lib.hid hbd
    clear hbd hl
    go_enter Try.func16, Try.ntmps16
    go_wp2_with fail
    refine bodyPost_ret (v := .tuple #[Value.agg #[.int .i64 0, .int .i64 0, .bool false, .int .i64 0, .slice none 0 0], .bool false]) (by simp [results, Try.results16, go_sem]) rfl ?_
    exact BAD.out HBD.out _ hf0
  obtain ⟨bB, oB, hA, hbB, _⟩ := hr.num (i := 0) (by omega)
  subst hA
  have c1 := num2 hr rfl 1 (by omega)
  have c2 := num2 hr rfl 2 (by omega)
  have c3 := num2 hr rfl 3 (by omega)
  have c4 := num2 hr rfl 4 (by omega)
  have b1 := h8.at_ 1
  have b2 := h8.at_ 2
  have b3 := h8.at_ 3
  have b4 := h8.at_ 4
  obtain ⟨d1, hd1⟩ : ∃ x, x = d.getD 1 0 := ⟨_, rfl⟩
  obtain ⟨d2, hd2⟩ : ∃ x, x = d.getD 2 0 := ⟨_, rfl⟩
  obtain ⟨d3, hd3⟩ : ∃ x, x = d.getD 3 0 := ⟨_, rfl⟩
  obtain ⟨d4, hd4⟩ : ∃ x, x = d.getD 4 0 := ⟨_, rfl⟩
  rw [← hd1] at c1 b1
  rw [← hd2] at c2 b2
  rw [← hd3] at c3 b3
  rw [← hd4] at c4 b4
  have HD := Lib.hid (show d1 = d.getD 1 0 ∧ d2 = d.getD 2 0 ∧ d3 = d.getD 3 0 ∧ d4 = d.getD 4 0 from ⟨hd1, hd2, hd3, hd4⟩)
  clear hd1 hd2 hd3 hd4
  have hm6 : 6 ≤ m := by omega
  clear hlen
  by_cases h128 : d2 < 128
  · have hbd : refReadS d = none := by rw [refReadS, if_pos (.inr (by rw [← HD.out.2.1]; exact h128))]
    have HBD := Lib.hid hbd
    clear hbd hl
    go_enter Try.func16, Try.ntmps16
    go_wp2_with fail
    refine bodyPost_ret (v := .tuple #[Value.agg #[.int .i64 0, .int .i64 0, .bool false, .int .i64 0, .slice none 0 0], .bool false]) (by simp [results, Try.results16, go_sem]) rfl ?_
    exact BAD.out HBD.out _ hf0
  have hcl : ∀ V, Fr nob w V → V.cell? ⟨bB, oB + 1, none⟩ = some (.int .u8 d1) ∧ V.cell? ⟨bB, oB + 2, none⟩ = some (.int .u8 d2) ∧ V.cell? ⟨bB, oB + 3, none⟩ = some (.int .u8 d3) ∧ V.cell? ⟨bB, oB + 4, none⟩ = some (.int .u8 d4) := fun V h =>
    ⟨(h.cell (p := ⟨bB, _, none⟩) hbB (fun h => h)).trans c1, (h.cell (p := ⟨bB, _, none⟩) hbB (fun h => h)).trans c2, (h.cell (p := ⟨bB, _, none⟩) hbB (fun h => h)).trans c3, (h.cell (p := ⟨bB, _, none⟩) hbB (fun h => h)).trans c4⟩
  have HCL := Lib.hid hcl
  clear hcl
  obtain ⟨mb, emb, hmb⟩ : ∃ mb, (d3 == 255) = mb ∧ mb = decide (d3 = 255) := ⟨_, rfl, by by_cases h : d3 = 255 <;> simp [h]⟩
  have HMB := Lib.hid hmb
  clear hmb
  have hps : ∀ S, ptOf d S = ⟨d1, d2 - 128, mb, d4, S⟩ := fun S => by
    rw [ptOf, ← HD.out.1, ← HD.out.2.1, ← HD.out.2.2.1, ← HD.out.2.2.2, ← HMB.out]
  have hrd : refReadS d = if writeS (⟨d1, d2 - 128, mb, d4, greedS (d.drop 6)⟩ : Ps) = some d then some ⟨d1, d2 - 128, mb, d4, greedS (d.drop 6)⟩ else none := by
    rw [refReadS, if_neg (by have := HD.out.2.1; omega), hps]
  have HRD := Lib.hid hrd
  obtain ⟨A6, hrun6, hcut6, _⟩ := cut_run (size := 1) Try.underlying25 (by kernel_rfl) (some ⟨bB, oB, none⟩) m c 6 6 rfl hm6 hmc
  have hr6 : Rd w 1 A6 (m - 6) (nums .u8 (d.drop 6)) := by
    have h := hcut6 w _ hr
    rwa [show (nums .u8 d).drop (6 * 1) = nums .u8 (d.drop 6) by simp [nums]] at h
  have h86 : bytes8 (d.drop 6) := fun z hz => h8 z (List.mem_of_mem_drop hz)
  have H86 := Lib.hid h86
  have H8 := Lib.hid h8
  have w2 : IntKind.i64.wrap (d2 - 128) = d2 - 128 := IntWalk.i64_in _ (by omega)
  have w1' : IntKind.i64.wrap d1 = d1 := IntWalk.i64_in _ (by omega)
  have w2' : IntKind.i64.wrap d2 = d2 := IntWalk.i64_in _ (by omega)
  have w4' : IntKind.i64.wrap d4 = d4 := IntWalk.i64_in _ (by omega)
  have i1 : (1 : Int) < (m : Int) ∧ (2 : Int) < (m : Int) ∧ (3 : Int) < (m : Int) ∧ (4 : Int) < (m : Int) := by omega
  obtain ⟨i1, i2, i3, i4⟩ := i1
  clear hcut6 hl hrd hps h86 h8
  go_enter Try.func16, Try.ntmps16
  go_wp2_with fail
  refine wp_region_held_drew (S := fun w' => w'.cell? ⟨bB, oB + 1, none⟩ = some (.int .u8 d1) ∧ w'.cell? ⟨bB, oB + 2, none⟩ = some (.int .u8 d2) ∧ w'.cell? ⟨bB, oB + 3, none⟩ = some (.int .u8 d3) ∧ w'.cell? ⟨bB, oB + 4, none⟩ = some (.int .u8 d4)) (by kernel_rfl) (HCL.out _ hf0.drew) (fun hHeld => ?_)
  first
    | (refine mix_skip 0 rfl (by kernel_rfl) (by kernel_rfl) (by kernel_rfl) (by rfl) (by assumption) (fun _ _ _ h => h) ?_)
    | (refine mix_pure 0 (v := ?_) rfl (by kernel_rfl) (by kernel_rfl) (by kernel_rfl) (by rfl) (by assumption) (fun _ _ _ h => h) ?_ ?_; rotate_left; · (intro wS hSw; (try dsimp only at hSw); go_simp; try with_reducible rfl))
  simp only [Act.put, List.setIfInBounds_toArray, List.set_cons_zero, List.set_cons_succ]
  first
    | (refine mix_skip 1 rfl (by kernel_rfl) (by kernel_rfl) (by kernel_rfl) (by rfl) (by assumption) (fun _ _ _ h => h) ?_)
    | (refine mix_pure 1 (v := ?_) rfl (by kernel_rfl) (by kernel_rfl) (by kernel_rfl) (by rfl) (by assumption) (fun _ _ _ h => h) ?_ ?_; rotate_left; · (intro wS hSw; (try dsimp only at hSw); go_simp; try with_reducible rfl))
  simp only [Act.put, List.setIfInBounds_toArray, List.set_cons_zero, List.set_cons_succ]
  first
    | (refine mix_skip 2 rfl (by kernel_rfl) (by kernel_rfl) (by kernel_rfl) (by rfl) (by assumption) (fun _ _ _ h => h) ?_)
    | (refine mix_pure 2 (v := ?_) rfl (by kernel_rfl) (by kernel_rfl) (by kernel_rfl) (by rfl) (by assumption) (fun _ _ _ h => h) ?_ ?_; rotate_left; · (intro wS hSw; (try dsimp only at hSw); go_simp; try with_reducible rfl))
  simp only [Act.put, List.setIfInBounds_toArray, List.set_cons_zero, List.set_cons_succ]
  first
    | (refine mix_skip 3 rfl (by kernel_rfl) (by kernel_rfl) (by kernel_rfl) (by rfl) (by assumption) (fun _ _ _ h => h) ?_)
    | (refine mix_pure 3 (v := ?_) rfl (by kernel_rfl) (by kernel_rfl) (by kernel_rfl) (by rfl) (by assumption) (fun _ _ _ h => h) ?_ ?_; rotate_left; · (intro wS hSw; (try dsimp only at hSw); go_simp; try with_reducible rfl))
  simp only [Act.put, List.setIfInBounds_toArray, List.set_cons_zero, List.set_cons_succ]
  first
    | (refine mix_skip 4 rfl (by kernel_rfl) (by kernel_rfl) (by kernel_rfl) (by rfl) (by assumption) (fun _ _ _ h => h) ?_)
    | (refine mix_pure 4 (v := ?_) rfl (by kernel_rfl) (by kernel_rfl) (by kernel_rfl) (by rfl) (by assumption) (fun _ _ _ h => h) ?_ ?_; rotate_left; · (intro wS hSw; (try dsimp only at hSw); go_simp; try with_reducible rfl))
  simp only [Act.put, List.setIfInBounds_toArray, List.set_cons_zero, List.set_cons_succ]
  first
    | (refine mix_skip 5 rfl (by kernel_rfl) (by kernel_rfl) (by kernel_rfl) (by rfl) (by assumption) (fun _ _ _ h => h) ?_)
    | (refine mix_pure 5 (v := ?_) rfl (by kernel_rfl) (by kernel_rfl) (by kernel_rfl) (by rfl) (by assumption) (fun _ _ _ h => h) ?_ ?_; rotate_left; · (intro wS hSw; (try dsimp only at hSw); go_simp; try with_reducible rfl))
  simp only [Act.put, List.setIfInBounds_toArray, List.set_cons_zero, List.set_cons_succ]
  first
    | (refine mix_skip 6 rfl (by kernel_rfl) (by kernel_rfl) (by kernel_rfl) (by rfl) (by assumption) (fun _ _ _ h => h) ?_)
    | (refine mix_pure 6 (v := ?_) rfl (by kernel_rfl) (by kernel_rfl) (by kernel_rfl) (by rfl) (by assumption) (fun _ _ _ h => h) ?_ ?_; rotate_left; · (intro wS hSw; (try dsimp only at hSw); go_simp; try with_reducible rfl))
  simp only [Act.put, List.setIfInBounds_toArray, List.set_cons_zero, List.set_cons_succ]
  first
    | (refine mix_skip 7 rfl (by kernel_rfl) (by kernel_rfl) (by kernel_rfl) (by rfl) (by assumption) (fun _ _ _ h => h) ?_)
    | (refine mix_pure 7 (v := ?_) rfl (by kernel_rfl) (by kernel_rfl) (by kernel_rfl) (by rfl) (by assumption) (fun _ _ _ h => h) ?_ ?_; rotate_left; · (intro wS hSw; (try dsimp only at hSw); go_simp; try with_reducible rfl))
  simp only [Act.put, List.setIfInBounds_toArray, List.set_cons_zero, List.set_cons_succ]
  first
    | (refine mix_skip 8 rfl (by kernel_rfl) (by kernel_rfl) (by kernel_rfl) (by rfl) (by assumption) (fun _ _ _ h => h) ?_)
    | (refine mix_pure 8 (v := ?_) rfl (by kernel_rfl) (by kernel_rfl) (by kernel_rfl) (by rfl) (by assumption) (fun _ _ _ h => h) ?_ ?_; rotate_left; · (intro wS hSw; (try dsimp only at hSw); go_simp; try with_reducible rfl))
  simp only [Act.put, List.setIfInBounds_toArray, List.set_cons_zero, List.set_cons_succ]
  first
    | (refine mix_skip 9 rfl (by kernel_rfl) (by kernel_rfl) (by kernel_rfl) (by rfl) (by assumption) (fun _ _ _ h => h) ?_)
    | (refine mix_pure 9 (v := ?_) rfl (by kernel_rfl) (by kernel_rfl) (by kernel_rfl) (by rfl) (by assumption) (fun _ _ _ h => h) ?_ ?_; rotate_left; · (intro wS hSw; (try dsimp only at hSw); go_simp; try with_reducible rfl))
  simp only [Act.put, List.setIfInBounds_toArray, List.set_cons_zero, List.set_cons_succ]
  first
    | (refine mix_skip 10 rfl (by kernel_rfl) (by kernel_rfl) (by kernel_rfl) (by rfl) (by assumption) (fun _ _ _ h => h) ?_)
    | (refine mix_pure 10 (v := ?_) rfl (by kernel_rfl) (by kernel_rfl) (by kernel_rfl) (by rfl) (by assumption) (fun _ _ _ h => h) ?_ ?_; rotate_left; · (intro wS hSw; (try dsimp only at hSw); go_simp; try with_reducible rfl))
  simp only [Act.put, List.setIfInBounds_toArray, List.set_cons_zero, List.set_cons_succ]
  first
    | (refine mix_skip 11 rfl (by kernel_rfl) (by kernel_rfl) (by kernel_rfl) (by rfl) (by assumption) (fun _ _ _ h => h) ?_)
    | (refine mix_pure 11 (v := ?_) rfl (by kernel_rfl) (by kernel_rfl) (by kernel_rfl) (by rfl) (by assumption) (fun _ _ _ h => h) ?_ ?_; rotate_left; · (intro wS hSw; (try dsimp only at hSw); go_simp; try with_reducible rfl))
  simp only [Act.put, List.setIfInBounds_toArray, List.set_cons_zero, List.set_cons_succ]
  first
    | (refine mix_skip 12 rfl (by kernel_rfl) (by kernel_rfl) (by kernel_rfl) (by rfl) (by assumption) (fun _ _ _ h => h) ?_)
    | (refine mix_pure 12 (v := ?_) rfl (by kernel_rfl) (by kernel_rfl) (by kernel_rfl) (by rfl) (by assumption) (fun _ _ _ h => h) ?_ ?_; rotate_left; · (intro wS hSw; (try dsimp only at hSw); go_simp; try with_reducible rfl))
  simp only [Act.put, List.setIfInBounds_toArray, List.set_cons_zero, List.set_cons_succ]
  first
    | (refine mix_skip 13 rfl (by kernel_rfl) (by kernel_rfl) (by kernel_rfl) (by rfl) (by assumption) (fun _ _ _ h => h) ?_)
    | (refine mix_pure 13 (v := ?_) rfl (by kernel_rfl) (by kernel_rfl) (by kernel_rfl) (by rfl) (by assumption) (fun _ _ _ h => h) ?_ ?_; rotate_left; · (intro wS hSw; (try dsimp only at hSw); go_simp; try with_reducible rfl))
  simp only [Act.put, List.setIfInBounds_toArray, List.set_cons_zero, List.set_cons_succ]
  first
    | (refine mix_skip 14 rfl (by kernel_rfl) (by kernel_rfl) (by kernel_rfl) (by rfl) (by assumption) (fun _ _ _ h => h) ?_)
    | (refine mix_pure 14 (v := ?_) rfl (by kernel_rfl) (by kernel_rfl) (by kernel_rfl) (by rfl) (by assumption) (fun _ _ _ h => h) ?_ ?_; rotate_left; · (intro wS hSw; (try dsimp only at hSw); go_simp; try with_reducible rfl))
  simp only [Act.put, List.setIfInBounds_toArray, List.set_cons_zero, List.set_cons_succ]
  first
    | (refine mix_skip 15 rfl (by kernel_rfl) (by kernel_rfl) (by kernel_rfl) (by rfl) (by assumption) (fun _ _ _ h => h) ?_)
    | (refine mix_pure 15 (v := ?_) rfl (by kernel_rfl) (by kernel_rfl) (by kernel_rfl) (by rfl) (by assumption) (fun _ _ _ h => h) ?_ ?_; rotate_left; · (intro wS hSw; (try dsimp only at hSw); go_simp; try with_reducible rfl))
  simp only [Act.put, List.setIfInBounds_toArray, List.set_cons_zero, List.set_cons_succ]
  first
    | (refine mix_skip 16 rfl (by kernel_rfl) (by kernel_rfl) (by kernel_rfl) (by rfl) (by assumption) (fun _ _ _ h => h) ?_)
    | (refine mix_pure 16 (v := ?_) rfl (by kernel_rfl) (by kernel_rfl) (by kernel_rfl) (by rfl) (by assumption) (fun _ _ _ h => h) ?_ ?_; rotate_left; · (intro wS hSw; (try dsimp only at hSw); go_simp; try with_reducible rfl))
  simp only [Act.put, List.setIfInBounds_toArray, List.set_cons_zero, List.set_cons_succ]
  first
    | (refine mix_skip 17 rfl (by kernel_rfl) (by kernel_rfl) (by kernel_rfl) (by rfl) (by assumption) (fun _ _ _ h => h) ?_)
    | (refine mix_pure 17 (v := ?_) rfl (by kernel_rfl) (by kernel_rfl) (by kernel_rfl) (by rfl) (by assumption) (fun _ _ _ h => h) ?_ ?_; rotate_left; · (intro wS hSw; (try dsimp only at hSw); go_simp; try with_reducible rfl))
  simp only [Act.put, List.setIfInBounds_toArray, List.set_cons_zero, List.set_cons_succ]
  refine mix_one 18 rfl (by kernel_rfl) (fun K hK => ?_)
  go_simp
  refine hK.out _ _ (HCL.out _ ((hf0.alloc (.cells #[.int .i64 0, .int .i64 0, .bool false, .int .i64 0, .slice none 0 0] 33)).drew)) (fun hHeld0 => ?_)
  clear hK K
  try simp only [Act.put, List.setIfInBounds_toArray, List.set_cons_zero, List.set_cons_succ]
  refine mix_one 19 rfl (by kernel_rfl) (fun K hK => ?_)
  go_simp
  refine hK.out _ _ (HCL.out _ ((hf0.alloc (.cells #[.int .i64 d1, .int .i64 (d2 - 128), .bool mb, .int .i64 d4, .slice none 0 0] 33)).drew)) (fun hHeld1 => ?_)
  clear hK K
  try simp only [Act.put, List.setIfInBounds_toArray, List.set_cons_zero, List.set_cons_succ]
  refine wpAnyH_done (by kernel_rfl) ?_ _
  clear hHeld hHeld0 hHeld1
  have hb1 := (Blk.new (w.alloc (.cells #[.int .i64 0, .int .i64 0, .bool false, .int .i64 0, .slice none 0 0] 33)) 33 #[.int .i64 d1, .int .i64 (d2 - 128), .bool mb, .int .i64 d4, .slice none 0 0]).drew
  rw [World.size_alloc] at hb1
  have hbz := (hb0.alloc (.cells #[.int .i64 d1, .int .i64 (d2 - 128), .bool mb, .int .i64 d4, .slice none 0 0] 33)).drew
  have hf1 := (hf0.alloc (.cells #[.int .i64 d1, .int .i64 (d2 - 128), .bool mb, .int .i64 d4, .slice none 0 0] 33)).drew
  obtain ⟨W, hW⟩ : ∃ W, W = ((w.alloc (.cells #[.int .i64 0, .int .i64 0, .bool false, .int .i64 0, .slice none 0 0] 33)).alloc (.cells #[.int .i64 d1, .int .i64 (d2 - 128), .bool mb, .int .i64 d4, .slice none 0 0] 33)).drew := ⟨_, rfl⟩
  have hzW : W.heap.size = w.heap.size + 2 := by rw [hW]; simp
  rw [← hW] at hb1 hbz hf1 ⊢
  clear hW hb0 hf0
  go_wp2_with fail
  go_loopw [5] (fun bv wr => ∃ (A' : Option Addr) (m' c' : Nat) (rest : List Int) (Av : Option Addr) (k cv : Nat) (L : List Ob), bv = .slice A' m' c' ∧ m' ≤ c' ∧ c' ≤ 9223372036854775807 ∧ Rd w 1 A' m' (nums .u8 rest) ∧ Hid (bytes8 rest) ∧ OwnObs wr w.heap.size (.slice Av k cv) k L ∧ Hid (greedS (d.drop 6) = L.map Ob.s ++ greedS rest) ∧ 2 * k + m' ≤ 600 ∧ Fr nob w wr ∧ w.heap.size + 2 ≤ wr.heap.size ∧ Blk wr (w.heap.size + 1) 33 #[.int .i64 d1, .int .i64 (d2 - 128), .bool mb, .int .i64 d4, .slice Av k cv] ∧ Blk wr w.heap.size 33 #[.int .i64 0, .int .i64 0, .bool false, .int .i64 0, .slice none 0 0]) (fun bv _ => match bv with | .slice _ n _ => n | _ => 0)
  case atStart => exact ⟨A6, m - 6, c - 6, d.drop 6, none, 0, 0, [], rfl, by omega, by omega, hr6, H86, ⟨World.ownsRow_nil _ _ _ _, by simp⟩, Lib.hid (by simp), by omega, hf1, by omega, hb1, hbz⟩
  case round =>
    clear hr6 H86 hf1 hb1 hbz hzW hrun6
    obtain ⟨A', m', c', rest, Av, k, cv, L, rfl, hmc', hc', hr', h8', hown, heq, hk, hf, hz2, hb1, hbz⟩ := hrel
    have hl' := hr'.numlen
    have HL' := Lib.hid hl'
    clear hl'
    have key : (m' < 2 ∨ 2 ≤ m') := by omega
    by_cases hgo : 2 ≤ m' ∧ rest.getD 1 0 + 2 ≤ (m' : Int)
    · obtain ⟨h2, hfit⟩ := hgo
      obtain ⟨ab, ao, rfl, hab, hc0⟩ := hr'.num (i := 0) (by omega)
      obtain ⟨ab', ao', e', _, hc1⟩ := hr'.num (i := 1) (by omega)
      injection e' with e'
      injection e' with e1 e2
      subst e1; subst e2
      have hb0' := h8'.out.at_ 0
      have hb1' := h8'.out.at_ 1
      have hspl := two_more (d := rest) (by rw [HL'.out]; omega)
      obtain ⟨x0, hx0⟩ : ∃ x0, x0 = rest.getD 0 0 := ⟨_, rfl⟩
      obtain ⟨x1, hx1⟩ : ∃ x1, x1 = rest.getD 1 0 := ⟨_, rfl⟩
      rw [← hx0] at hc0 hb0' hspl
      rw [← hx1] at hc1 hb1' hspl hfit
      rw [Nat.add_zero] at hc0
      have HSP := Lib.hid hspl
      clear hx0 hx1 hspl key
      obtain ⟨v, hv⟩ : ∃ v, v = Value.slice Av k cv := ⟨_, rfl⟩
      rw [← hv] at hown hb1
      have HV := Lib.hid hv
      clear hv
      have hcl : ∀ V, Fr nob wr V → V.cell? ⟨ab, ao, none⟩ = some (.int .u8 x0) ∧ V.cell? ⟨ab, ao + 1, none⟩ = some (.int .u8 x1) ∧ V.cell? ⟨w.heap.size + 1, 4, none⟩ = some v := fun V h =>
        ⟨((hf.trans h (fun _ _ h => h)).cell (p := ⟨ab, ao, none⟩) hab (fun h => h)).trans hc0, ((hf.trans h (fun _ _ h => h)).cell (p := ⟨ab, ao + 1, none⟩) hab (fun h => h)).trans hc1, (hb1.fr h (fun h => h)).cell 4⟩
      have HCL' := Lib.hid hcl
      obtain ⟨q0, q1, q2⟩ := HCL'.out wr (Fr.refl _ _)
      clear hcl hc0 hc1
      obtain ⟨n1, hn1⟩ : ∃ n1 : Nat, x1 = (n1 : Int) := ⟨x1.toNat, by omega⟩
      subst hn1
      have hnm : n1 + 2 ≤ m' := by omega
      have h0' : 0 < m' := by omega
      obtain ⟨A3, hrun3, hcut3, hblk3⟩ := mid_run (size := 1) Try.underlying25 (by kernel_rfl) (some ⟨ab, ao, none⟩) m' c' 2 (2 + n1) 2 (2 + (n1 : Int)) rfl (by omega) (by omega) (by omega) hmc'
      obtain ⟨A4, hrun4, hcut4, hblk4⟩ := cut_run (size := 1) Try.underlying25 (by kernel_rfl) (some ⟨ab, ao, none⟩) m' c' (2 + n1) (2 + (n1 : Int)) (by omega) (by omega) hmc'
      have hr3 : Rd w 1 A3 n1 (nums .u8 ((rest.drop 2).take n1)) := by
        have h := hcut3 w _ hr'
        rw [Nat.add_sub_cancel_left] at h
        rwa [show ((nums .u8 rest).take ((2 + n1) * 1)).drop (2 * 1) = nums .u8 ((rest.drop 2).take n1) by
          simp only [nums, Nat.mul_one]
          rw [List.drop_take, Nat.add_sub_cancel_left, ← List.map_drop, ← List.map_take]] at h
      have hr4 : Rd w 1 A4 (m' - (2 + n1)) (nums .u8 ((rest.drop 2).drop n1)) := by
        have h := hcut4 w _ hr'
        rwa [show (nums .u8 rest).drop ((2 + n1) * 1) = nums .u8 ((rest.drop 2).drop n1) by
          simp only [nums, Nat.mul_one]
          rw [List.drop_drop, ← List.map_drop]] at h
      rw [Nat.add_sub_cancel_left] at hrun3
      clear hcut3 hcut4 hblk3 hblk4
      have hg2 : decide ((2 : Int) + (n1 : Int) ≤ (m' : Int)) = true := decide_eq_true (by omega)
      have hwn : IntKind.i64.wrap (2 + (n1 : Int)) = 2 + (n1 : Int) := IntWalk.i64_in _ (by omega)
      have hwx : IntKind.i64.wrap x0 = x0 := IntWalk.i64_in _ (by omega)
      go_wp2_with fail
      have hownE : ((wr.alloc (.cells #[] 5)).drew).ownsRow wr.heap.size 5 1 (.slice (some ⟨wr.heap.size, 0, none⟩) 0 0) 0 [] := own_new wr 5 #[] 0 rfl (by omega)
      have hf1 : Fr nob wr ((wr.alloc (.cells #[] 5)).drew) := ((Fr.refl nob wr).alloc _).drew
      have hzz := hf.size
      refine late_start (fun w' => w'.cell? ⟨ab, ao, none⟩ = some (.int .u8 x0) ∧ w'.cell? ⟨w.heap.size + 1, 4, none⟩ = some v) (fun i => i == 15) (by kernel_rfl) ⟨q0, q2⟩ (fun hHeld => ?_)
      first
        | (refine late_skip 0 rfl (by kernel_rfl) (by kernel_rfl) (by kernel_rfl) (by kernel_rfl) (by rfl) (by assumption) (fun _ _ _ h => h) ?_)
        | (refine late_pure 0 (v := ?_) rfl (by kernel_rfl) (by kernel_rfl) (by kernel_rfl) (by kernel_rfl) (by rfl) (by assumption) (fun _ _ _ h => h) ?_ ?_; rotate_left; · (intro wS hSw; (try dsimp only at hSw); go_simp; try with_reducible rfl))
      simp only [Act.put, List.setIfInBounds_toArray, List.set_cons_zero, List.set_cons_succ]
      first
        | (refine late_skip 1 rfl (by kernel_rfl) (by kernel_rfl) (by kernel_rfl) (by kernel_rfl) (by rfl) (by assumption) (fun _ _ _ h => h) ?_)
        | (refine late_pure 1 (v := ?_) rfl (by kernel_rfl) (by kernel_rfl) (by kernel_rfl) (by kernel_rfl) (by rfl) (by assumption) (fun _ _ _ h => h) ?_ ?_; rotate_left; · (intro wS hSw; (try dsimp only at hSw); go_simp; try with_reducible rfl))
      simp only [Act.put, List.setIfInBounds_toArray, List.set_cons_zero, List.set_cons_succ]
      first
        | (refine late_skip 2 rfl (by kernel_rfl) (by kernel_rfl) (by kernel_rfl) (by kernel_rfl) (by rfl) (by assumption) (fun _ _ _ h => h) ?_)
        | (refine late_pure 2 (v := ?_) rfl (by kernel_rfl) (by kernel_rfl) (by kernel_rfl) (by kernel_rfl) (by rfl) (by assumption) (fun _ _ _ h => h) ?_ ?_; rotate_left; · (intro wS hSw; (try dsimp only at hSw); go_simp; try with_reducible rfl))
      simp only [Act.put, List.setIfInBounds_toArray, List.set_cons_zero, List.set_cons_succ]
      first
        | (refine late_skip 3 rfl (by kernel_rfl) (by kernel_rfl) (by kernel_rfl) (by kernel_rfl) (by rfl) (by assumption) (fun _ _ _ h => h) ?_)
        | (refine late_pure 3 (v := ?_) rfl (by kernel_rfl) (by kernel_rfl) (by kernel_rfl) (by kernel_rfl) (by rfl) (by assumption) (fun _ _ _ h => h) ?_ ?_; rotate_left; · (intro wS hSw; (try dsimp only at hSw); go_simp; try with_reducible rfl))
      simp only [Act.put, List.setIfInBounds_toArray, List.set_cons_zero, List.set_cons_succ]
      first
        | (refine late_skip 4 rfl (by kernel_rfl) (by kernel_rfl) (by kernel_rfl) (by kernel_rfl) (by rfl) (by assumption) (fun _ _ _ h => h) ?_)
        | (refine late_pure 4 (v := ?_) rfl (by kernel_rfl) (by kernel_rfl) (by kernel_rfl) (by kernel_rfl) (by rfl) (by assumption) (fun _ _ _ h => h) ?_ ?_; rotate_left; · (intro wS hSw; (try dsimp only at hSw); go_simp; try with_reducible rfl))
      simp only [Act.put, List.setIfInBounds_toArray, List.set_cons_zero, List.set_cons_succ]
      first
        | (refine late_skip 5 rfl (by kernel_rfl) (by kernel_rfl) (by kernel_rfl) (by kernel_rfl) (by rfl) (by assumption) (fun _ _ _ h => h) ?_)
        | (refine late_pure 5 (v := ?_) rfl (by kernel_rfl) (by kernel_rfl) (by kernel_rfl) (by kernel_rfl) (by rfl) (by assumption) (fun _ _ _ h => h) ?_ ?_; rotate_left; · (intro wS hSw; (try dsimp only at hSw); go_simp; try with_reducible rfl))
      simp only [Act.put, List.setIfInBounds_toArray, List.set_cons_zero, List.set_cons_succ]
      first
        | (refine late_skip 7 rfl (by kernel_rfl) (by kernel_rfl) (by kernel_rfl) (by kernel_rfl) (by rfl) (by assumption) (fun _ _ _ h => h) ?_)
        | (refine late_pure 7 (v := ?_) rfl (by kernel_rfl) (by kernel_rfl) (by kernel_rfl) (by kernel_rfl) (by rfl) (by assumption) (fun _ _ _ h => h) ?_ ?_; rotate_left; · (intro wS hSw; (try dsimp only at hSw); go_simp; try with_reducible rfl))
      simp only [Act.put, List.setIfInBounds_toArray, List.set_cons_zero, List.set_cons_succ]
      first
        | (refine late_skip 8 rfl (by kernel_rfl) (by kernel_rfl) (by kernel_rfl) (by kernel_rfl) (by rfl) (by assumption) (fun _ _ _ h => h) ?_)
        | (refine late_pure 8 (v := ?_) rfl (by kernel_rfl) (by kernel_rfl) (by kernel_rfl) (by kernel_rfl) (by rfl) (by assumption) (fun _ _ _ h => h) ?_ ?_; rotate_left; · (intro wS hSw; (try dsimp only at hSw); go_simp; try with_reducible rfl))
      simp only [Act.put, List.setIfInBounds_toArray, List.set_cons_zero, List.set_cons_succ]
      first
        | (refine late_skip 9 rfl (by kernel_rfl) (by kernel_rfl) (by kernel_rfl) (by kernel_rfl) (by rfl) (by assumption) (fun _ _ _ h => h) ?_)
        | (refine late_pure 9 (v := ?_) rfl (by kernel_rfl) (by kernel_rfl) (by kernel_rfl) (by kernel_rfl) (by rfl) (by assumption) (fun _ _ _ h => h) ?_ ?_; rotate_left; · (intro wS hSw; (try dsimp only at hSw); go_simp; try with_reducible rfl))
      simp only [Act.put, List.setIfInBounds_toArray, List.set_cons_zero, List.set_cons_succ]
      refine late_one 6 rfl (by kernel_rfl) (fun K hK => ?_)
      go_simp
      refine hK.out _ _ (⟨(HCL'.out _ hf1).1, (HCL'.out _ hf1).2.2⟩) (fun hHeld0 => ?_)
      clear hK K
      try simp only [Act.put, List.setIfInBounds_toArray, List.set_cons_zero, List.set_cons_succ]
      refine late_one 10 rfl (by kernel_rfl) (fun K hK => ?_)
      rw [if_pos (by rfl)]
      refine app_row_op (P := Try.prog) (W := (wr.alloc (.cells #[] 5)).drew) wr.heap.size _ _ _ 5 (Value.int .u8 0) 1 1 rfl Try.underlying25 (by kernel_rfl) rfl (by omega) (.slice (some ⟨wr.heap.size, 0, none⟩) 0 0) 0 [] A3 n1 (c' - 2) (nums .u8 ((rest.drop 2).take n1)) rfl rfl (nums_one _ _) hownE (hr3.nob (hf.trans hf1 (fun _ _ h => h))) (by simp) (by omega) (by omega) ?_
      intro v5 w5 hown5 hg5 _
      have hown5' : w5.ownsRow wr.heap.size 5 1 v5 n1 (nums .u8 ((rest.drop 2).take n1)) := by simpa using hown5
      have hfg5 : Fr nob wr w5 := hf1.grown hg5 (fun k hk => .inr (own_at hownE k hk))
      obtain ⟨A5, c5, rfl, hle5, _⟩ := own_form hown5'
      refine hK.out _ _ (⟨(HCL'.out _ hfg5).1, (HCL'.out _ hfg5).2.2⟩) (fun hHeld1 => ?_)
      clear hK K
      try simp only [Act.put, List.setIfInBounds_toArray, List.set_cons_zero, List.set_cons_succ]
      first
        | (refine late_skip 11 rfl (by kernel_rfl) (by kernel_rfl) (by kernel_rfl) (by kernel_rfl) (by rfl) (by assumption) (fun _ _ _ h => h) ?_)
        | (refine late_pure 11 (v := ?_) rfl (by kernel_rfl) (by kernel_rfl) (by kernel_rfl) (by kernel_rfl) (by rfl) (by assumption) (fun _ _ _ h => h) ?_ ?_; rotate_left; · (intro wS hSw; (try dsimp only at hSw); go_simp; try with_reducible rfl))
      simp only [Act.put, List.setIfInBounds_toArray, List.set_cons_zero, List.set_cons_succ]
      refine late_one 12 rfl (by kernel_rfl) (fun K hK => ?_)
      go_simp
      have hf6 : Fr nob wr (w5.alloc (.cells #[.int .i64 x0, .slice A5 n1 c5] 49)) := hfg5.alloc _
      refine hK.out _ _ (⟨(HCL'.out _ hf6).1, (HCL'.out _ hf6).2.2⟩) (fun hHeld2 => ?_)
      clear hK K
      try simp only [Act.put, List.setIfInBounds_toArray, List.set_cons_zero, List.set_cons_succ]
      refine late_one 13 rfl (by kernel_rfl) (fun K hK => ?_)
      rw [if_pos (by rfl)]
      have hob5 := own_fr hown.1 hfg5 (fun _ _ h => h)
      have hdat5 : ∀ y ∈ L, w5.ownsRow w.heap.size 5 1 (.slice y.A y.n y.c) y.n (nums .u8 y.d) := fun y hy => own_fr (hown.2 y hy).1 hfg5 (fun _ _ h => h)
      have hob6 := hob5.alloc (.cells #[.int .i64 x0, .slice A5 n1 c5] 49)
      have hr6 : Rd (w5.alloc (.cells #[.int .i64 x0, .slice A5 n1 c5] 49)) 2 (some ⟨w5.heap.size, 0, none⟩) 1 [.int .i64 x0, .slice A5 n1 c5] := Rd.of_blk (Blk.new w5 _ _) rfl (fun j u hu => by rw [Nat.zero_add]; simpa using hu)
      refine app_row_op (P := Try.prog) (W := w5.alloc (.cells #[.int .i64 x0, .slice A5 n1 c5] 49)) w.heap.size _ _ _ 49 (.agg #[.int .i64 0, .slice none 0 0]) 2 32 rfl Try.underlying22 info_object rfl (by omega) v k (L.flatMap Ob.cs) (some ⟨w5.heap.size, 0, none⟩) 1 1 [.int .i64 x0, .slice A5 n1 c5] rfl rfl (by simp [Value.oneCell']) hob6 hr6 (by have := hf6.size; omega) (by omega) (by omega) ?_
      intro v7 w7 hown7 hg7 _
      have hfw7 : Fr nob w w7 := (hf.trans hf6 (fun _ _ h => h)).grown hg7 (fun k hk => .inr (own_at hob6 k hk))
      have hb7 : Blk w7 (w.heap.size + 1) 33 #[.int .i64 d1, .int .i64 (d2 - 128), .bool mb, .int .i64 d4, v] := (hb1.fr hf6 (fun h => h)).grown hg7 (fun e => by
        obtain ⟨cs, hcs⟩ := own_block hob6 _ e.symm
        have hx := hb1.fr hf6 (fun h => h)
        unfold Blk at hx
        rw [hx] at hcs
        cases hcs)
      have hz7 : Blk w7 w.heap.size 33 #[.int .i64 0, .int .i64 0, .bool false, .int .i64 0, .slice none 0 0] := (hbz.fr hf6 (fun h => h)).grown hg7 (fun e => by
        obtain ⟨cs, hcs⟩ := own_block hob6 _ e.symm
        have hx := hbz.fr hf6 (fun h => h)
        unfold Blk at hx
        rw [hx] at hcs
        cases hcs)
      have hx7 : w7.cell? ⟨ab, ao, none⟩ = some (.int .u8 x0) := by
        have h1 := (HCL'.out _ (Fr.refl nob wr)).1
        have h2 := hf.cell (p := ⟨ab, ao, none⟩) hab (fun h => h)
        exact (hfw7.cell (p := ⟨ab, ao, none⟩) hab (fun h => h)).trans (h2.symm.trans h1)
      obtain ⟨A7, c7, rfl, hle7, _⟩ := own_form hown7
      have qb7 := hb7.cell
      have qf7 := hb7.frozen
      have zb7 := hb7.lt
      refine hK.out _ _ (⟨hx7, hb7.cell 4⟩) (fun hHeld3 => ?_)
      clear hK K
      try simp only [Act.put, List.setIfInBounds_toArray, List.set_cons_zero, List.set_cons_succ]
      first
        | (refine late_skip 14 rfl (by kernel_rfl) (by kernel_rfl) (by kernel_rfl) (by kernel_rfl) (by rfl) (by assumption) (fun _ _ _ h => h) ?_)
        | (refine late_pure 14 (v := ?_) rfl (by kernel_rfl) (by kernel_rfl) (by kernel_rfl) (by kernel_rfl) (by rfl) (by assumption) (fun _ _ _ h => h) ?_ ?_; rotate_left; · (intro wS hSw; (try dsimp only at hSw); go_simp; try with_reducible rfl))
      simp only [Act.put, List.setIfInBounds_toArray, List.set_cons_zero, List.set_cons_succ]
      refine late_last 15 rfl (by kernel_rfl) (by kernel_rfl) (fun K hK => ?_)
      go_simp
      have hb8 := hb7.set_ 4 (.slice A7 (k + 1) c7)
      have hfw8 : Fr nob w (w7.setCell ⟨w.heap.size + 1, 4, none⟩ (.slice A7 (k + 1) c7)) := hfw7.set_ (p := ⟨w.heap.size + 1, 4, none⟩) (.inr (by dsimp only; omega)) _
      have hz8 := hz7.far (p := ⟨w.heap.size + 1, 4, none⟩) (by dsimp only; omega) (.slice A7 (k + 1) c7)
      have hdat7 : ∀ y ∈ L, w7.ownsRow w.heap.size 5 1 (.slice y.A y.n y.c) y.n (nums .u8 y.d) := fun y hy => own_other ((hdat5 y hy).alloc _) hg7 (own_block hob6) (by decide)
      have hnew7 : w7.ownsRow w.heap.size 5 1 (.slice A5 n1 c5) n1 (nums .u8 ((rest.drop 2).take n1)) := own_base (own_other (hown5'.alloc _) hg7 (own_block hob6) (by decide)) (by omega)
      have hown8 := own_set (i := 4) hown7 hb7 (by decide) (.slice A7 (k + 1) c7)
      have hdat8 : ∀ y ∈ L, (w7.setCell ⟨w.heap.size + 1, 4, none⟩ (.slice A7 (k + 1) c7)).ownsRow w.heap.size 5 1 (.slice y.A y.n y.c) y.n (nums .u8 y.d) := fun y hy => own_set (i := 4) (hdat7 y hy) hb7 (by decide) (.slice A7 (k + 1) c7)
      have hnew8 := own_set (i := 4) hnew7 hb7 (by decide) (.slice A7 (k + 1) c7)
      have hsz8 : w.heap.size + 2 ≤ (w7.setCell ⟨w.heap.size + 1, 4, none⟩ (.slice A7 (k + 1) c7)).heap.size := by have := hb8.lt; omega
      refine hK.out _ _ ?_
      clear hK K
      try simp only [Act.put, List.setIfInBounds_toArray, List.set_cons_zero, List.set_cons_succ]
      refine late_done (by kernel_rfl) ?_
      clear hHeld hHeld0 hHeld1 hHeld2 hHeld3 qb7 qf7
      generalize (w7.setCell ⟨w.heap.size + 1, 4, none⟩ (.slice A7 (k + 1) c7)) = w8 at *
      go_wp2_with fail
      go_roundw
      case rel =>
        refine ⟨A4, m' - (2 + n1), c' - (2 + n1), (rest.drop 2).drop n1, A7, k + 1, c7, L ++ [⟨x0, A5, n1, c5, (rest.drop 2).take n1⟩], rfl, by omega, by omega, hr4, ?_, ⟨?_, ?_⟩, ?_, by omega, hfw8, hsz8, hb8, hz8⟩
        · exact Lib.hid (fun z hz => h8'.out z (List.mem_of_mem_drop (List.mem_of_mem_drop hz)))
        · simpa [List.flatMap_append, Ob.cs] using hown8
        · intro y hy
          rcases List.mem_append.1 hy with hy | hy
          · exact ⟨hdat8 y hy, (hown.2 y hy).2⟩
          · simp at hy
            subst hy
            exact ⟨hnew8, by dsimp only; omega⟩
        · exact Lib.hid (greed_more heq.out HSP.out (by rw [List.length_drop, HL'.out]; omega) (by simp [Ob.s]))
      case measure => simp; omega
    · have hstop : greedS rest = [] := greed_stop (by
        rcases Nat.lt_or_ge m' 2 with h | h
        · exact .inl (by rw [HL'.out]; exact h)
        · refine .inr ⟨_, _, _, two_more (d := rest) (by rw [HL'.out]; omega), ?_⟩
          have hb1' := h8'.out.at_ 1
          rw [List.length_drop, HL'.out]
          omega)
      have hS : greedS (d.drop 6) = L.map Ob.s := by rw [heq.out, hstop, List.append_nil]
      have HS := Lib.hid hS
      clear hstop hS
      have hpk : (⟨d1, d2 - 128, mb, d4, Av, k, cv, L⟩ : Pt).ok wr := ⟨hown.obs, hown.caps.1, hown.caps.2⟩
      have hwc := ref21_write ⟨d1, d2 - 128, mb, d4, Av, k, cv, L⟩ wr hpk
      have hps : (⟨d1, d2 - 128, mb, d4, Av, k, cv, L⟩ : Pt).s = ⟨d1, d2 - 128, mb, d4, greedS (d.drop 6)⟩ := by rw [HS.out]; rfl
      rw [hps] at hwc
      simp only [Pt.val, Pt.cells] at hwc
      have HWC := Lib.hid hwc
      have HPS := Lib.hid hps
      have HPK := Lib.hid hpk
      clear hwc hps hpk heq
      have hx : (m' < 2) ∨ (2 ≤ m' ∧ ∃ ab ao n1, A' = some ⟨ab, ao, none⟩ ∧ ab < w.heap.size ∧ wr.cell? ⟨ab, ao + 1, none⟩ = some (.int .u8 ((n1 : Nat) : Int)) ∧ n1 ≤ 255 ∧ m' < n1 + 2) := by
        rcases Nat.lt_or_ge m' 2 with h | h
        · exact .inl h
        · obtain ⟨ab, ao, e, hab, hc1⟩ := hr'.num (i := 1) (by omega)
          have hb1' := h8'.out.at_ 1
          refine .inr ⟨h, ab, ao, (rest.getD 1 0).toNat, e, hab, ?_, by omega, by omega⟩
          rw [(hf.cell (p := ⟨ab, ao + 1, none⟩) hab (fun h => h)), hc1, Int.toNat_of_nonneg hb1'.1]
      have q1 := hb1.cell
      have zb1 := hb1.lt
      have qz := hbz.cell
      have qzf := hbz.frozen
      have zbz := hbz.lt
      clear hgo key hr'
      rcases hx with hx | ⟨hx, ab, ao, n1, rfl, hab, hc1, hn1, hx2⟩
      all_goals
        try
          have hwn : IntKind.i64.wrap (2 + (n1 : Int)) = 2 + (n1 : Int) := IntWalk.i64_in _ (by omega)
          have hg2 : decide ((2 : Int) + (n1 : Int) ≤ (m' : Int)) = false := decide_eq_false (by omega)
        go_wp2_with fail
        refine HWC.out.mono ?_
        rintro e w2 ⟨A2, k2, c2, rfl, hr2, hk2, hc2, -, hf2⟩
        have hf02 := hf.trans hf2 (fun _ _ h => h)
        have hb2 := hb1.fr hf2 (fun h => h)
        have hbz2 := hbz.fr hf2 (fun h => h)
        have p1 := hb2.cell
        have y1 := hb2.lt
        have pz := hbz2.cell
        have pzf := hbz2.frozen
        have yz := hbz2.lt
        cases hw : writeS ⟨d1, d2 - 128, mb, d4, greedS (d.drop 6)⟩ with
        | none =>
          have hbd : refReadS d = none := by rw [HRD.out, hw, if_neg (by simp)]
          have HBD := Lib.hid hbd
          clear hbd hw hr2 q1 qz qzf
          go_wp2_with fail
          refine bodyPost_ret (v := .tuple #[Value.agg #[.int .i64 0, .int .i64 0, .bool false, .int .i64 0, .slice none 0 0], .bool false]) (by simp [results, Try.results16, go_sem, pz]) rfl ?_
          exact BAD.out HBD.out _ (hf02.set5 (.inr (Nat.le_refl _)) _ _ _ _ _)
        | some b =>
          rw [hw] at hr2
          have hr2 : Rd w2 1 A2 k2 (nums .u8 b) := hr2
          have hwok := read_write hw
          have hk2l : b.length = k2 := hr2.numlen
          have HW := Lib.hid hw
          have hk252 : k2 ≤ 252 := by have := hwok.2; omega
          clear hwok hk2l hw q1 qz qzf
          go_wp2_with fail
          refine (bytes_any A2 (some ⟨bB, oB, none⟩) k2 m c2 c b d _ hr2 (hr.nob hf02) (by omega) (by omega)).mono ?_
          rintro e w3 ⟨rfl, k3, rfl⟩
          by_cases hbd : b = d
          · have hsm : sameInts b d = true := decide_eq_true hbd
            have hrd : refReadS d = some ⟨d1, d2 - 128, mb, d4, greedS (d.drop 6)⟩ := by rw [HRD.out, HW.out, hbd, if_pos rfl]
            have HR := Lib.hid hrd
            rw [hsm]
            clear hbd hsm hrd
            go_wp2_with fail
            refine bodyPost_ret (v := .tuple #[Value.agg #[.int .i64 d1, .int .i64 (d2 - 128), .bool mb, .int .i64 d4, .slice Av k cv], .bool true]) (by simp [results, Try.results16, go_sem, pz]) rfl ?_
            rw [refReadPost, HR.out]
            have hs5 := (Fr.refl (fun i => i = w.heap.size) (w2.drewN k3)).set5 (g := w.heap.size) (.inl rfl) (.int .i64 d1) (.int .i64 (d2 - 128)) (.bool mb) (.int .i64 d4) (.slice Av k cv)
            have hpk2 := (HPK.out.nob (hf2.drewN k3))
            refine ⟨⟨d1, d2 - 128, mb, d4, Av, k, cv, L⟩, rfl, ⟨hpk2.1.frS hs5 (fun ad h => ?_) (fun x hx ad h => ?_), hpk2.2⟩, HPS.out, (hf02.drewN k3).newer hs5 (fun i hi => by omega)⟩
            · intro e
              obtain ⟨cs, hcs⟩ := own_block hown.1 w.heap.size (by dsimp only at h; rw [h]; exact congrArg some e)
              have h2 := hbz
              unfold Blk at h2
              rw [h2] at hcs
              cases hcs
            · intro e
              obtain ⟨cs, hcs⟩ := own_block (hown.2 x hx).1 w.heap.size (by rw [h]; exact congrArg some e)
              have h2 := hbz
              unfold Blk at h2
              rw [h2] at hcs
              cases hcs
          · have hsm : sameInts b d = false := decide_eq_false hbd
            have hrd : refReadS d = none := by rw [HRD.out, HW.out, if_neg (fun h => hbd (by injection h))]
            have HR := Lib.hid hrd
            rw [hsm]
            clear hbd hsm hrd
            go_wp2_with fail
            refine bodyPost_ret (v := .tuple #[Value.agg #[.int .i64 0, .int .i64 0, .bool false, .int .i64 0, .slice none 0 0], .bool false]) (by simp [results, Try.results16, go_sem, pz]) rfl ?_
            exact BAD.out HR.out _ ((hf02.drewN k3).set5 (.inr (Nat.le_refl _)) _ _ _ _ _)
end Go.Proofs.Ythdenkmmiadeiaa
