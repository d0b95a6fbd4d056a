/- Contract of the document's Write (bilgeref21). -/
import Derived.Test.YthdenkmmiadeiaaId11
namespace Go.Proofs.Ythdenkmmiadeiaa
set_option linter.unusedSimpArgs false
set_option linter.unusedVariables false
open Go.RowKit

/-- What the document's Write tells. -/
def refWritePost (p : Ps) (w : World) (e : Ending) (w' : World) : Prop :=
  ∃ A k c, e = .returned (.tuple #[.slice A k c, .bool (writeS p).isSome]) ∧ Rd w' 1 A k (nums .u8 ((writeS p).getD [])) ∧ k ≤ c ∧ c ≤ 9223372036854775807 ∧ (∀ ad, A = some ad → w.heap.size ≤ ad.block) ∧ Fr nob w w'

set_option maxHeartbeats 4000000 in
set_option maxRecDepth 100000 in
theorem ref21_write (p : Pt) (w : World) (hp : p.ok w) : Calls Try.prog 14 #[p.val] w (refWritePost p.s w) := by
  have hmay := fun V h => ref21_right p V (hp.nob (w' := V) h)
  obtain ⟨code, level, more, next, A, n, c, L⟩ := p
  obtain ⟨hO, hn, hc⟩ := hp
  dsimp only at hO hn hc
  have hl := hO.len
  have HLN := Lib.hid hl
  obtain ⟨ps, hps⟩ : ∃ ps, ps = (⟨code, level, more, next, A, n, c, L⟩ : Pt).s := ⟨_, rfl⟩
  rw [← hps] at hmay ⊢
  have HPS := Lib.hid hps
  clear hps hl
  have hb0 := Blk.new w 33 #[.int .i64 code, .int .i64 level, .bool more, .int .i64 next, .slice A n c]
  have hf0 := (Fr.refl nob w).alloc (.cells #[.int .i64 code, .int .i64 level, .bool more, .int .i64 next, .slice A n c] 33)
  rw [Pt.val, Pt.cells] at *
  dsimp only at *
  have HM := Lib.hid hmay
  clear hmay
  go_enter Try.func14, Try.ntmps14
  go_wp2_with fail
  refine (HM.out _ hf0).mono ?_
  rintro e w1 ⟨rfl, hf1⟩
  have hb1 := hb0.fr hf1 (fun h => h)
  have hfw1 := hf0.trans hf1 (fun _ _ h => h)
  have q1 := hb1.cell
  clear hb0 hf0 hf1
  cases hm : okS ps with
  | false =>
    have HM0 := Lib.hid hm
    clear hm
    go_wp2_with fail
    go_ret2
    have hw : writeS ps = none := by rw [writeS_ok, if_neg (by rw [HM0.out]; simp)]
    rw [refWritePost, hw]
    exact ⟨none, 0, 0, rfl, Rd.nil_ _ _ _, Nat.le_refl _, Nat.zero_le _, (fun ad h => by cases h), hfw1⟩
  | true =>
    have hw0 : writeS ps = some (headB ps ++ objsB ps.S) := by rw [writeS_ok, if_pos hm]
    have hle0 : ptMay ps = true ∧ 6 + (objsB ps.S).length ≤ 252 := by
      simp only [okS, Bool.and_eq_true, decide_eq_true_eq] at hm
      exact hm
    clear hm
    have HWR := Lib.hid hw0
    obtain ⟨hnx, hxs, hcd, hlv, hln⟩ := may_parts hle0.1
    rw [HPS.out] at hnx hxs hcd hlv hln
    dsimp only [Pt.s] at hnx hcd hlv
    have hln' : n ≤ 255 := by rw [← HLN.out]; simpa [Pt.s] using hln
    have HXS := Lib.hid hxs
    have HLE := Lib.hid hle0.2
    clear hxs hln hw0 hle0
    have w1a : IntKind.u8.wrap code = code := by simp [IntKind.wrap, IntKind.bits, IntKind.signed]; omega
    have w1b : code % 256 = code := by omega
    have w2a : (128 + level) % 256 = 128 + level := by omega
    have w3b : next % 256 = next := by omega
    have w4b : (n : Int) % 256 = (n : Int) := by omega
    have hz1 : w.heap.size < w1.heap.size := hb1.lt
    cases more
    · have hown0 := own_new w1 5 #[.int .u8 14, .int .u8 code, .int .u8 (128 + level), .int .u8 0, .int .u8 next, .int .u8 (n : Int)] 6 rfl (by omega)
      have hown : (w1.alloc (.cells #[.int .u8 14, .int .u8 code, .int .u8 (128 + level), .int .u8 0, .int .u8 next, .int .u8 (n : Int)] 5)).ownsRow w1.heap.size 5 1 (.slice (some ⟨w1.heap.size, 0, none⟩) 6 6) (6 + (objsB (ps.S.take 0)).length) (nums .u8 (headB ps ++ objsB (ps.S.take 0))) := by
        rw [HPS.out]
        simpa [headB, objsB, Pt.s, nums, HLN.out] using hown0
      have hfs := hfw1.alloc (.cells #[.int .u8 14, .int .u8 code, .int .u8 (128 + level), .int .u8 0, .int .u8 next, .int .u8 (n : Int)] 5)
      have hbs := hb1.alloc (.cells #[.int .u8 14, .int .u8 code, .int .u8 (128 + level), .int .u8 0, .int .u8 next, .int .u8 (n : Int)] 5)
      clear hown0 hfw1 hb1
      go_wp2_with fail
      go_loopw [5, 6] (fun v i wr => ∃ k : Nat, k ≤ n ∧ i = .int .i64 k ∧ Fr nob w wr ∧ Blk wr w.heap.size 33 #[.int .i64 code, .int .i64 level, .bool false, .int .i64 next, .slice A n c] ∧ wr.ownsRow w1.heap.size 5 1 v (6 + (objsB (ps.S.take k)).length) (nums .u8 (headB ps ++ objsB (ps.S.take k))) ∧ Hid (w1.heap.size ≤ wr.heap.size)) (fun _ i _ => n - (intOf i).toNat)
      case atStart => exact ⟨0, by omega, rfl, hfs, hbs, hown, Lib.hid (by simp)⟩
      case round =>
        clear hfs hbs hown q1
        obtain ⟨k, hk, rfl, hf, hblk, hown, hzr⟩ := hrel
        have q1 := hblk.cell
        by_cases hlt : k < n
        · obtain ⟨b, o, x, rfl, hb, hx, hc0, hc1, hok⟩ := hO.at_ hlt
          have hpx : ps.S[k]? = some x.s := by
            rw [HPS.out]
            simp [Pt.s, hx]
          have hxb := HXS.out x.s (by have := List.mem_of_getElem? hpx; rwa [HPS.out] at this)
          have hxl : x.d.length = x.n := hok.len
          have hsn := Lib.hid (objsB_snoc hpx)
          have hpt := objsB_part hpx
          have hokw := Lib.hid (hO.ok x (List.mem_of_getElem? hx))
          have hxbi : 0 ≤ x.id ∧ x.id ≤ 255 := hxb.1
          have hxbn : x.n ≤ 240 := by rw [← hxl]; exact hxb.2
          have hpt2 : (objsB (ps.S.take k)).length + x.n + 2 ≤ 246 := by
            have := HLE.out
            simp only [Ob.s, hxl] at hpt
            omega
          have HXL := Lib.hid hxl
          clear hx hpx hxb hxl hok hpt
          obtain ⟨m, hm⟩ : ∃ m, m = 6 + (objsB (ps.S.take k)).length := ⟨_, rfl⟩
          obtain ⟨bs, hbs⟩ : ∃ bs, bs = headB ps ++ objsB (ps.S.take k) := ⟨_, rfl⟩
          rw [← hm, ← hbs] at hown
          have hm252 : m + x.n + 2 ≤ 252 := by rw [hm]; omega
          have HMM := Lib.hid hm
          have HBS := Lib.hid hbs
          clear hm hbs hpt2
          obtain ⟨xi, xA, xn, xc, xd⟩ := x
          dsimp only at hc0 hc1 hxbi hxbn HXL hm252
          have hi0 : (0 : Int) ≤ (k : Int) ∧ (k : Int) < (n : Int) := ⟨by omega, by omega⟩
          have hw2 : IntKind.u8.wrap xi = xi := by simp [IntKind.wrap, IntKind.bits, IntKind.signed]; omega
          have hw3 : IntKind.u8.wrap (xn : Int) = (xn : Int) := by simp [IntKind.wrap, IntKind.bits, IntKind.signed]; omega
          have hw2' : xi % 256 = xi := by omega
          have hw3' : (xn : Int) % 256 = (xn : Int) := by omega
          have hS : ∀ V, Fr nob w V → Blk V w.heap.size 33 #[.int .i64 code, .int .i64 level, .bool false, .int .i64 next, .slice (some ⟨b, o, none⟩) n c] → V.cell? ⟨w.heap.size, 4, none⟩ = some (.slice (some ⟨b, o, none⟩) n c) ∧ V.cell? ⟨b, o + k * 2, none⟩ = some (.int .i64 xi) ∧ V.cell? ⟨b, o + k * 2 + 1, none⟩ = some (.slice xA xn xc) := fun V hV hB =>
            ⟨hB.cell 4, (hV.cell (p := ⟨b, _, none⟩) hb (fun h => h)).trans hc0, (hV.cell (p := ⟨b, _, none⟩) hb (fun h => h)).trans hc1⟩
          have HS := Lib.hid hS
          clear hS
          obtain ⟨Av, cv, rfl, hcv, _⟩ := own_form hown
          have hbz := hzr.out
          go_wp2_with fail
          refine wp_region_held_drew (S := fun w' => w'.cell? ⟨w.heap.size, 4, none⟩ = some (.slice (some ⟨b, o, none⟩) n c) ∧ w'.cell? ⟨b, o + k * 2, none⟩ = some (.int .i64 xi) ∧ w'.cell? ⟨b, o + k * 2 + 1, none⟩ = some (.slice xA xn xc)) (by kernel_rfl) (HS.out _ hf.drew hblk.drew) (fun hHeld => ?_)
          first
            | (refine mix_skip 0 rfl (by kernel_rfl) (by kernel_rfl) (by kernel_rfl) (by rfl) (by assumption) (fun _ _ _ h => h) ?_)
            | (refine mix_pure 0 (v := ?_) rfl (by kernel_rfl) (by kernel_rfl) (by kernel_rfl) (by rfl) (by assumption) (fun _ _ _ h => h) ?_ ?_; rotate_left; · (intro wS hSw; (try dsimp only at hSw); go_simp; try with_reducible rfl))
          simp only [Act.put, List.setIfInBounds_toArray, List.set_cons_zero, List.set_cons_succ]
          first
            | (refine mix_skip 1 rfl (by kernel_rfl) (by kernel_rfl) (by kernel_rfl) (by rfl) (by assumption) (fun _ _ _ h => h) ?_)
            | (refine mix_pure 1 (v := ?_) rfl (by kernel_rfl) (by kernel_rfl) (by kernel_rfl) (by rfl) (by assumption) (fun _ _ _ h => h) ?_ ?_; rotate_left; · (intro wS hSw; (try dsimp only at hSw); go_simp; try with_reducible rfl))
          simp only [Act.put, List.setIfInBounds_toArray, List.set_cons_zero, List.set_cons_succ]
          first
            | (refine mix_skip 2 rfl (by kernel_rfl) (by kernel_rfl) (by kernel_rfl) (by rfl) (by assumption) (fun _ _ _ h => h) ?_)
            | (refine mix_pure 2 (v := ?_) rfl (by kernel_rfl) (by kernel_rfl) (by kernel_rfl) (by rfl) (by assumption) (fun _ _ _ h => h) ?_ ?_; rotate_left; · (intro wS hSw; (try dsimp only at hSw); go_simp; try with_reducible rfl))
          simp only [Act.put, List.setIfInBounds_toArray, List.set_cons_zero, List.set_cons_succ]
          first
            | (refine mix_skip 3 rfl (by kernel_rfl) (by kernel_rfl) (by kernel_rfl) (by rfl) (by assumption) (fun _ _ _ h => h) ?_)
            | (refine mix_pure 3 (v := ?_) rfl (by kernel_rfl) (by kernel_rfl) (by kernel_rfl) (by rfl) (by assumption) (fun _ _ _ h => h) ?_ ?_; rotate_left; · (intro wS hSw; (try dsimp only at hSw); go_simp; try with_reducible rfl))
          simp only [Act.put, List.setIfInBounds_toArray, List.set_cons_zero, List.set_cons_succ]
          first
            | (refine mix_skip 4 rfl (by kernel_rfl) (by kernel_rfl) (by kernel_rfl) (by rfl) (by assumption) (fun _ _ _ h => h) ?_)
            | (refine mix_pure 4 (v := ?_) rfl (by kernel_rfl) (by kernel_rfl) (by kernel_rfl) (by rfl) (by assumption) (fun _ _ _ h => h) ?_ ?_; rotate_left; · (intro wS hSw; (try dsimp only at hSw); go_simp; try with_reducible rfl))
          simp only [Act.put, List.setIfInBounds_toArray, List.set_cons_zero, List.set_cons_succ]
          first
            | (refine mix_skip 5 rfl (by kernel_rfl) (by kernel_rfl) (by kernel_rfl) (by rfl) (by assumption) (fun _ _ _ h => h) ?_)
            | (refine mix_pure 5 (v := ?_) rfl (by kernel_rfl) (by kernel_rfl) (by kernel_rfl) (by rfl) (by assumption) (fun _ _ _ h => h) ?_ ?_; rotate_left; · (intro wS hSw; (try dsimp only at hSw); go_simp; try with_reducible rfl))
          simp only [Act.put, List.setIfInBounds_toArray, List.set_cons_zero, List.set_cons_succ]
          first
            | (refine mix_skip 6 rfl (by kernel_rfl) (by kernel_rfl) (by kernel_rfl) (by rfl) (by assumption) (fun _ _ _ h => h) ?_)
            | (refine mix_pure 6 (v := ?_) rfl (by kernel_rfl) (by kernel_rfl) (by kernel_rfl) (by rfl) (by assumption) (fun _ _ _ h => h) ?_ ?_; rotate_left; · (intro wS hSw; (try dsimp only at hSw); go_simp; try with_reducible rfl))
          simp only [Act.put, List.setIfInBounds_toArray, List.set_cons_zero, List.set_cons_succ]
          first
            | (refine mix_skip 7 rfl (by kernel_rfl) (by kernel_rfl) (by kernel_rfl) (by rfl) (by assumption) (fun _ _ _ h => h) ?_)
            | (refine mix_pure 7 (v := ?_) rfl (by kernel_rfl) (by kernel_rfl) (by kernel_rfl) (by rfl) (by assumption) (fun _ _ _ h => h) ?_ ?_; rotate_left; · (intro wS hSw; (try dsimp only at hSw); go_simp; try with_reducible rfl))
          simp only [Act.put, List.setIfInBounds_toArray, List.set_cons_zero, List.set_cons_succ]
          first
            | (refine mix_skip 8 rfl (by kernel_rfl) (by kernel_rfl) (by kernel_rfl) (by rfl) (by assumption) (fun _ _ _ h => h) ?_)
            | (refine mix_pure 8 (v := ?_) rfl (by kernel_rfl) (by kernel_rfl) (by kernel_rfl) (by rfl) (by assumption) (fun _ _ _ h => h) ?_ ?_; rotate_left; · (intro wS hSw; (try dsimp only at hSw); go_simp; try with_reducible rfl))
          simp only [Act.put, List.setIfInBounds_toArray, List.set_cons_zero, List.set_cons_succ]
          first
            | (refine mix_skip 9 rfl (by kernel_rfl) (by kernel_rfl) (by kernel_rfl) (by rfl) (by assumption) (fun _ _ _ h => h) ?_)
            | (refine mix_pure 9 (v := ?_) rfl (by kernel_rfl) (by kernel_rfl) (by kernel_rfl) (by rfl) (by assumption) (fun _ _ _ h => h) ?_ ?_; rotate_left; · (intro wS hSw; (try dsimp only at hSw); go_simp; try with_reducible rfl))
          simp only [Act.put, List.setIfInBounds_toArray, List.set_cons_zero, List.set_cons_succ]
          first
            | (refine mix_skip 10 rfl (by kernel_rfl) (by kernel_rfl) (by kernel_rfl) (by rfl) (by assumption) (fun _ _ _ h => h) ?_)
            | (refine mix_pure 10 (v := ?_) rfl (by kernel_rfl) (by kernel_rfl) (by kernel_rfl) (by rfl) (by assumption) (fun _ _ _ h => h) ?_ ?_; rotate_left; · (intro wS hSw; (try dsimp only at hSw); go_simp; try with_reducible rfl))
          simp only [Act.put, List.setIfInBounds_toArray, List.set_cons_zero, List.set_cons_succ]
          first
            | (refine mix_skip 11 rfl (by kernel_rfl) (by kernel_rfl) (by kernel_rfl) (by rfl) (by assumption) (fun _ _ _ h => h) ?_)
            | (refine mix_pure 11 (v := ?_) rfl (by kernel_rfl) (by kernel_rfl) (by kernel_rfl) (by rfl) (by assumption) (fun _ _ _ h => h) ?_ ?_; rotate_left; · (intro wS hSw; (try dsimp only at hSw); go_simp; try with_reducible rfl))
          simp only [Act.put, List.setIfInBounds_toArray, List.set_cons_zero, List.set_cons_succ]
          first
            | (refine mix_skip 12 rfl (by kernel_rfl) (by kernel_rfl) (by kernel_rfl) (by rfl) (by assumption) (fun _ _ _ h => h) ?_)
            | (refine mix_pure 12 (v := ?_) rfl (by kernel_rfl) (by kernel_rfl) (by kernel_rfl) (by rfl) (by assumption) (fun _ _ _ h => h) ?_ ?_; rotate_left; · (intro wS hSw; (try dsimp only at hSw); go_simp; try with_reducible rfl))
          simp only [Act.put, List.setIfInBounds_toArray, List.set_cons_zero, List.set_cons_succ]
          first
            | (refine mix_skip 13 rfl (by kernel_rfl) (by kernel_rfl) (by kernel_rfl) (by rfl) (by assumption) (fun _ _ _ h => h) ?_)
            | (refine mix_pure 13 (v := ?_) rfl (by kernel_rfl) (by kernel_rfl) (by kernel_rfl) (by rfl) (by assumption) (fun _ _ _ h => h) ?_ ?_; rotate_left; · (intro wS hSw; (try dsimp only at hSw); go_simp; try with_reducible rfl))
          simp only [Act.put, List.setIfInBounds_toArray, List.set_cons_zero, List.set_cons_succ]
          first
            | (refine mix_skip 14 rfl (by kernel_rfl) (by kernel_rfl) (by kernel_rfl) (by rfl) (by assumption) (fun _ _ _ h => h) ?_)
            | (refine mix_pure 14 (v := ?_) rfl (by kernel_rfl) (by kernel_rfl) (by kernel_rfl) (by rfl) (by assumption) (fun _ _ _ h => h) ?_ ?_; rotate_left; · (intro wS hSw; (try dsimp only at hSw); go_simp; try with_reducible rfl))
          simp only [Act.put, List.setIfInBounds_toArray, List.set_cons_zero, List.set_cons_succ]
          first
            | (refine mix_skip 15 rfl (by kernel_rfl) (by kernel_rfl) (by kernel_rfl) (by rfl) (by assumption) (fun _ _ _ h => h) ?_)
            | (refine mix_pure 15 (v := ?_) rfl (by kernel_rfl) (by kernel_rfl) (by kernel_rfl) (by rfl) (by assumption) (fun _ _ _ h => h) ?_ ?_; rotate_left; · (intro wS hSw; (try dsimp only at hSw); go_simp; try with_reducible rfl))
          simp only [Act.put, List.setIfInBounds_toArray, List.set_cons_zero, List.set_cons_succ]
          refine mix_one 16 rfl (by kernel_rfl) (fun K hK => ?_)
          go_simp
          refine hK.out _ _ (HS.out _ ((hf.alloc (.cells #[.int .u8 xi, .int .u8 xn] 5)).drew) ((hblk.alloc (.cells #[.int .u8 xi, .int .u8 xn] 5)).drew)) (fun hHeld1 => ?_)
          clear hK K
          try simp only [Act.put, List.setIfInBounds_toArray, List.set_cons_zero, List.set_cons_succ]
          refine mix_one 17 rfl (by kernel_rfl) (fun K hK => ?_)
          rw [if_pos (by rfl)]
          have ho3 : ((wr.alloc (.cells #[.int .u8 xi, .int .u8 xn] 5)).drew).ownsRow w1.heap.size 5 1 (.slice Av m cv) m (nums .u8 bs) := hown.alloc _
          have hr3 : Rd ((wr.alloc (.cells #[.int .u8 xi, .int .u8 xn] 5)).drew) 1 (some ⟨wr.heap.size, 0, none⟩) 2 (nums .u8 [xi, (xn : Int)]) := rd2 wr xi xn
          refine app_row_op (P := Try.prog) (W := (wr.alloc (.cells #[.int .u8 xi, .int .u8 xn] 5)).drew) w1.heap.size _ _ _ 5 (Value.int .u8 0) 1 1 rfl Try.underlying25 (by kernel_rfl) rfl (by omega) (.slice Av m cv) m (nums .u8 bs) (some ⟨wr.heap.size, 0, none⟩) 2 2 (nums .u8 [xi, (xn : Int)]) rfl rfl (nums_one _ _) ho3 hr3 (by simp; omega) (by omega) (by omega) ?_
          intro v4 w4 ho4 hg4 _
          have hb4 := ((hblk.alloc (.cells #[.int .u8 xi, .int .u8 xn] 5)).drew).grown hg4 (fun e => by
            obtain ⟨cs, hcs⟩ := own_block hown _ e.symm
            have h2 := hblk
            unfold Blk at h2
            rw [h2] at hcs
            cases hcs)
          have hf4 : Fr nob w w4 := ((hf.alloc (.cells #[.int .u8 xi, .int .u8 xn] 5)).drew).grown hg4 (fun k hk => .inr (by have := own_at ho3 k hk; omega))
          obtain ⟨A4, c4, rfl, hc4, _⟩ := own_form ho4
          refine hK.out _ _ (HS.out _ hf4 hb4) (fun hHeld2 => ?_)
          clear hK K
          try simp only [Act.put, List.setIfInBounds_toArray, List.set_cons_zero, List.set_cons_succ]
          first
            | (refine mix_skip 18 rfl (by kernel_rfl) (by kernel_rfl) (by kernel_rfl) (by rfl) (by assumption) (fun _ _ _ h => h) ?_)
            | (refine mix_pure 18 (v := ?_) rfl (by kernel_rfl) (by kernel_rfl) (by kernel_rfl) (by rfl) (by assumption) (fun _ _ _ h => h) ?_ ?_; rotate_left; · (intro wS hSw; (try dsimp only at hSw); go_simp; try with_reducible rfl))
          simp only [Act.put, List.setIfInBounds_toArray, List.set_cons_zero, List.set_cons_succ]
          refine wpAnyH_done (by kernel_rfl) ?_ _
          clear hHeld hHeld1 hHeld2
          obtain ⟨hs0, hs1, hs2⟩ := HS.out _ hf4 hb4
          have q4 := hb4.cell
          have hrx := (hokw.out.nob hf4).1
          have hz4 : w1.heap.size ≤ w4.heap.size := by have := hg4.size; simp at this; omega
          dsimp only at hrx
          go_wp2_with (at_builtin; (refine app_row (P := Try.prog) (W := w4) w1.heap.size rfl _ _ _ 5 (Value.int .u8 0) 1 1 rfl Try.underlying25 (by kernel_rfl) rfl (by omega) (.slice A4 (m + 2) c4) (m + 2) (nums .u8 bs ++ nums .u8 [xi, (xn : Int)]) xA xn xc (nums .u8 xd) rfl rfl (nums_one _ _) ho4 hrx hz4 (by omega) (by omega) ?_); intro v5 w5 hown5 hg5 hat5; go_must ((have hb5 := hb4.grown hg5 (fun e => (by obtain ⟨cs, hcs⟩ := own_block ho4 _ e.symm; have h2 := hb4; unfold Blk at h2; rw [h2] at hcs; cases hcs))); (have hf5 : Fr nob w w5 := hf4.grown hg5 (fun k hk => .inr (by have := own_at ho4 k hk; omega))); (have hz5 : w1.heap.size ≤ w5.heap.size := Nat.le_trans hz4 hg5.size)))
          go_roundw
          case rel =>
            refine ⟨k + 1, by omega, by go_num, hf5, hb5, ?_, Lib.hid hz5⟩
            rw [hsn.out, ← List.append_assoc, ← HBS.out, List.length_append, obB_len]
            have e2 : 6 + ((objsB (ps.S.take k)).length + ((Ob.s ⟨xi, xA, xn, xc, xd⟩).2.length + 2)) = m + 2 + xn := by rw [HMM.out, ← HXL.out]; simp [Ob.s]; omega
            have e3 : nums .u8 (bs ++ obB (Ob.s ⟨xi, xA, xn, xc, xd⟩)) = nums .u8 bs ++ nums .u8 [xi, (xn : Int)] ++ nums .u8 xd := by simp [nums, obB, Ob.s, HXL.out]
            rw [e2, e3]
            exact hown5
          case measure => simp [intOf]; omega
        · obtain rfl : k = n := by omega
          have htk : ps.S.take k = ps.S := List.take_of_length_le (by rw [HPS.out]; simp [Pt.s, HLN.out])
          rw [htk] at hown
          obtain ⟨As, cs, rfl, hcs, _⟩ := own_form hown
          have hcap := own_cap hown
          have hge := own_ge hown
          have hrd := Rd.of_own hown
          obtain ⟨m, hm⟩ : ∃ m, m = 6 + (objsB ps.S).length := ⟨_, rfl⟩
          rw [← hm] at hrd hcs
          have HMM := Lib.hid hm
          rw [← hm]
          clear hm hown
          go_wp2_with fail
          go_ret2
          rw [refWritePost, HWR.out]
          exact ⟨As, m, cs, rfl, hrd, hcs, hcap, fun ad h => Nat.le_trans (Nat.le_of_lt hz1) (hge ad h), hf⟩
    · have hown0 := own_new w1 5 #[.int .u8 14, .int .u8 code, .int .u8 (128 + level), .int .u8 255, .int .u8 next, .int .u8 (n : Int)] 6 rfl (by omega)
      have hown : (w1.alloc (.cells #[.int .u8 14, .int .u8 code, .int .u8 (128 + level), .int .u8 255, .int .u8 next, .int .u8 (n : Int)] 5)).ownsRow w1.heap.size 5 1 (.slice (some ⟨w1.heap.size, 0, none⟩) 6 6) (6 + (objsB (ps.S.take 0)).length) (nums .u8 (headB ps ++ objsB (ps.S.take 0))) := by
        rw [HPS.out]
        simpa [headB, objsB, Pt.s, nums, HLN.out] using hown0
      have hfs := hfw1.alloc (.cells #[.int .u8 14, .int .u8 code, .int .u8 (128 + level), .int .u8 255, .int .u8 next, .int .u8 (n : Int)] 5)
      have hbs := hb1.alloc (.cells #[.int .u8 14, .int .u8 code, .int .u8 (128 + level), .int .u8 255, .int .u8 next, .int .u8 (n : Int)] 5)
      clear hown0 hfw1 hb1
      go_wp2_with fail
      go_loopw [5, 6] (fun v i wr => ∃ k : Nat, k ≤ n ∧ i = .int .i64 k ∧ Fr nob w wr ∧ Blk wr w.heap.size 33 #[.int .i64 code, .int .i64 level, .bool true, .int .i64 next, .slice A n c] ∧ wr.ownsRow w1.heap.size 5 1 v (6 + (objsB (ps.S.take k)).length) (nums .u8 (headB ps ++ objsB (ps.S.take k))) ∧ Hid (w1.heap.size ≤ wr.heap.size)) (fun _ i _ => n - (intOf i).toNat)
      case atStart => exact ⟨0, by omega, rfl, hfs, hbs, hown, Lib.hid (by simp)⟩
      case round =>
        clear hfs hbs hown q1
        obtain ⟨k, hk, rfl, hf, hblk, hown, hzr⟩ := hrel
        have q1 := hblk.cell
        by_cases hlt : k < n
        · obtain ⟨b, o, x, rfl, hb, hx, hc0, hc1, hok⟩ := hO.at_ hlt
          have hpx : ps.S[k]? = some x.s := by
            rw [HPS.out]
            simp [Pt.s, hx]
          have hxb := HXS.out x.s (by have := List.mem_of_getElem? hpx; rwa [HPS.out] at this)
          have hxl : x.d.length = x.n := hok.len
          have hsn := Lib.hid (objsB_snoc hpx)
          have hpt := objsB_part hpx
          have hokw := Lib.hid (hO.ok x (List.mem_of_getElem? hx))
          have hxbi : 0 ≤ x.id ∧ x.id ≤ 255 := hxb.1
          have hxbn : x.n ≤ 240 := by rw [← hxl]; exact hxb.2
          have hpt2 : (objsB (ps.S.take k)).length + x.n + 2 ≤ 246 := by
            have := HLE.out
            simp only [Ob.s, hxl] at hpt
            omega
          have HXL := Lib.hid hxl
          clear hx hpx hxb hxl hok hpt
          obtain ⟨m, hm⟩ : ∃ m, m = 6 + (objsB (ps.S.take k)).length := ⟨_, rfl⟩
          obtain ⟨bs, hbs⟩ : ∃ bs, bs = headB ps ++ objsB (ps.S.take k) := ⟨_, rfl⟩
          rw [← hm, ← hbs] at hown
          have hm252 : m + x.n + 2 ≤ 252 := by rw [hm]; omega
          have HMM := Lib.hid hm
          have HBS := Lib.hid hbs
          clear hm hbs hpt2
          obtain ⟨xi, xA, xn, xc, xd⟩ := x
          dsimp only at hc0 hc1 hxbi hxbn HXL hm252
          have hi0 : (0 : Int) ≤ (k : Int) ∧ (k : Int) < (n : Int) := ⟨by omega, by omega⟩
          have hw2 : IntKind.u8.wrap xi = xi := by simp [IntKind.wrap, IntKind.bits, IntKind.signed]; omega
          have hw3 : IntKind.u8.wrap (xn : Int) = (xn : Int) := by simp [IntKind.wrap, IntKind.bits, IntKind.signed]; omega
          have hw2' : xi % 256 = xi := by omega
          have hw3' : (xn : Int) % 256 = (xn : Int) := by omega
          have hS : ∀ V, Fr nob w V → Blk V w.heap.size 33 #[.int .i64 code, .int .i64 level, .bool true, .int .i64 next, .slice (some ⟨b, o, none⟩) n c] → V.cell? ⟨w.heap.size, 4, none⟩ = some (.slice (some ⟨b, o, none⟩) n c) ∧ V.cell? ⟨b, o + k * 2, none⟩ = some (.int .i64 xi) ∧ V.cell? ⟨b, o + k * 2 + 1, none⟩ = some (.slice xA xn xc) := fun V hV hB =>
            ⟨hB.cell 4, (hV.cell (p := ⟨b, _, none⟩) hb (fun h => h)).trans hc0, (hV.cell (p := ⟨b, _, none⟩) hb (fun h => h)).trans hc1⟩
          have HS := Lib.hid hS
          clear hS
          obtain ⟨Av, cv, rfl, hcv, _⟩ := own_form hown
          have hbz := hzr.out
          go_wp2_with fail
          refine wp_region_held_drew (S := fun w' => w'.cell? ⟨w.heap.size, 4, none⟩ = some (.slice (some ⟨b, o, none⟩) n c) ∧ w'.cell? ⟨b, o + k * 2, none⟩ = some (.int .i64 xi) ∧ w'.cell? ⟨b, o + k * 2 + 1, none⟩ = some (.slice xA xn xc)) (by kernel_rfl) (HS.out _ hf.drew hblk.drew) (fun hHeld => ?_)
          first
            | (refine mix_skip 0 rfl (by kernel_rfl) (by kernel_rfl) (by kernel_rfl) (by rfl) (by assumption) (fun _ _ _ h => h) ?_)
            | (refine mix_pure 0 (v := ?_) rfl (by kernel_rfl) (by kernel_rfl) (by kernel_rfl) (by rfl) (by assumption) (fun _ _ _ h => h) ?_ ?_; rotate_left; · (intro wS hSw; (try dsimp only at hSw); go_simp; try with_reducible rfl))
          simp only [Act.put, List.setIfInBounds_toArray, List.set_cons_zero, List.set_cons_succ]
          first
            | (refine mix_skip 1 rfl (by kernel_rfl) (by kernel_rfl) (by kernel_rfl) (by rfl) (by assumption) (fun _ _ _ h => h) ?_)
            | (refine mix_pure 1 (v := ?_) rfl (by kernel_rfl) (by kernel_rfl) (by kernel_rfl) (by rfl) (by assumption) (fun _ _ _ h => h) ?_ ?_; rotate_left; · (intro wS hSw; (try dsimp only at hSw); go_simp; try with_reducible rfl))
          simp only [Act.put, List.setIfInBounds_toArray, List.set_cons_zero, List.set_cons_succ]
          first
            | (refine mix_skip 2 rfl (by kernel_rfl) (by kernel_rfl) (by kernel_rfl) (by rfl) (by assumption) (fun _ _ _ h => h) ?_)
            | (refine mix_pure 2 (v := ?_) rfl (by kernel_rfl) (by kernel_rfl) (by kernel_rfl) (by rfl) (by assumption) (fun _ _ _ h => h) ?_ ?_; rotate_left; · (intro wS hSw; (try dsimp only at hSw); go_simp; try with_reducible rfl))
          simp only [Act.put, List.setIfInBounds_toArray, List.set_cons_zero, List.set_cons_succ]
          first
            | (refine mix_skip 3 rfl (by kernel_rfl) (by kernel_rfl) (by kernel_rfl) (by rfl) (by assumption) (fun _ _ _ h => h) ?_)
            | (refine mix_pure 3 (v := ?_) rfl (by kernel_rfl) (by kernel_rfl) (by kernel_rfl) (by rfl) (by assumption) (fun _ _ _ h => h) ?_ ?_; rotate_left; · (intro wS hSw; (try dsimp only at hSw); go_simp; try with_reducible rfl))
          simp only [Act.put, List.setIfInBounds_toArray, List.set_cons_zero, List.set_cons_succ]
          first
            | (refine mix_skip 4 rfl (by kernel_rfl) (by kernel_rfl) (by kernel_rfl) (by rfl) (by assumption) (fun _ _ _ h => h) ?_)
            | (refine mix_pure 4 (v := ?_) rfl (by kernel_rfl) (by kernel_rfl) (by kernel_rfl) (by rfl) (by assumption) (fun _ _ _ h => h) ?_ ?_; rotate_left; · (intro wS hSw; (try dsimp only at hSw); go_simp; try with_reducible rfl))
          simp only [Act.put, List.setIfInBounds_toArray, List.set_cons_zero, List.set_cons_succ]
          first
            | (refine mix_skip 5 rfl (by kernel_rfl) (by kernel_rfl) (by kernel_rfl) (by rfl) (by assumption) (fun _ _ _ h => h) ?_)
            | (refine mix_pure 5 (v := ?_) rfl (by kernel_rfl) (by kernel_rfl) (by kernel_rfl) (by rfl) (by assumption) (fun _ _ _ h => h) ?_ ?_; rotate_left; · (intro wS hSw; (try dsimp only at hSw); go_simp; try with_reducible rfl))
          simp only [Act.put, List.setIfInBounds_toArray, List.set_cons_zero, List.set_cons_succ]
          first
            | (refine mix_skip 6 rfl (by kernel_rfl) (by kernel_rfl) (by kernel_rfl) (by rfl) (by assumption) (fun _ _ _ h => h) ?_)
            | (refine mix_pure 6 (v := ?_) rfl (by kernel_rfl) (by kernel_rfl) (by kernel_rfl) (by rfl) (by assumption) (fun _ _ _ h => h) ?_ ?_; rotate_left; · (intro wS hSw; (try dsimp only at hSw); go_simp; try with_reducible rfl))
          simp only [Act.put, List.setIfInBounds_toArray, List.set_cons_zero, List.set_cons_succ]
          first
            | (refine mix_skip 7 rfl (by kernel_rfl) (by kernel_rfl) (by kernel_rfl) (by rfl) (by assumption) (fun _ _ _ h => h) ?_)
            | (refine mix_pure 7 (v := ?_) rfl (by kernel_rfl) (by kernel_rfl) (by kernel_rfl) (by rfl) (by assumption) (fun _ _ _ h => h) ?_ ?_; rotate_left; · (intro wS hSw; (try dsimp only at hSw); go_simp; try with_reducible rfl))
          simp only [Act.put, List.setIfInBounds_toArray, List.set_cons_zero, List.set_cons_succ]
          first
            | (refine mix_skip 8 rfl (by kernel_rfl) (by kernel_rfl) (by kernel_rfl) (by rfl) (by assumption) (fun _ _ _ h => h) ?_)
            | (refine mix_pure 8 (v := ?_) rfl (by kernel_rfl) (by kernel_rfl) (by kernel_rfl) (by rfl) (by assumption) (fun _ _ _ h => h) ?_ ?_; rotate_left; · (intro wS hSw; (try dsimp only at hSw); go_simp; try with_reducible rfl))
          simp only [Act.put, List.setIfInBounds_toArray, List.set_cons_zero, List.set_cons_succ]
          first
            | (refine mix_skip 9 rfl (by kernel_rfl) (by kernel_rfl) (by kernel_rfl) (by rfl) (by assumption) (fun _ _ _ h => h) ?_)
            | (refine mix_pure 9 (v := ?_) rfl (by kernel_rfl) (by kernel_rfl) (by kernel_rfl) (by rfl) (by assumption) (fun _ _ _ h => h) ?_ ?_; rotate_left; · (intro wS hSw; (try dsimp only at hSw); go_simp; try with_reducible rfl))
          simp only [Act.put, List.setIfInBounds_toArray, List.set_cons_zero, List.set_cons_succ]
          first
            | (refine mix_skip 10 rfl (by kernel_rfl) (by kernel_rfl) (by kernel_rfl) (by rfl) (by assumption) (fun _ _ _ h => h) ?_)
            | (refine mix_pure 10 (v := ?_) rfl (by kernel_rfl) (by kernel_rfl) (by kernel_rfl) (by rfl) (by assumption) (fun _ _ _ h => h) ?_ ?_; rotate_left; · (intro wS hSw; (try dsimp only at hSw); go_simp; try with_reducible rfl))
          simp only [Act.put, List.setIfInBounds_toArray, List.set_cons_zero, List.set_cons_succ]
          first
            | (refine mix_skip 11 rfl (by kernel_rfl) (by kernel_rfl) (by kernel_rfl) (by rfl) (by assumption) (fun _ _ _ h => h) ?_)
            | (refine mix_pure 11 (v := ?_) rfl (by kernel_rfl) (by kernel_rfl) (by kernel_rfl) (by rfl) (by assumption) (fun _ _ _ h => h) ?_ ?_; rotate_left; · (intro wS hSw; (try dsimp only at hSw); go_simp; try with_reducible rfl))
          simp only [Act.put, List.setIfInBounds_toArray, List.set_cons_zero, List.set_cons_succ]
          first
            | (refine mix_skip 12 rfl (by kernel_rfl) (by kernel_rfl) (by kernel_rfl) (by rfl) (by assumption) (fun _ _ _ h => h) ?_)
            | (refine mix_pure 12 (v := ?_) rfl (by kernel_rfl) (by kernel_rfl) (by kernel_rfl) (by rfl) (by assumption) (fun _ _ _ h => h) ?_ ?_; rotate_left; · (intro wS hSw; (try dsimp only at hSw); go_simp; try with_reducible rfl))
          simp only [Act.put, List.setIfInBounds_toArray, List.set_cons_zero, List.set_cons_succ]
          first
            | (refine mix_skip 13 rfl (by kernel_rfl) (by kernel_rfl) (by kernel_rfl) (by rfl) (by assumption) (fun _ _ _ h => h) ?_)
            | (refine mix_pure 13 (v := ?_) rfl (by kernel_rfl) (by kernel_rfl) (by kernel_rfl) (by rfl) (by assumption) (fun _ _ _ h => h) ?_ ?_; rotate_left; · (intro wS hSw; (try dsimp only at hSw); go_simp; try with_reducible rfl))
          simp only [Act.put, List.setIfInBounds_toArray, List.set_cons_zero, List.set_cons_succ]
          first
            | (refine mix_skip 14 rfl (by kernel_rfl) (by kernel_rfl) (by kernel_rfl) (by rfl) (by assumption) (fun _ _ _ h => h) ?_)
            | (refine mix_pure 14 (v := ?_) rfl (by kernel_rfl) (by kernel_rfl) (by kernel_rfl) (by rfl) (by assumption) (fun _ _ _ h => h) ?_ ?_; rotate_left; · (intro wS hSw; (try dsimp only at hSw); go_simp; try with_reducible rfl))
          simp only [Act.put, List.setIfInBounds_toArray, List.set_cons_zero, List.set_cons_succ]
          first
            | (refine mix_skip 15 rfl (by kernel_rfl) (by kernel_rfl) (by kernel_rfl) (by rfl) (by assumption) (fun _ _ _ h => h) ?_)
            | (refine mix_pure 15 (v := ?_) rfl (by kernel_rfl) (by kernel_rfl) (by kernel_rfl) (by rfl) (by assumption) (fun _ _ _ h => h) ?_ ?_; rotate_left; · (intro wS hSw; (try dsimp only at hSw); go_simp; try with_reducible rfl))
          simp only [Act.put, List.setIfInBounds_toArray, List.set_cons_zero, List.set_cons_succ]
          refine mix_one 16 rfl (by kernel_rfl) (fun K hK => ?_)
          go_simp
          refine hK.out _ _ (HS.out _ ((hf.alloc (.cells #[.int .u8 xi, .int .u8 xn] 5)).drew) ((hblk.alloc (.cells #[.int .u8 xi, .int .u8 xn] 5)).drew)) (fun hHeld1 => ?_)
          clear hK K
          try simp only [Act.put, List.setIfInBounds_toArray, List.set_cons_zero, List.set_cons_succ]
          refine mix_one 17 rfl (by kernel_rfl) (fun K hK => ?_)
          rw [if_pos (by rfl)]
          have ho3 : ((wr.alloc (.cells #[.int .u8 xi, .int .u8 xn] 5)).drew).ownsRow w1.heap.size 5 1 (.slice Av m cv) m (nums .u8 bs) := hown.alloc _
          have hr3 : Rd ((wr.alloc (.cells #[.int .u8 xi, .int .u8 xn] 5)).drew) 1 (some ⟨wr.heap.size, 0, none⟩) 2 (nums .u8 [xi, (xn : Int)]) := rd2 wr xi xn
          refine app_row_op (P := Try.prog) (W := (wr.alloc (.cells #[.int .u8 xi, .int .u8 xn] 5)).drew) w1.heap.size _ _ _ 5 (Value.int .u8 0) 1 1 rfl Try.underlying25 (by kernel_rfl) rfl (by omega) (.slice Av m cv) m (nums .u8 bs) (some ⟨wr.heap.size, 0, none⟩) 2 2 (nums .u8 [xi, (xn : Int)]) rfl rfl (nums_one _ _) ho3 hr3 (by simp; omega) (by omega) (by omega) ?_
          intro v4 w4 ho4 hg4 _
          have hb4 := ((hblk.alloc (.cells #[.int .u8 xi, .int .u8 xn] 5)).drew).grown hg4 (fun e => by
            obtain ⟨cs, hcs⟩ := own_block hown _ e.symm
            have h2 := hblk
            unfold Blk at h2
            rw [h2] at hcs
            cases hcs)
          have hf4 : Fr nob w w4 := ((hf.alloc (.cells #[.int .u8 xi, .int .u8 xn] 5)).drew).grown hg4 (fun k hk => .inr (by have := own_at ho3 k hk; omega))
          obtain ⟨A4, c4, rfl, hc4, _⟩ := own_form ho4
          refine hK.out _ _ (HS.out _ hf4 hb4) (fun hHeld2 => ?_)
          clear hK K
          try simp only [Act.put, List.setIfInBounds_toArray, List.set_cons_zero, List.set_cons_succ]
          first
            | (refine mix_skip 18 rfl (by kernel_rfl) (by kernel_rfl) (by kernel_rfl) (by rfl) (by assumption) (fun _ _ _ h => h) ?_)
            | (refine mix_pure 18 (v := ?_) rfl (by kernel_rfl) (by kernel_rfl) (by kernel_rfl) (by rfl) (by assumption) (fun _ _ _ h => h) ?_ ?_; rotate_left; · (intro wS hSw; (try dsimp only at hSw); go_simp; try with_reducible rfl))
          simp only [Act.put, List.setIfInBounds_toArray, List.set_cons_zero, List.set_cons_succ]
          refine wpAnyH_done (by kernel_rfl) ?_ _
          clear hHeld hHeld1 hHeld2
          obtain ⟨hs0, hs1, hs2⟩ := HS.out _ hf4 hb4
          have q4 := hb4.cell
          have hrx := (hokw.out.nob hf4).1
          have hz4 : w1.heap.size ≤ w4.heap.size := by have := hg4.size; simp at this; omega
          dsimp only at hrx
          go_wp2_with (at_builtin; (refine app_row (P := Try.prog) (W := w4) w1.heap.size rfl _ _ _ 5 (Value.int .u8 0) 1 1 rfl Try.underlying25 (by kernel_rfl) rfl (by omega) (.slice A4 (m + 2) c4) (m + 2) (nums .u8 bs ++ nums .u8 [xi, (xn : Int)]) xA xn xc (nums .u8 xd) rfl rfl (nums_one _ _) ho4 hrx hz4 (by omega) (by omega) ?_); intro v5 w5 hown5 hg5 hat5; go_must ((have hb5 := hb4.grown hg5 (fun e => (by obtain ⟨cs, hcs⟩ := own_block ho4 _ e.symm; have h2 := hb4; unfold Blk at h2; rw [h2] at hcs; cases hcs))); (have hf5 : Fr nob w w5 := hf4.grown hg5 (fun k hk => .inr (by have := own_at ho4 k hk; omega))); (have hz5 : w1.heap.size ≤ w5.heap.size := Nat.le_trans hz4 hg5.size)))
          go_roundw
          case rel =>
            refine ⟨k + 1, by omega, by go_num, hf5, hb5, ?_, Lib.hid hz5⟩
            rw [hsn.out, ← List.append_assoc, ← HBS.out, List.length_append, obB_len]
            have e2 : 6 + ((objsB (ps.S.take k)).length + ((Ob.s ⟨xi, xA, xn, xc, xd⟩).2.length + 2)) = m + 2 + xn := by rw [HMM.out, ← HXL.out]; simp [Ob.s]; omega
            have e3 : nums .u8 (bs ++ obB (Ob.s ⟨xi, xA, xn, xc, xd⟩)) = nums .u8 bs ++ nums .u8 [xi, (xn : Int)] ++ nums .u8 xd := by simp [nums, obB, Ob.s, HXL.out]
            rw [e2, e3]
            exact hown5
          case measure => simp [intOf]; omega
        · obtain rfl : k = n := by omega
          have htk : ps.S.take k = ps.S := List.take_of_length_le (by rw [HPS.out]; simp [Pt.s, HLN.out])
          rw [htk] at hown
          obtain ⟨As, cs, rfl, hcs, _⟩ := own_form hown
          have hcap := own_cap hown
          have hge := own_ge hown
          have hrd := Rd.of_own hown
          obtain ⟨m, hm⟩ : ∃ m, m = 6 + (objsB ps.S).length := ⟨_, rfl⟩
          rw [← hm] at hrd hcs
          have HMM := Lib.hid hm
          rw [← hm]
          clear hm hown
          go_wp2_with fail
          go_ret2
          rw [refWritePost, HWR.out]
          exact ⟨As, m, cs, rfl, hrd, hcs, hcap, fun ad h => Nat.le_trans (Nat.le_of_lt hz1) (hge ad h), hf⟩
end Go.Proofs.Ythdenkmmiadeiaa
