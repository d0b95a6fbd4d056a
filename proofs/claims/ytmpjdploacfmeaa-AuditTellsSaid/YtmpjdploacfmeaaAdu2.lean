/- Contracts of adu.joined (of one part) and adu.Open. -/
import Derived.Test.YtmpjdploacfmeaaAdu
namespace Go.Proofs.Ytmpjdploacfmeaa
set_option linter.unusedSimpArgs false
set_option linter.unusedVariables false
open Go.RowKit

theorem u8_info : (Try.prog.info? 5).map (fun i => (i.zero, i.size, i.bytes)) = some (some (.int .u8 0), 1, 1) := by kernel_rfl
set_option maxHeartbeats 2000000 in
set_option maxRecDepth 100000 in
theorem joined_one (p : Nat) (A : Option Addr) (m c : Nat) (d : List Int) (w : World) (hp : p < w.heap.size) (hpc : w.cell? ⟨p, 0, none⟩ = some (.slice A m c)) (h : Rd w 1 A m (nums .u8 d)) (hm : 0 < m ∧ m ≤ 300) :
    Calls Try.prog 77 #[.slice (some ⟨p, 0, none⟩) 1 1] w fun e w' => ∃ x, e = .returned x ∧ Fr nob w w' := by
  have HR := Lib.hid h
  have HD := Lib.hid h.numlen
  clear h
  go_enter Try.func77, Try.ntmps77
  go_wp2_with fail
  go_loop [3, 12] (fun nv iv => (iv = .int .i64 0 ∧ nv = .int .i64 0) ∨ (iv = .int .i64 1 ∧ nv = .int .i64 m)) (fun _ iv => 1 - (intOf iv).toNat)
  case atStart => exact .inl ⟨rfl, rfl⟩
  case round =>
    rcases hrel with ⟨rfl, rfl⟩ | ⟨rfl, rfl⟩
    · go_wp2_with fail
      go_round
      case rel => exact .inr ⟨rfl, by first | rfl | go_num | simp⟩
      case measure => simp [intOf]
    · obtain ⟨ib, hib, hb0, hb1, hb2⟩ := info_parts u8_info
      have hbz : w.heap.size ≤ w.heap.size := Nat.le_refl _
      go_wp2_with (at_make; refine wpList_make_full (P := Try.prog) _ rfl _ _ 47 rfl w.heap.size 5 ib (.int .u8 0) 1 Try.underlying47 hib hb0 hb1 .i64 .i64 _ _ m rfl rfl rfl rfl (by rw [hb2]; omega) (by unfold maxLen; omega) hbz ?_; intro w4 hown4 hg4)
      obtain ⟨g, hge⟩ : ∃ g, g = w.heap.size := ⟨_, rfl⟩
      rw [← hge] at hown4 ⊢
      have HF4 := Lib.hid (show Fr nob w w4 from (Fr.refl nob w).grown hg4 (fun k hk => by cases hk))
      have hblk : ∃ cs : Array Value, Blk w4 g 5 cs ∧ cs.size = m := by
        rcases hown4.2 with ⟨e, _⟩ | ⟨g', cap, cur, e, _, hh, _, _, hsz, _⟩
        · cases e
        · cases e
          exact ⟨cur, hh, by simpa using hsz⟩
      have HB4 := Lib.hid hblk
      have hmx : m ≤ 9223372036854775807 := by omega
      clear hown4 hg4 hblk hib hb0 hb1 hb2
      go_loopw [7, 26] (fun rv iv wr => Hid (Fr nob w wr) ∧ ((iv = .int .i64 0 ∧ rv = .slice (some ⟨g, 0, none⟩) m m ∧ Hid (∃ cs : Array Value, Blk wr g 5 cs ∧ cs.size = m)) ∨ (iv = .int .i64 1 ∧ rv = .slice (some ⟨g, 0, none⟩) 0 0))) (fun _ iv _ => 1 - (intOf iv).toNat)
      case atStart => exact ⟨HF4, .inl ⟨rfl, rfl, HB4⟩⟩
      case round =>
        clear HF4 HB4
        obtain ⟨hf, ⟨rfl, rfl, hb⟩ | ⟨rfl, rfl⟩⟩ := hrel
        · have hpc' := (hf.out.cell (p := ⟨p, 0, none⟩) hp (fun h => h)).trans hpc
          obtain ⟨cs, hbk, hcs⟩ := hb.out
          obtain ⟨b, o, rfl, hbb, hc0⟩ := (HR.out.nob hf.out).2 (by omega)
          have hbk' : wr.heap[g]? = some (.cells cs.toList.toArray 5 (0, 0)) := by rw [Array.toArray_toList]; exact hbk
          have hdl : (nums IntKind.u8 d).length = m := by rw [nums_len]; exact HD.out
          have hmin : (nums IntKind.u8 d).length = Nat.min m m := by rw [hdl]; exact (Nat.min_self m).symm
          have hfit : 0 + (nums IntKind.u8 d).length ≤ cs.toList.length := by rw [hdl, Array.length_toList, hcs]; omega
          have hbel := hf.out.below
          have hgb : w.heap.size ≤ g := by omega
          have hsrc : 0 < (nums IntKind.u8 d).length → some (⟨g, 0, none⟩ : Addr) = some ⟨g, 0, none⟩ ∧ ∃ ad, some (⟨b, o, none⟩ : Addr) = some ad ∧ ∀ j v, (nums IntKind.u8 d)[j]? = some v → wr.cell? (ad.add j) = some v :=
            fun _ => ⟨rfl, _, rfl, fun j v hv => by rw [add_plain]; exact hc0 j v hv⟩
          have HX := Lib.hid (And.intro hbk' (And.intro hmin (And.intro hfit (And.intro hbel hsrc))))
          have HDL := Lib.hid hdl
          clear hbk' hmin hfit hbel hsrc hbk hcs hc0 hdl hb
          go_wp2_with (with_reducible refine wpList_copy_splice (P := Try.prog) rfl (.tmp 31) (.tmp 32) 47 47 rfl 5 Try.underlying47 (by kernel_rfl) (some ⟨g, 0, none⟩) (some ⟨b, o, none⟩) m m m c rfl rfl g 0 cs.toList 5 HX.out.1 (nums .u8 d) HX.out.2.1 HX.out.2.2.2.2 HX.out.2.2.1 (nums_one _ _) w.heap.size w HX.out.2.2.2.1 hgb ?_; intro w5 hg5 hb5; rw [HDL.out]; unfold goInt)
          go_roundw
          case rel => exact ⟨_, _, _, ⟨Lib.hid ⟨hb5.os, hb5.tape, hb5.output, hb5.size, fun i hi _ => hb5.block i hi⟩, .inr ⟨rfl, rfl⟩⟩, rfl, rfl, rfl⟩
          case measure => simp [intOf]
        · go_wp2_with fail
          go_ret
          exact ⟨_, rfl, hf.out⟩
set_option maxHeartbeats 1000000 in
set_option maxRecDepth 100000 in
theorem adu_open (A : Option Addr) (n c : Nat) (l : List Int) (w : World) (h : Rd w 1 A n (nums .u8 l)) (hl : ∀ x ∈ l, 0 ≤ x ∧ x ≤ 255) (hnc : n ≤ c) (hc : c ≤ 9223372036854775807) :
    Calls Try.prog 63 #[.slice A n c] w fun e w' => ∃ x, e = .returned (.tuple #[.int .i64 (openO l), x, .int .i64 (openE l)]) ∧ Fr nob w w' := by
  have hln := h.numlen
  by_cases h4 : n < 4
  · have he : openE l = 12 := by rw [openE, if_pos (by omega)]
    have ho : openO l = 0 := by rw [openO, he]; rfl
    rw [he, ho]
    clear he ho h hl hln
    go_enter Try.func63, Try.ntmps63
    go_wp2_with fail
    go_ret3
    exact ⟨_, rfl, Fr.refl _ _⟩
  by_cases h256 : 256 < n
  · have he : openE l = 13 := by rw [openE, if_neg (by omega), if_pos (by omega)]
    have ho : openO l = 0 := by rw [openO, he]; rfl
    rw [he, ho]
    clear he ho h hl hln
    go_enter Try.func63, Try.ntmps63
    go_wp2_with fail
    go_ret3
    exact ⟨_, rfl, Fr.refl _ _⟩
  obtain ⟨m, rfl⟩ : ∃ m, n = m + 2 := ⟨n - 2, by omega⟩
  have hst := strip_any A m c l w h hl hnc hc (by omega)
  unfold stripPost at hst
  have HST := Lib.hid hst
  have hE : openE l = if chk l then 0 else 14 := by rw [openE, if_neg (by omega), if_neg (by omega)]
  have hx := hl (l.getD 0 0) (by rw [List.getD_eq_getElem?_getD, List.getElem?_eq_getElem (by omega)]; exact List.getElem_mem _)
  have ho : ∀ b, chk l = b → openO l = if b then l.getD 0 0 else 0 := fun b hb => by
    rw [openO, hE, hb]
    cases b <;> rfl
  have hg : (l.take m).getD 0 0 = l.getD 0 0 := by
    rw [List.getD_eq_getElem?_getD, List.getD_eq_getElem?_getD, List.getElem?_take_of_lt (by omega)]
  obtain ⟨x, hxe⟩ : ∃ x, x = l.getD 0 0 := ⟨_, rfl⟩
  rw [← hxe] at hx hg ho
  have HE := Lib.hid hE
  have HO := Lib.hid ho
  have HG := Lib.hid hg
  clear hst hE ho hg hxe h hl hln
  go_enter Try.func63, Try.ntmps63
  go_wp2_with fail
  refine HST.out.mono ?_
  rintro e w1 ⟨hf, ⟨hch, rfl⟩ | ⟨hch, A', c', rfl, hmc, hcc, hown⟩⟩
  · have e1 : openE l = 14 := by rw [HE.out, hch]; rfl
    have e2 : openO l = 0 := by rw [HO.out false hch]; rfl
    have E1 := Lib.hid (And.intro e1 e2)
    clear e1 e2 HST
    go_wp2_with fail
    go_ret3
    exact ⟨_, by rw [E1.out.1, E1.out.2]; rfl, hf⟩
  · have e1 : openE l = 0 := by rw [HE.out, hch]; rfl
    have e2 : openO l = x := by rw [HO.out true hch]; rfl
    have E1 := Lib.hid (And.intro e1 e2)
    obtain ⟨b, o, rfl, hb, hc0⟩ := (Rd.of_own hown).num (i := 0) (by omega)
    rw [HG.out, Nat.add_zero] at hc0
    have hwx : IntKind.i64.wrap x = x := IntWalk.i64_in _ (by omega)
    obtain ⟨A2, hcut, hcutR, _⟩ := cut_run (P := Try.prog) (T := 47) (e := 5) (size := 1) Try.underlying47 (by kernel_rfl) (some ⟨b, o, none⟩) m c' 1 1 rfl (by omega) hmc
    have hR2 := hcutR w1 _ (Rd.of_own hown)
    rw [Nat.one_mul] at hR2
    have hR3 : Rd w1 1 A2 (m - 1) (nums .u8 ((l.take m).drop 1)) := by
      rw [show nums IntKind.u8 ((l.take m).drop 1) = (nums .u8 (l.take m)).drop 1 by simp [nums, List.map_drop]]
      exact hR2
    have HR3 := Lib.hid hR3
    have HF := Lib.hid hf
    have g1 : 0 < m := by omega
    have g2 : 1 ≤ m := by omega
    have hjn := Lib.hid (fun V (hV : Fr nob w1 V) (hp : w1.heap.size < V.heap.size) (hpc : V.cell? ⟨w1.heap.size, 0, none⟩ = some (.slice A2 (m - 1) (c' - 1))) => joined_one w1.heap.size A2 (m - 1) (c' - 1) _ V hp hpc (HR3.out.nob hV) (by omega))
    clear hcutR hR2 hR3 hown e1 e2 HST hf
    go_wp2_with fail
    refine wp_region_held_drew (S := fun w' => w'.cell? ⟨b, o, none⟩ = some (.int .u8 x)) (by kernel_rfl) hc0 (fun hHeld => ?_)
    first
      | (refine mix_skip 0 rfl (by kernel_rfl) (by kernel_rfl) (by kernel_rfl) (by rfl) (by assumption) (fun _ _ _ h => h) ?_)
      | (refine mix_pure 0 (v := ?_) rfl (by kernel_rfl) (by kernel_rfl) (by kernel_rfl) (by rfl) (by assumption) (fun _ _ _ h => h) ?_ ?_; rotate_left; · (intro wS hSw; (try dsimp only at hSw); go_simp; try with_reducible rfl))
    simp only [Act.put, List.setIfInBounds_toArray, List.set_cons_zero, List.set_cons_succ]
    first
      | (refine mix_skip 1 rfl (by kernel_rfl) (by kernel_rfl) (by kernel_rfl) (by rfl) (by assumption) (fun _ _ _ h => h) ?_)
      | (refine mix_pure 1 (v := ?_) rfl (by kernel_rfl) (by kernel_rfl) (by kernel_rfl) (by rfl) (by assumption) (fun _ _ _ h => h) ?_ ?_; rotate_left; · (intro wS hSw; (try dsimp only at hSw); go_simp; try with_reducible rfl))
    simp only [Act.put, List.setIfInBounds_toArray, List.set_cons_zero, List.set_cons_succ]
    first
      | (refine mix_skip 2 rfl (by kernel_rfl) (by kernel_rfl) (by kernel_rfl) (by rfl) (by assumption) (fun _ _ _ h => h) ?_)
      | (refine mix_pure 2 (v := ?_) rfl (by kernel_rfl) (by kernel_rfl) (by kernel_rfl) (by rfl) (by assumption) (fun _ _ _ h => h) ?_ ?_; rotate_left; · (intro wS hSw; (try dsimp only at hSw); go_simp; try with_reducible rfl))
    simp only [Act.put, List.setIfInBounds_toArray, List.set_cons_zero, List.set_cons_succ]
    first
      | (refine mix_skip 3 rfl (by kernel_rfl) (by kernel_rfl) (by kernel_rfl) (by rfl) (by assumption) (fun _ _ _ h => h) ?_)
      | (refine mix_pure 3 (v := ?_) rfl (by kernel_rfl) (by kernel_rfl) (by kernel_rfl) (by rfl) (by assumption) (fun _ _ _ h => h) ?_ ?_; rotate_left; · (intro wS hSw; (try dsimp only at hSw); go_simp; try with_reducible rfl))
    simp only [Act.put, List.setIfInBounds_toArray, List.set_cons_zero, List.set_cons_succ]
    first
      | (refine mix_skip 4 rfl (by kernel_rfl) (by kernel_rfl) (by kernel_rfl) (by rfl) (by assumption) (fun _ _ _ h => h) ?_)
      | (refine mix_pure 4 (v := ?_) rfl (by kernel_rfl) (by kernel_rfl) (by kernel_rfl) (by rfl) (by assumption) (fun _ _ _ h => h) ?_ ?_; rotate_left; · (intro wS hSw; (try dsimp only at hSw); go_simp; try with_reducible rfl))
    simp only [Act.put, List.setIfInBounds_toArray, List.set_cons_zero, List.set_cons_succ]
    first
      | (refine mix_skip 5 rfl (by kernel_rfl) (by kernel_rfl) (by kernel_rfl) (by rfl) (by assumption) (fun _ _ _ h => h) ?_)
      | (refine mix_pure 5 (v := ?_) rfl (by kernel_rfl) (by kernel_rfl) (by kernel_rfl) (by rfl) (by assumption) (fun _ _ _ h => h) ?_ ?_; rotate_left; · (intro wS hSw; (try dsimp only at hSw); go_simp; try with_reducible rfl))
    simp only [Act.put, List.setIfInBounds_toArray, List.set_cons_zero, List.set_cons_succ]
    refine mix_one 6 rfl (by kernel_rfl) (fun K hK => ?_)
    go_simp
    have hfA : Fr nob w1 ((w1.alloc (.cells #[.slice A2 (m - 1) (c' - 1)] 47)).drew) := ((Fr.refl nob w1).alloc _).drew
    have hbA := (Blk.new w1 47 #[.slice A2 (m - 1) (c' - 1)]).drew
    have hcA := (hfA.cell (p := ⟨b, o, none⟩) hb (fun h => h)).trans hc0
    refine hK.out _ _ (hcA) (fun hHeld0 => ?_)
    clear hK K
    try simp only [Act.put, List.setIfInBounds_toArray, List.set_cons_zero, List.set_cons_succ]
    refine mix_one 7 rfl (by kernel_rfl) (fun K hK => ?_)
    go_simp
    refine (hjn.out _ hfA hbA.lt ((hbA.cell 0).trans rfl)).mono ?_
    rintro e w5 ⟨v5, rfl, hf5⟩
    have HF5 := Lib.hid (hfA.trans hf5 (fun _ _ h => h))
    have hc5 := (HF5.out.cell (p := ⟨b, o, none⟩) hb (fun h => h)).trans hc0
    refine hK.out _ _ (hc5) (fun hHeld1 => ?_)
    clear hK K
    try simp only [Act.put, List.setIfInBounds_toArray, List.set_cons_zero, List.set_cons_succ]
    first
      | (refine mix_skip 8 rfl (by kernel_rfl) (by kernel_rfl) (by kernel_rfl) (by rfl) (by assumption) (fun _ _ _ h => h) ?_)
      | (refine mix_pure 8 (v := ?_) rfl (by kernel_rfl) (by kernel_rfl) (by kernel_rfl) (by rfl) (by assumption) (fun _ _ _ h => h) ?_ ?_; rotate_left; · (intro wS hSw; (try dsimp only at hSw); go_simp; try with_reducible rfl))
    simp only [Act.put, List.setIfInBounds_toArray, List.set_cons_zero, List.set_cons_succ]
    first
      | (refine mix_skip 9 rfl (by kernel_rfl) (by kernel_rfl) (by kernel_rfl) (by rfl) (by assumption) (fun _ _ _ h => h) ?_)
      | (refine mix_pure 9 (v := ?_) rfl (by kernel_rfl) (by kernel_rfl) (by kernel_rfl) (by rfl) (by assumption) (fun _ _ _ h => h) ?_ ?_; rotate_left; · (intro wS hSw; (try dsimp only at hSw); go_simp; try with_reducible rfl))
    simp only [Act.put, List.setIfInBounds_toArray, List.set_cons_zero, List.set_cons_succ]
    first
      | (refine mix_skip 10 rfl (by kernel_rfl) (by kernel_rfl) (by kernel_rfl) (by rfl) (by assumption) (fun _ _ _ h => h) ?_)
      | (refine mix_pure 10 (v := ?_) rfl (by kernel_rfl) (by kernel_rfl) (by kernel_rfl) (by rfl) (by assumption) (fun _ _ _ h => h) ?_ ?_; rotate_left; · (intro wS hSw; (try dsimp only at hSw); go_simp; try with_reducible rfl))
    simp only [Act.put, List.setIfInBounds_toArray, List.set_cons_zero, List.set_cons_succ]
    refine wpAnyH_done (by kernel_rfl) ?_ _
    go_wp2_with fail
    go_ret3
    exact ⟨_, by rw [E1.out.1, E1.out.2]; rfl, HF.out.trans HF5.out (fun _ _ h => h)⟩
end Go.Proofs.Ytmpjdploacfmeaa
