/- Layer 8's law TallyDoes, walked. -/
import Derived.Test.YtmpjdploacfmeaaTallyRef
import Derived.Test.YtmpjdploacfmeaaOpen
import Derived.Test.YtmpjdploacfmeaaMix
import Derived.Deep.RegionWith
import Derived.Deep.DeepCutAuto
import Derived.Deep.CutBlock
namespace Go.Proofs.Ytmpjdploacfmeaa
open Go.RowKit

theorem Blk.set8 {w : World} {g : Nat} {t : TypeId} {x0 x1 x2 x3 x4 x5 x6 x7 : Value} (h : Blk w g t #[x0, x1, x2, x3, x4, x5, x6, x7]) (d0 d1 d2 d3 d4 d5 d6 d7 : Value) :
    Blk ((((((((w.setCell ⟨g, 0, none⟩ d0).setCell ⟨g, 1, none⟩ d1).setCell ⟨g, 2, none⟩ d2).setCell ⟨g, 3, none⟩ d3).setCell ⟨g, 4, none⟩ d4).setCell ⟨g, 5, none⟩ d5).setCell ⟨g, 6, none⟩ d6).setCell ⟨g, 7, none⟩ d7) g t #[d0, d1, d2, d3, d4, d5, d6, d7] := by
  have hE := (((((((h.set_ 0 d0).set_ 1 d1).set_ 2 d2).set_ 3 d3).set_ 4 d4).set_ 5 d5).set_ 6 d6).set_ 7 d7
  simp only [List.setIfInBounds_toArray, List.set_cons_zero, List.set_cons_succ] at hE
  exact hE
theorem Fr.set8 {S : Nat → Prop} {w w' : World} (h : Fr S w w') {g : Nat} (hg : S g) (d0 d1 d2 d3 d4 d5 d6 d7 : Value) :
    Fr S w ((((((((w'.setCell ⟨g, 0, none⟩ d0).setCell ⟨g, 1, none⟩ d1).setCell ⟨g, 2, none⟩ d2).setCell ⟨g, 3, none⟩ d3).setCell ⟨g, 4, none⟩ d4).setCell ⟨g, 5, none⟩ d5).setCell ⟨g, 6, none⟩ d6).setCell ⟨g, 7, none⟩ d7) :=
  (((((((h.set_ (p := ⟨g, 0, none⟩) (.inl hg) d0).set_ (p := ⟨g, 1, none⟩) (.inl hg) d1).set_ (p := ⟨g, 2, none⟩) (.inl hg) d2).set_ (p := ⟨g, 3, none⟩) (.inl hg) d3).set_ (p := ⟨g, 4, none⟩) (.inl hg) d4).set_ (p := ⟨g, 5, none⟩) (.inl hg) d5).set_ (p := ⟨g, 6, none⟩) (.inl hg) d6).set_ (p := ⟨g, 7, none⟩) (.inl hg) d7

/-- The law's round: what stands behind it. -/
def inB (i : Int) : Bool := decide (0 ≤ i ∧ i < 8)
set_option maxHeartbeats 8000000 in
set_option maxRecDepth 100000 in
theorem tallyDoes_any (A : Option Addr) (n cp : Nat) (L : List (Int × Int × Int)) (w : World) (hl : Rd w 3 A n (L.flatMap opCells)) (hn : n ≤ 9223372036854775807) :
    Calls Try.prog 4 #[.slice A n cp] w fun e w' => e = .returned (.bool true) ∧ Fr nob w w' := by
  by_cases h300 : 300 < n
  · go_enter Try.func4, Try.ntmps4
    go_wp2_with (go_at_call 8; refine (tally_sure _).mono ?_; rintro e w' ⟨rfl, hf⟩)
    go_ret
    exact ⟨rfl, hf⟩
  · go_enter Try.func4, Try.ntmps4
    go_wp2_with fail
    refine (tally_new _).mono ?_
    rintro e w1 ⟨rfl, rfl⟩
    have h0 := TS.new w
    have hf0 : Fr nob w (w.alloc (.cells (tcells (List.replicate 8 0)) 79)) := (Fr.refl _ _).alloc _
    obtain ⟨b, hb⟩ : ∃ b, b = w.heap.size := ⟨_, rfl⟩
    obtain ⟨W, hW⟩ : ∃ W, W = w.alloc (.cells (tcells (List.replicate 8 0)) 79) := ⟨_, rfl⟩
    rw [← hW, ← hb] at h0
    rw [← hW] at hf0
    rw [← hW, ← hb]
    have hlt0 : w.heap.size ≤ b := by omega
    have HB := Lib.hid hb
    clear hb hW
    obtain ⟨bw, hbw⟩ : ∃ bw, bw = W.heap.size := ⟨_, rfl⟩
    go_wp2_with fail
    rw [← hbw]
    have h1 : Blk (W.alloc (.cells (w8 (List.replicate 8 0)) 35)) bw 35 (w8 (List.replicate 8 0)) := by rw [hbw]; exact Blk.new _ _ _
    have h0' : TS (W.alloc (.cells (w8 (List.replicate 8 0)) 35)) b (List.replicate 8 0) := h0.fr ((Fr.refl nob _).alloc _) id
    have hbwl : w.heap.size ≤ bw := by rw [hbw]; exact hf0.size
    have hbbw : b ≠ bw := by have := h0.lt; omega
    have hf1 : Fr nob w (W.alloc (.cells (w8 (List.replicate 8 0)) 35)) := hf0.alloc _
    clear h0 hbw
    go_loopw [3, 5] (fun s i wr => ∃ (j b : Nat) (c : List Int), j ≤ n ∧ i = .int .i64 j ∧ s = .pointer (some ⟨b, 0, none⟩) ∧ w.heap.size ≤ b ∧ TS wr b c ∧ Blk wr bw 35 (w8 c) ∧ Fr nob w wr) (fun _ i _ => n - (intOf i).toNat)
    case atStart => exact ⟨0, b, _, by omega, rfl, rfl, hlt0, h0', h1, hf1⟩
    case round =>
      clear h1 h0' hbbw hf1 hf0 hlt0 HB
      obtain ⟨j, b, c, hj, rfl, rfl, hlb, hts, hwb, hfr⟩ := hrel
      have hbbw : b ≠ bw := Blk.ne_ hts.2.2 hwb (by decide)
      by_cases hlt : j < n
      · obtain ⟨bl, o, ⟨xk, xi, xn⟩, rfl, hbl, hx, hc0, hc1, hc2⟩ := (hl.nob hfr).op hlt
        have hj0 : (0 : Int) ≤ (j : Int) ∧ (j : Int) < (n : Int) := ⟨by omega, by omega⟩
        dsimp only at hc0 hc1 hc2
        have hob := Blk.new wr 27 #[.int .i64 xk, .int .i64 xi, .int .i64 xn]
        have hts' := hts.fr ((Fr.refl nob wr).alloc (.cells #[.int .i64 xk, .int .i64 xi, .int .i64 xn] 27)) id
        have hwb' := hwb.alloc (.cells #[.int .i64 xk, .int .i64 xi, .int .i64 xn] 27)
        have hfr' := hfr.alloc (.cells #[.int .i64 xk, .int .i64 xi, .int .i64 xn] 27)
        have hneo : wr.heap.size ≠ b := by have := hts.lt; omega
        have hnew : wr.heap.size ≠ bw := by have := hwb.lt; omega
        have hszo : w.heap.size ≤ wr.heap.size := hfr.size
        clear hx hl hts hwb hfr
        by_cases hin : 0 ≤ xi ∧ xi < 8
        · obtain ⟨hx0, hx1⟩ := hin
          go_upto_block 2 with fail
          go_cut [3] (fun s3 wc => ∃ (b' : Nat) (c' : List Int), s3 = .pointer (some ⟨b', 0, none⟩) ∧ w.heap.size ≤ b' ∧ TS wc b' c' ∧ Blk wc bw 35 (w8 c') ∧ Blk wc wr.heap.size 27 #[.int .i64 xk, .int .i64 xi, .int .i64 xn] ∧ Fr nob w wc)
          case first =>
            obtain ⟨c0, c1, c2, c3, c4, c5, c6, c7, hc⟩ := eight hts'.1
            have hW1 := hwb'
            rw [hc, w8_lit] at hW1
            have hWc := hW1.cell
            have hWf := hW1.frozen
            have hoc := hob.cell
            have hzw : bw < wr.heap.size + 1 := by have := hwb'.lt; simpa using this
            have HW1 := Lib.hid hW1
            have HC := Lib.hid hc
            clear hW1 hc
            by_cases hk0 : xk = 0
            · have hkb : (xk == 0) = true := by rw [hk0]; rfl
              have HK := Lib.hid hk0
              clear hk0
              rcases addErr_or xi xn with he | he
              all_goals
                go_wp2_with fail
                refine (ref08_add c0 c1 c2 c3 c4 c5 c6 c7 xi xn _ (by rw [← HC.out]; exact hts'.2.1)).mono ?_
                rintro e w2 ⟨rfl, hf2⟩
                obtain ⟨d0, d1, d2, d3, d4, d5, d6, d7, hd⟩ := eight (addTo_len (c := [c0, c1, c2, c3, c4, c5, c6, c7]) rfl xi xn)
                rw [hd, w8_lit, he]
                have HD := Lib.hid hd
                have hWc2 := (HW1.out.fr hf2 id).cell
                have hWf2 := (HW1.out.fr hf2 id).frozen
                have hoc2 := (hob.fr hf2 id).cell
                have hz1 : bw < w2.heap.size := (HW1.out.fr hf2 id).lt
                have hz2 : wr.heap.size < w2.heap.size := (hob.fr hf2 id).lt
                clear hWc hWf hoc hd
                have hX : ∀ X, Fr (· = bw) w2 X → TS X b c ∧ Blk X wr.heap.size 27 #[.int .i64 xk, .int .i64 xi, .int .i64 xn] ∧ (Fr (· = bw) (wr.alloc (.cells #[.int .i64 xk, .int .i64 xi, .int .i64 xn] 27)) X) := fun X h => ⟨hts'.fr ((hf2.of_nob (S := (· = bw))).trans h (fun i _ h => h)) hbbw, hob.fr ((hf2.of_nob (S := (· = bw))).trans h (fun i _ h => h)) hnew, (hf2.of_nob (S := (· = bw))).trans h (fun i _ h => h)⟩
                have HX := Lib.hid hX
                clear hX
                go_wp2_with fail
                have HR := HX.out _ (((Fr.refl (· = bw) w2).set8 rfl (.int .u16 d0) (.int .u16 d1) (.int .u16 d2) (.int .u16 d3) (.int .u16 d4) (.int .u16 d5) (.int .u16 d6) (.int .u16 d7)).alloc (.cells #[.int .u16 d0, .int .u16 d1, .int .u16 d2, .int .u16 d3, .int .u16 d4, .int .u16 d5, .int .u16 d6, .int .u16 d7] 35))
                refine (tally_add b c _ _ _ HR.1).mono ?_
                rintro e w3 ⟨rfl, hts3, hf3⟩
                have hB3 := (((HW1.out.fr hf2 id).set8 (.int .u16 d0) (.int .u16 d1) (.int .u16 d2) (.int .u16 d3) (.int .u16 d4) (.int .u16 d5) (.int .u16 d6) (.int .u16 d7)).alloc _).fr hf3 (Ne.symm hbbw)
                have hob3 := HR.2.1.fr hf3 hneo
                have HF := Lib.hid ((hfr'.trans HR.2.2 (fun i hi hb => by omega)).trans hf3 (fun i hi hb => by omega))
                clear hWc2 hWf2 hoc2 HR
                rw [he]
                go_wp2_with fail
                go_meet
                refine ⟨b, _, rfl, hlb, hts3, ?_, hob3, HF.out⟩
                rw [HC.out, HD.out, w8_lit]
                exact hB3
            · have hkb : (xk == 0) = false := by rw [beq_eq_false_iff_ne]; exact hk0
              by_cases hk1 : xk = 1
              · have hkb1 : (xk == 1) = true := by rw [hk1]; rfl
                have HK := Lib.hid hk1
                clear hk1 hk0
                have hwi := HW1.out.cell xi.toNat
                rw [← w8_lit, w8_at rfl xi.toNat (by omega)] at hwi
                go_wp2_with fail
                have hS := (Fr.refl (· = bw) (wr.alloc (.cells #[.int .i64 xk, .int .i64 xi, .int .i64 xn] 27))).set_ (p := ⟨bw, xi.toNat, none⟩) (.inl rfl) (.int .u16 0)
                refine (tally_drop b c _ _ (hts'.fr hS hbbw)).mono ?_
                rintro e w3 ⟨rfl, hts3, hf3⟩
                have hB3 := (hwb'.set_ xi.toNat (.int .u16 0)).fr hf3 (Ne.symm hbbw)
                rw [w8_set] at hB3
                rw [show dropErr xi = 0 from by unfold dropErr; rw [if_pos ⟨hx0, hx1⟩]]
                have hob3 := (hob.fr hS hnew).fr hf3 hneo
                have HF := Lib.hid ((hfr'.trans hS (fun i hi hb => by omega)).trans hf3 (fun i hi hb => by omega))
                clear hS hWc hWf hoc
                go_wp2_with fail
                go_meet
                refine ⟨b, _, rfl, hlb, hts3, ?_, hob3, HF.out⟩
                rw [show dropOf c xi = c.set xi.toNat 0 from by unfold dropOf; rw [if_pos ⟨hx0, hx1⟩]]
                exact hB3
              · have hkb1 : (xk == 1) = false := by rw [beq_eq_false_iff_ne]; exact hk1
                by_cases hk2 : xk = 2
                · have hkb2 : (xk == 2) = true := by rw [hk2]; rfl
                  have HK := Lib.hid hk2
                  clear hk2 hk1 hk0 hWc hWf hoc
                  go_wp2_with fail
                  refine (tally_clear b c _ hts').mono ?_
                  rintro e w3 ⟨rfl, hts3, hf3⟩
                  have hB3 := HW1.out.fr hf3 (Ne.symm hbbw)
                  have hWc3 := hB3.cell
                  have hWf3 := hB3.frozen
                  have HB3 := Lib.hid hB3
                  clear hB3
                  have hob3 := Lib.hid (hob.fr hf3 hneo)
                  have HF := Lib.hid (hfr'.trans hf3 (fun i hi hb => by omega))
                  have HT := Lib.hid hts3
                  clear hts3
                  go_wp2_with fail
                  go_meet
                  have hS := (Fr.refl (· = bw) w3).set8 rfl (.int .u16 0) (.int .u16 0) (.int .u16 0) (.int .u16 0) (.int .u16 0) (.int .u16 0) (.int .u16 0) (.int .u16 0)
                  exact ⟨b, _, rfl, hlb, HT.out.fr hS hbbw, HB3.out.set8 (.int .u16 0) (.int .u16 0) (.int .u16 0) (.int .u16 0) (.int .u16 0) (.int .u16 0) (.int .u16 0) (.int .u16 0), hob3.out.fr hS hnew, HF.out.trans hS (fun i hi hb => by omega)⟩
                · have hkb2 : (xk == 2) = false := by rw [beq_eq_false_iff_ne]; exact hk2
                  clear hk2 hk1 hk0 hWc hWf hoc
                  go_wp2_with fail
                  refine (tally_clone b c _ hts').mono ?_
                  rintro e w3 ⟨rfl, hts3, hf3⟩
                  obtain ⟨b3, hb3⟩ : ∃ b3, b3 = (wr.alloc (.cells #[.int .i64 xk, .int .i64 xi, .int .i64 xn] 27)).heap.size := ⟨_, rfl⟩
                  rw [← hb3] at hts3
                  rw [← hb3]
                  have hb3' : b < b3 := by rw [hb3]; exact hts'.lt
                  have hb3w : w.heap.size ≤ b3 := by rw [hb3]; exact hfr'.size
                  have HB3 := Lib.hid hb3
                  clear hb3
                  go_wp2_with fail
                  refine (tally_add b c _ _ _ (hts'.fr hf3 id)).mono ?_
                  rintro e w4 ⟨rfl, hts4, hf4⟩
                  go_wp2_with fail
                  go_meet
                  exact ⟨b3, c, rfl, hb3w, hts3.fr hf4 (by omega), (hwb'.fr hf3 id).fr hf4 (Ne.symm hbbw), (hob.fr hf3 id).fr hf4 hneo, (hfr'.trans hf3 (fun i hi hb => hb.elim)).trans hf4 (fun i hi hb => by omega)⟩
          case rest =>
            obtain ⟨b', c', rfl, hlb', hts2, hwb2, hob2, hfr2⟩ := hcut
            have hoc := hob2.cell
            have hwi := hwb2.cell xi.toNat
            rw [w8_at hts2.1 xi.toNat (by omega)] at hwi
            have hi0 : (0 : Int) ≤ xi ∧ xi < (8 : Int) := ⟨hx0, hx1⟩
            go_wp2_with fail
            refine (tally_get b' c' _ _ hts2 hx0 hx1).mono ?_
            rintro e w3 ⟨rfl, rfl⟩
            obtain ⟨x, hx⟩ : ∃ x, x = c'.getD xi.toNat 0 := ⟨_, rfl⟩
            have hxx : (x != x) = false := by rw [bne_self_eq_false]
            rw [← hx] at hwi
            rw [← hx]
            have HX := Lib.hid hx
            clear hx
            go_wp2_with fail
            have gAll : ∀ W, Fr nob wc W → Calls Try.prog 17 #[.pointer (some ⟨b', 0, none⟩)] W fun e w' => ∃ A cp, e = .returned (.slice A 8 cp) ∧ Rd w' 1 A 8 (nums .u16 c') ∧ Fr nob wc w' := fun W h =>
              (tally_all b' c' W (hts2.fr h id)).mono fun e w' ⟨A, cp, he, hv⟩ => ⟨A, cp, he, hv.rd, h.trans hv.2 (fun i hi hb => hb.elim)⟩
            have GA := Lib.hid gAll
            clear gAll
            have gW : ∀ W A cp, Rd W 1 A 8 (nums .u16 c') → Fr nob wc W → Calls Try.prog 16 #[.slice A 8 cp, .slice (some ⟨bw, 0, none⟩) 8 8] W fun e w' => e = .returned (.bool true) ∧ ∃ k, w' = W.drewN k := fun W A cp h h' =>
              (words_any _ _ _ _ _ _ c' c' W h (Rd.of_blk (hwb2.fr h' id) (by rw [nums_len, hts2.1]) (fun j u hu => by simpa [w8] using hu)) (by omega) (by omega)).mono fun e w' ⟨he, hw⟩ => ⟨by rw [he]; unfold sameInts; simp, hw⟩
            have GW := Lib.hid gW
            clear gW
            have hcl : ∀ W, Fr nob wc W → W.cell? ⟨wr.heap.size, 1, none⟩ = some (.int .i64 xi) ∧ W.cell? ⟨bw, xi.toNat, none⟩ = some (.int .u16 x) := fun W h => ⟨(hob2.fr h id).cell 1, by rw [HX.out]; exact ((hwb2.fr h id).cell xi.toNat).trans (w8_at hts2.1 xi.toNat (by omega))⟩
            have HL := Lib.hid hcl
            clear hcl hoc hwi
            clear hts' hwb' hfr' hob
            refine wp_region_held_drew (S := fun w' => w'.cell? ⟨wr.heap.size, 1, none⟩ = some (.int .i64 xi) ∧ w'.cell? ⟨bw, xi.toNat, none⟩ = some (.int .u16 x)) (by kernel_rfl) (HL.out _ ((Fr.refl _ _).drew)) (fun hHeld => ?_)
            first
              | (refine mix_skip 0 rfl (by kernel_rfl) (by kernel_rfl) (by kernel_rfl) (by rfl) (by assumption) (fun _ _ _ h => h) ?_)
              | (refine mix_pure 0 (v := ?_) rfl (by kernel_rfl) (by kernel_rfl) (by kernel_rfl) (by rfl) (by assumption) (fun _ _ _ h => h) ?_ ?_; rotate_left; · (intro wS hSw; (try dsimp only at hSw); go_simp; try with_reducible rfl))
            simp only [Act.put, List.setIfInBounds_toArray, List.set_cons_zero, List.set_cons_succ]
            first
              | (refine mix_skip 2 rfl (by kernel_rfl) (by kernel_rfl) (by kernel_rfl) (by rfl) (by assumption) (fun _ _ _ h => h) ?_)
              | (refine mix_pure 2 (v := ?_) rfl (by kernel_rfl) (by kernel_rfl) (by kernel_rfl) (by rfl) (by assumption) (fun _ _ _ h => h) ?_ ?_; rotate_left; · (intro wS hSw; (try dsimp only at hSw); go_simp; try with_reducible rfl))
            simp only [Act.put, List.setIfInBounds_toArray, List.set_cons_zero, List.set_cons_succ]
            refine mix_one 1 rfl (by kernel_rfl) (fun K hK => ?_)
            go_simp
            refine (GA.out _ ((Fr.refl _ _).drew)).mono ?_
            rintro e w4 ⟨A4, cp4, rfl, hr4, hf4⟩
            refine hK.out _ _ (HL.out w4 hf4) (fun hHeld0 => ?_)
            clear hK K
            try simp only [Act.put, List.setIfInBounds_toArray, List.set_cons_zero, List.set_cons_succ]
            refine mix_one 3 rfl (by kernel_rfl) (fun K hK => ?_)
            go_simp
            refine (GW.out _ _ _ hr4 hf4).mono ?_
            rintro e w5 ⟨rfl, k5, rfl⟩
            refine hK.out _ _ (hHeld0) (fun hHeld1 => ?_)
            clear hK K
            try simp only [Act.put, List.setIfInBounds_toArray, List.set_cons_zero, List.set_cons_succ]
            first
              | (refine mix_skip 4 rfl (by kernel_rfl) (by kernel_rfl) (by kernel_rfl) (by rfl) (by assumption) (fun _ _ _ h => h) ?_)
              | (refine mix_pure 4 (v := ?_) rfl (by kernel_rfl) (by kernel_rfl) (by kernel_rfl) (by rfl) (by assumption) (fun _ _ _ h => h) ?_ ?_; rotate_left; · (intro wS hSw; (try dsimp only at hSw); go_simp; try with_reducible rfl))
            simp only [Act.put, List.setIfInBounds_toArray, List.set_cons_zero, List.set_cons_succ]
            first
              | (refine mix_skip 5 rfl (by kernel_rfl) (by kernel_rfl) (by kernel_rfl) (by rfl) (by assumption) (fun _ _ _ h => h) ?_)
              | (refine mix_pure 5 (v := ?_) rfl (by kernel_rfl) (by kernel_rfl) (by kernel_rfl) (by rfl) (by assumption) (fun _ _ _ h => h) ?_ ?_; rotate_left; · (intro wS hSw; (try dsimp only at hSw); go_simp; try with_reducible rfl))
            simp only [Act.put, List.setIfInBounds_toArray, List.set_cons_zero, List.set_cons_succ]
            first
              | (refine mix_skip 6 rfl (by kernel_rfl) (by kernel_rfl) (by kernel_rfl) (by rfl) (by assumption) (fun _ _ _ h => h) ?_)
              | (refine mix_pure 6 (v := ?_) rfl (by kernel_rfl) (by kernel_rfl) (by kernel_rfl) (by rfl) (by assumption) (fun _ _ _ h => h) ?_ ?_; rotate_left; · (intro wS hSw; (try dsimp only at hSw); go_simp; try with_reducible rfl))
            simp only [Act.put, List.setIfInBounds_toArray, List.set_cons_zero, List.set_cons_succ]
            first
              | (refine mix_skip 7 rfl (by kernel_rfl) (by kernel_rfl) (by kernel_rfl) (by rfl) (by assumption) (fun _ _ _ h => h) ?_)
              | (refine mix_pure 7 (v := ?_) rfl (by kernel_rfl) (by kernel_rfl) (by kernel_rfl) (by rfl) (by assumption) (fun _ _ _ h => h) ?_ ?_; rotate_left; · (intro wS hSw; (try dsimp only at hSw); go_simp; try with_reducible rfl))
            simp only [Act.put, List.setIfInBounds_toArray, List.set_cons_zero, List.set_cons_succ]
            first
              | (refine mix_skip 8 rfl (by kernel_rfl) (by kernel_rfl) (by kernel_rfl) (by rfl) (by assumption) (fun _ _ _ h => h) ?_)
              | (refine mix_pure 8 (v := ?_) rfl (by kernel_rfl) (by kernel_rfl) (by kernel_rfl) (by rfl) (by assumption) (fun _ _ _ h => h) ?_ ?_; rotate_left; · (intro wS hSw; (try dsimp only at hSw); go_simp; try with_reducible rfl))
            simp only [Act.put, List.setIfInBounds_toArray, List.set_cons_zero, List.set_cons_succ]
            first
              | (refine mix_skip 9 rfl (by kernel_rfl) (by kernel_rfl) (by kernel_rfl) (by rfl) (by assumption) (fun _ _ _ h => h) ?_)
              | (refine mix_pure 9 (v := ?_) rfl (by kernel_rfl) (by kernel_rfl) (by kernel_rfl) (by rfl) (by assumption) (fun _ _ _ h => h) ?_ ?_; rotate_left; · (intro wS hSw; (try dsimp only at hSw); go_simp; try with_reducible rfl))
            simp only [Act.put, List.setIfInBounds_toArray, List.set_cons_zero, List.set_cons_succ]
            first
              | (refine mix_skip 10 rfl (by kernel_rfl) (by kernel_rfl) (by kernel_rfl) (by rfl) (by assumption) (fun _ _ _ h => h) ?_)
              | (refine mix_pure 10 (v := ?_) rfl (by kernel_rfl) (by kernel_rfl) (by kernel_rfl) (by rfl) (by assumption) (fun _ _ _ h => h) ?_ ?_; rotate_left; · (intro wS hSw; (try dsimp only at hSw); go_simp; try with_reducible rfl))
            simp only [Act.put, List.setIfInBounds_toArray, List.set_cons_zero, List.set_cons_succ]
            first
              | (refine mix_skip 11 rfl (by kernel_rfl) (by kernel_rfl) (by kernel_rfl) (by rfl) (by assumption) (fun _ _ _ h => h) ?_)
              | (refine mix_pure 11 (v := ?_) rfl (by kernel_rfl) (by kernel_rfl) (by kernel_rfl) (by rfl) (by assumption) (fun _ _ _ h => h) ?_ ?_; rotate_left; · (intro wS hSw; (try dsimp only at hSw); go_simp; try with_reducible rfl))
            simp only [Act.put, List.setIfInBounds_toArray, List.set_cons_zero, List.set_cons_succ]
            first
              | (refine mix_skip 12 rfl (by kernel_rfl) (by kernel_rfl) (by kernel_rfl) (by rfl) (by assumption) (fun _ _ _ h => h) ?_)
              | (refine mix_pure 12 (v := ?_) rfl (by kernel_rfl) (by kernel_rfl) (by kernel_rfl) (by rfl) (by assumption) (fun _ _ _ h => h) ?_ ?_; rotate_left; · (intro wS hSw; (try dsimp only at hSw); go_simp; try with_reducible rfl))
            simp only [Act.put, List.setIfInBounds_toArray, List.set_cons_zero, List.set_cons_succ]
            first
              | (refine mix_skip 13 rfl (by kernel_rfl) (by kernel_rfl) (by kernel_rfl) (by rfl) (by assumption) (fun _ _ _ h => h) ?_)
              | (refine mix_pure 13 (v := ?_) rfl (by kernel_rfl) (by kernel_rfl) (by kernel_rfl) (by rfl) (by assumption) (fun _ _ _ h => h) ?_ ?_; rotate_left; · (intro wS hSw; (try dsimp only at hSw); go_simp; try with_reducible rfl))
            simp only [Act.put, List.setIfInBounds_toArray, List.set_cons_zero, List.set_cons_succ]
            first
              | (refine mix_skip 14 rfl (by kernel_rfl) (by kernel_rfl) (by kernel_rfl) (by rfl) (by assumption) (fun _ _ _ h => h) ?_)
              | (refine mix_pure 14 (v := ?_) rfl (by kernel_rfl) (by kernel_rfl) (by kernel_rfl) (by rfl) (by assumption) (fun _ _ _ h => h) ?_ ?_; rotate_left; · (intro wS hSw; (try dsimp only at hSw); go_simp; try with_reducible rfl))
            simp only [Act.put, List.setIfInBounds_toArray, List.set_cons_zero, List.set_cons_succ]
            first
              | (refine mix_skip 15 rfl (by kernel_rfl) (by kernel_rfl) (by kernel_rfl) (by rfl) (by assumption) (fun _ _ _ h => h) ?_)
              | (refine mix_pure 15 (v := ?_) rfl (by kernel_rfl) (by kernel_rfl) (by kernel_rfl) (by rfl) (by assumption) (fun _ _ _ h => h) ?_ ?_; rotate_left; · (intro wS hSw; (try dsimp only at hSw); go_simp; try with_reducible rfl))
            simp only [Act.put, List.setIfInBounds_toArray, List.set_cons_zero, List.set_cons_succ]
            first
              | (refine mix_skip 16 rfl (by kernel_rfl) (by kernel_rfl) (by kernel_rfl) (by rfl) (by assumption) (fun _ _ _ h => h) ?_)
              | (refine mix_pure 16 (v := ?_) rfl (by kernel_rfl) (by kernel_rfl) (by kernel_rfl) (by rfl) (by assumption) (fun _ _ _ h => h) ?_ ?_; rotate_left; · (intro wS hSw; (try dsimp only at hSw); go_simp; try with_reducible rfl))
            simp only [Act.put, List.setIfInBounds_toArray, List.set_cons_zero, List.set_cons_succ]
            first
              | (refine mix_skip 17 rfl (by kernel_rfl) (by kernel_rfl) (by kernel_rfl) (by rfl) (by assumption) (fun _ _ _ h => h) ?_)
              | (refine mix_pure 17 (v := ?_) rfl (by kernel_rfl) (by kernel_rfl) (by kernel_rfl) (by rfl) (by assumption) (fun _ _ _ h => h) ?_ ?_; rotate_left; · (intro wS hSw; (try dsimp only at hSw); go_simp; try with_reducible rfl))
            simp only [Act.put, List.setIfInBounds_toArray, List.set_cons_zero, List.set_cons_succ]
            first
              | (refine mix_skip 18 rfl (by kernel_rfl) (by kernel_rfl) (by kernel_rfl) (by rfl) (by assumption) (fun _ _ _ h => h) ?_)
              | (refine mix_pure 18 (v := ?_) rfl (by kernel_rfl) (by kernel_rfl) (by kernel_rfl) (by rfl) (by assumption) (fun _ _ _ h => h) ?_ ?_; rotate_left; · (intro wS hSw; (try dsimp only at hSw); go_simp; try with_reducible rfl))
            simp only [Act.put, List.setIfInBounds_toArray, List.set_cons_zero, List.set_cons_succ]
            first
              | (refine mix_skip 19 rfl (by kernel_rfl) (by kernel_rfl) (by kernel_rfl) (by rfl) (by assumption) (fun _ _ _ h => h) ?_)
              | (refine mix_pure 19 (v := ?_) rfl (by kernel_rfl) (by kernel_rfl) (by kernel_rfl) (by rfl) (by assumption) (fun _ _ _ h => h) ?_ ?_; rotate_left; · (intro wS hSw; (try dsimp only at hSw); go_simp; try with_reducible rfl))
            simp only [Act.put, List.setIfInBounds_toArray, List.set_cons_zero, List.set_cons_succ]
            first
              | (refine mix_skip 20 rfl (by kernel_rfl) (by kernel_rfl) (by kernel_rfl) (by rfl) (by assumption) (fun _ _ _ h => h) ?_)
              | (refine mix_pure 20 (v := ?_) rfl (by kernel_rfl) (by kernel_rfl) (by kernel_rfl) (by rfl) (by assumption) (fun _ _ _ h => h) ?_ ?_; rotate_left; · (intro wS hSw; (try dsimp only at hSw); go_simp; try with_reducible rfl))
            simp only [Act.put, List.setIfInBounds_toArray, List.set_cons_zero, List.set_cons_succ]
            first
              | (refine mix_skip 21 rfl (by kernel_rfl) (by kernel_rfl) (by kernel_rfl) (by rfl) (by assumption) (fun _ _ _ h => h) ?_)
              | (refine mix_pure 21 (v := ?_) rfl (by kernel_rfl) (by kernel_rfl) (by kernel_rfl) (by rfl) (by assumption) (fun _ _ _ h => h) ?_ ?_; rotate_left; · (intro wS hSw; (try dsimp only at hSw); go_simp; try with_reducible rfl))
            simp only [Act.put, List.setIfInBounds_toArray, List.set_cons_zero, List.set_cons_succ]
            first
              | (refine mix_skip 22 rfl (by kernel_rfl) (by kernel_rfl) (by kernel_rfl) (by rfl) (by assumption) (fun _ _ _ h => h) ?_)
              | (refine mix_pure 22 (v := ?_) rfl (by kernel_rfl) (by kernel_rfl) (by kernel_rfl) (by rfl) (by assumption) (fun _ _ _ h => h) ?_ ?_; rotate_left; · (intro wS hSw; (try dsimp only at hSw); go_simp; try with_reducible rfl))
            simp only [Act.put, List.setIfInBounds_toArray, List.set_cons_zero, List.set_cons_succ]
            first
              | (refine mix_skip 23 rfl (by kernel_rfl) (by kernel_rfl) (by kernel_rfl) (by rfl) (by assumption) (fun _ _ _ h => h) ?_)
              | (refine mix_pure 23 (v := ?_) rfl (by kernel_rfl) (by kernel_rfl) (by kernel_rfl) (by rfl) (by assumption) (fun _ _ _ h => h) ?_ ?_; rotate_left; · (intro wS hSw; (try dsimp only at hSw); go_simp; try with_reducible rfl))
            simp only [Act.put, List.setIfInBounds_toArray, List.set_cons_zero, List.set_cons_succ]
            first
              | (refine mix_skip 24 rfl (by kernel_rfl) (by kernel_rfl) (by kernel_rfl) (by rfl) (by assumption) (fun _ _ _ h => h) ?_)
              | (refine mix_pure 24 (v := ?_) rfl (by kernel_rfl) (by kernel_rfl) (by kernel_rfl) (by rfl) (by assumption) (fun _ _ _ h => h) ?_ ?_; rotate_left; · (intro wS hSw; (try dsimp only at hSw); go_simp; try with_reducible rfl))
            simp only [Act.put, List.setIfInBounds_toArray, List.set_cons_zero, List.set_cons_succ]
            first
              | (refine mix_skip 25 rfl (by kernel_rfl) (by kernel_rfl) (by kernel_rfl) (by rfl) (by assumption) (fun _ _ _ h => h) ?_)
              | (refine mix_pure 25 (v := ?_) rfl (by kernel_rfl) (by kernel_rfl) (by kernel_rfl) (by rfl) (by assumption) (fun _ _ _ h => h) ?_ ?_; rotate_left; · (intro wS hSw; (try dsimp only at hSw); go_simp; try with_reducible rfl))
            simp only [Act.put, List.setIfInBounds_toArray, List.set_cons_zero, List.set_cons_succ]
            first
              | (refine mix_skip 26 rfl (by kernel_rfl) (by kernel_rfl) (by kernel_rfl) (by rfl) (by assumption) (fun _ _ _ h => h) ?_)
              | (refine mix_pure 26 (v := ?_) rfl (by kernel_rfl) (by kernel_rfl) (by kernel_rfl) (by rfl) (by assumption) (fun _ _ _ h => h) ?_ ?_; rotate_left; · (intro wS hSw; (try dsimp only at hSw); go_simp; try with_reducible rfl))
            simp only [Act.put, List.setIfInBounds_toArray, List.set_cons_zero, List.set_cons_succ]
            first
              | (refine mix_skip 27 rfl (by kernel_rfl) (by kernel_rfl) (by kernel_rfl) (by rfl) (by assumption) (fun _ _ _ h => h) ?_)
              | (refine mix_pure 27 (v := ?_) rfl (by kernel_rfl) (by kernel_rfl) (by kernel_rfl) (by rfl) (by assumption) (fun _ _ _ h => h) ?_ ?_; rotate_left; · (intro wS hSw; (try dsimp only at hSw); go_simp; try with_reducible rfl))
            simp only [Act.put, List.setIfInBounds_toArray, List.set_cons_zero, List.set_cons_succ]
            first
              | (refine mix_skip 28 rfl (by kernel_rfl) (by kernel_rfl) (by kernel_rfl) (by rfl) (by assumption) (fun _ _ _ h => h) ?_)
              | (refine mix_pure 28 (v := ?_) rfl (by kernel_rfl) (by kernel_rfl) (by kernel_rfl) (by rfl) (by assumption) (fun _ _ _ h => h) ?_ ?_; rotate_left; · (intro wS hSw; (try dsimp only at hSw); go_simp; try with_reducible rfl))
            simp only [Act.put, List.setIfInBounds_toArray, List.set_cons_zero, List.set_cons_succ]
            refine wpAnyH_done (by kernel_rfl) ?_ _
            have hf5 := hf4.drewN k5
            clear hHeld hHeld0 hHeld1
            go_wp2_with fail
            go_roundw
            case rel => exact ⟨j + 1, b', c', by omega, by go_num, rfl, hlb', hts2.fr hf5 id, hwb2.fr hf5 id, hfr2.trans hf5 (fun i hi hb => hb.elim)⟩
            case measure => simp [intOf]; omega
        · have hout : xi < 0 ∨ (0 ≤ xi ∧ 8 ≤ xi) := by omega
          have hd8 : 8 ≤ xi → decide (xi < 8) = false := fun h => by simp; omega
          rcases hout with hx1 | ⟨hx0, hx1⟩
          all_goals
            go_upto_block 2 with fail
            go_cut [3] (fun s3 wc => ∃ (b' : Nat) (c' : List Int), s3 = .pointer (some ⟨b', 0, none⟩) ∧ w.heap.size ≤ b' ∧ TS wc b' c' ∧ Blk wc bw 35 (w8 c') ∧ Blk wc wr.heap.size 27 #[.int .i64 xk, .int .i64 xi, .int .i64 xn] ∧ Fr nob w wc)
            case first =>
              obtain ⟨c0, c1, c2, c3, c4, c5, c6, c7, hc⟩ := eight hts'.1
              have hW1 := hwb'
              rw [hc, w8_lit] at hW1
              have hWc := hW1.cell
              have hWf := hW1.frozen
              have hoc := hob.cell
              have hzw : bw < wr.heap.size + 1 := by have := hwb'.lt; simpa using this
              have HW1 := Lib.hid hW1
              have HC := Lib.hid hc
              clear hW1 hc
              by_cases hk0 : xk = 0
              · have hkb : (xk == 0) = true := by rw [hk0]; rfl
                have HK := Lib.hid hk0
                clear hk0
                rcases addErr_or xi xn with he | he
                all_goals
                  go_wp2_with fail
                  refine (ref08_add c0 c1 c2 c3 c4 c5 c6 c7 xi xn _ (by rw [← HC.out]; exact hts'.2.1)).mono ?_
                  rintro e w2 ⟨rfl, hf2⟩
                  obtain ⟨d0, d1, d2, d3, d4, d5, d6, d7, hd⟩ := eight (addTo_len (c := [c0, c1, c2, c3, c4, c5, c6, c7]) rfl xi xn)
                  rw [hd, w8_lit, he]
                  have HD := Lib.hid hd
                  have hWc2 := (HW1.out.fr hf2 id).cell
                  have hWf2 := (HW1.out.fr hf2 id).frozen
                  have hoc2 := (hob.fr hf2 id).cell
                  have hz1 : bw < w2.heap.size := (HW1.out.fr hf2 id).lt
                  have hz2 : wr.heap.size < w2.heap.size := (hob.fr hf2 id).lt
                  clear hWc hWf hoc hd
                  have hX : ∀ X, Fr (· = bw) w2 X → TS X b c ∧ Blk X wr.heap.size 27 #[.int .i64 xk, .int .i64 xi, .int .i64 xn] ∧ (Fr (· = bw) (wr.alloc (.cells #[.int .i64 xk, .int .i64 xi, .int .i64 xn] 27)) X) := fun X h => ⟨hts'.fr ((hf2.of_nob (S := (· = bw))).trans h (fun i _ h => h)) hbbw, hob.fr ((hf2.of_nob (S := (· = bw))).trans h (fun i _ h => h)) hnew, (hf2.of_nob (S := (· = bw))).trans h (fun i _ h => h)⟩
                  have HX := Lib.hid hX
                  clear hX
                  go_wp2_with fail
                  have HR := HX.out _ (((Fr.refl (· = bw) w2).set8 rfl (.int .u16 d0) (.int .u16 d1) (.int .u16 d2) (.int .u16 d3) (.int .u16 d4) (.int .u16 d5) (.int .u16 d6) (.int .u16 d7)).alloc (.cells #[.int .u16 d0, .int .u16 d1, .int .u16 d2, .int .u16 d3, .int .u16 d4, .int .u16 d5, .int .u16 d6, .int .u16 d7] 35))
                  refine (tally_add b c _ _ _ HR.1).mono ?_
                  rintro e w3 ⟨rfl, hts3, hf3⟩
                  have hB3 := (((HW1.out.fr hf2 id).set8 (.int .u16 d0) (.int .u16 d1) (.int .u16 d2) (.int .u16 d3) (.int .u16 d4) (.int .u16 d5) (.int .u16 d6) (.int .u16 d7)).alloc _).fr hf3 (Ne.symm hbbw)
                  have hob3 := HR.2.1.fr hf3 hneo
                  have HF := Lib.hid ((hfr'.trans HR.2.2 (fun i hi hb => by omega)).trans hf3 (fun i hi hb => by omega))
                  clear hWc2 hWf2 hoc2 HR
                  rw [he]
                  go_wp2_with fail
                  go_meet
                  refine ⟨b, _, rfl, hlb, hts3, ?_, hob3, HF.out⟩
                  rw [HC.out, HD.out, w8_lit]
                  exact hB3
              · have hkb : (xk == 0) = false := by rw [beq_eq_false_iff_ne]; exact hk0
                by_cases hk1 : xk = 1
                · have hkb1 : (xk == 1) = true := by rw [hk1]; rfl
                  have HK := Lib.hid hk1
                  clear hk1 hk0
                  go_wp2_with fail
                  refine (tally_drop b c _ _ hts').mono ?_
                  rintro e w3 ⟨rfl, hts3, hf3⟩
                  rw [show dropErr xi = 11 from by unfold dropErr; rw [if_neg (by omega)]]
                  go_wp2_with fail
                  go_meet
                  refine ⟨b, _, rfl, hlb, hts3, ?_, hob.fr hf3 hneo, hfr'.trans hf3 (fun i hi hb => by omega)⟩
                  rw [show dropOf c xi = c from by unfold dropOf; rw [if_neg (by omega)]]
                  exact hwb'.fr hf3 (Ne.symm hbbw)
                · have hkb1 : (xk == 1) = false := by rw [beq_eq_false_iff_ne]; exact hk1
                  by_cases hk2 : xk = 2
                  · have hkb2 : (xk == 2) = true := by rw [hk2]; rfl
                    have HK := Lib.hid hk2
                    clear hk2 hk1 hk0 hWc hWf hoc
                    go_wp2_with fail
                    refine (tally_clear b c _ hts').mono ?_
                    rintro e w3 ⟨rfl, hts3, hf3⟩
                    have hB3 := HW1.out.fr hf3 (Ne.symm hbbw)
                    have hWc3 := hB3.cell
                    have hWf3 := hB3.frozen
                    have HB3 := Lib.hid hB3
                    clear hB3
                    have hob3 := Lib.hid (hob.fr hf3 hneo)
                    have HF := Lib.hid (hfr'.trans hf3 (fun i hi hb => by omega))
                    have HT := Lib.hid hts3
                    clear hts3
                    go_wp2_with fail
                    go_meet
                    have hS := (Fr.refl (· = bw) w3).set8 rfl (.int .u16 0) (.int .u16 0) (.int .u16 0) (.int .u16 0) (.int .u16 0) (.int .u16 0) (.int .u16 0) (.int .u16 0)
                    exact ⟨b, _, rfl, hlb, HT.out.fr hS hbbw, HB3.out.set8 (.int .u16 0) (.int .u16 0) (.int .u16 0) (.int .u16 0) (.int .u16 0) (.int .u16 0) (.int .u16 0) (.int .u16 0), hob3.out.fr hS hnew, HF.out.trans hS (fun i hi hb => by omega)⟩
                  · have hkb2 : (xk == 2) = false := by rw [beq_eq_false_iff_ne]; exact hk2
                    clear hk2 hk1 hk0 hWc hWf hoc
                    go_wp2_with fail
                    refine (tally_clone b c _ hts').mono ?_
                    rintro e w3 ⟨rfl, hts3, hf3⟩
                    obtain ⟨b3, hb3⟩ : ∃ b3, b3 = (wr.alloc (.cells #[.int .i64 xk, .int .i64 xi, .int .i64 xn] 27)).heap.size := ⟨_, rfl⟩
                    rw [← hb3] at hts3
                    rw [← hb3]
                    have hb3' : b < b3 := by rw [hb3]; exact hts'.lt
                    have hb3w : w.heap.size ≤ b3 := by rw [hb3]; exact hfr'.size
                    have HB3 := Lib.hid hb3
                    clear hb3
                    go_wp2_with fail
                    refine (tally_add b c _ _ _ (hts'.fr hf3 id)).mono ?_
                    rintro e w4 ⟨rfl, hts4, hf4⟩
                    go_wp2_with fail
                    go_meet
                    exact ⟨b3, c, rfl, hb3w, hts3.fr hf4 (by omega), (hwb'.fr hf3 id).fr hf4 (Ne.symm hbbw), (hob.fr hf3 id).fr hf4 hneo, (hfr'.trans hf3 (fun i hi hb => hb.elim)).trans hf4 (fun i hi hb => by omega)⟩
            case rest =>
              obtain ⟨b', c', rfl, hlb', hts2, hwb2, hob2, hfr2⟩ := hcut
              have hoc := hob2.cell
              go_wp2_with fail
              refine (tally_get_no b' c' _ _ hts2 (by omega)).mono ?_
              rintro e w3 ⟨rfl, rfl⟩
              go_wp2_with fail
              have gAll : ∀ W, Fr nob wc W → Calls Try.prog 17 #[.pointer (some ⟨b', 0, none⟩)] W fun e w' => ∃ A cp, e = .returned (.slice A 8 cp) ∧ Rd w' 1 A 8 (nums .u16 c') ∧ Fr nob wc w' := fun W h =>
                (tally_all b' c' W (hts2.fr h id)).mono fun e w' ⟨A, cp, he, hv⟩ => ⟨A, cp, he, hv.rd, h.trans hv.2 (fun i hi hb => hb.elim)⟩
              have GA := Lib.hid gAll
              clear gAll
              have gW : ∀ W A cp, Rd W 1 A 8 (nums .u16 c') → Fr nob wc W → Calls Try.prog 16 #[.slice A 8 cp, .slice (some ⟨bw, 0, none⟩) 8 8] W fun e w' => e = .returned (.bool true) ∧ ∃ k, w' = W.drewN k := fun W A cp h h' =>
                (words_any _ _ _ _ _ _ c' c' W h (Rd.of_blk (hwb2.fr h' id) (by rw [nums_len, hts2.1]) (fun j u hu => by simpa [w8] using hu)) (by omega) (by omega)).mono fun e w' ⟨he, hw⟩ => ⟨by rw [he]; unfold sameInts; simp, hw⟩
              have GW := Lib.hid gW
              clear gW
              have hcl : ∀ W, Fr nob wc W → W.cell? ⟨wr.heap.size, 1, none⟩ = some (.int .i64 xi) := fun W h => (hob2.fr h id).cell 1
              have HL := Lib.hid hcl
              clear hcl hoc
              clear hts' hwb' hfr' hob
              refine wp_region_held_drew (S := fun w' => w'.cell? ⟨wr.heap.size, 1, none⟩ = some (.int .i64 xi)) (by kernel_rfl) (HL.out _ ((Fr.refl _ _).drew)) (fun hHeld => ?_)
              first
                | (refine mix_skip 0 rfl (by kernel_rfl) (by kernel_rfl) (by kernel_rfl) (by rfl) (by assumption) (fun _ _ _ h => h) ?_)
                | (refine mix_pure 0 (v := ?_) rfl (by kernel_rfl) (by kernel_rfl) (by kernel_rfl) (by rfl) (by assumption) (fun _ _ _ h => h) ?_ ?_; rotate_left; · (intro wS hSw; (try dsimp only at hSw); go_simp; try with_reducible rfl))
              simp only [Act.put, List.setIfInBounds_toArray, List.set_cons_zero, List.set_cons_succ]
              first
                | (refine mix_skip 2 rfl (by kernel_rfl) (by kernel_rfl) (by kernel_rfl) (by rfl) (by assumption) (fun _ _ _ h => h) ?_)
                | (refine mix_pure 2 (v := ?_) rfl (by kernel_rfl) (by kernel_rfl) (by kernel_rfl) (by rfl) (by assumption) (fun _ _ _ h => h) ?_ ?_; rotate_left; · (intro wS hSw; (try dsimp only at hSw); go_simp; try with_reducible rfl))
              simp only [Act.put, List.setIfInBounds_toArray, List.set_cons_zero, List.set_cons_succ]
              refine mix_one 1 rfl (by kernel_rfl) (fun K hK => ?_)
              go_simp
              refine (GA.out _ ((Fr.refl _ _).drew)).mono ?_
              rintro e w4 ⟨A4, cp4, rfl, hr4, hf4⟩
              refine hK.out _ _ (HL.out w4 hf4) (fun hHeld0 => ?_)
              clear hK K
              try simp only [Act.put, List.setIfInBounds_toArray, List.set_cons_zero, List.set_cons_succ]
              refine mix_one 3 rfl (by kernel_rfl) (fun K hK => ?_)
              go_simp
              refine (GW.out _ _ _ hr4 hf4).mono ?_
              rintro e w5 ⟨rfl, k5, rfl⟩
              refine hK.out _ _ (hHeld0) (fun hHeld1 => ?_)
              clear hK K
              try simp only [Act.put, List.setIfInBounds_toArray, List.set_cons_zero, List.set_cons_succ]
              first
                | (refine mix_skip 4 rfl (by kernel_rfl) (by kernel_rfl) (by kernel_rfl) (by rfl) (by assumption) (fun _ _ _ h => h) ?_)
                | (refine mix_pure 4 (v := ?_) rfl (by kernel_rfl) (by kernel_rfl) (by kernel_rfl) (by rfl) (by assumption) (fun _ _ _ h => h) ?_ ?_; rotate_left; · (intro wS hSw; (try dsimp only at hSw); go_simp; try with_reducible rfl))
              simp only [Act.put, List.setIfInBounds_toArray, List.set_cons_zero, List.set_cons_succ]
              first
                | (refine mix_skip 5 rfl (by kernel_rfl) (by kernel_rfl) (by kernel_rfl) (by rfl) (by assumption) (fun _ _ _ h => h) ?_)
                | (refine mix_pure 5 (v := ?_) rfl (by kernel_rfl) (by kernel_rfl) (by kernel_rfl) (by rfl) (by assumption) (fun _ _ _ h => h) ?_ ?_; rotate_left; · (intro wS hSw; (try dsimp only at hSw); go_simp; try with_reducible rfl))
              simp only [Act.put, List.setIfInBounds_toArray, List.set_cons_zero, List.set_cons_succ]
              first
                | (refine mix_skip 6 rfl (by kernel_rfl) (by kernel_rfl) (by kernel_rfl) (by rfl) (by assumption) (fun _ _ _ h => h) ?_)
                | (refine mix_pure 6 (v := ?_) rfl (by kernel_rfl) (by kernel_rfl) (by kernel_rfl) (by rfl) (by assumption) (fun _ _ _ h => h) ?_ ?_; rotate_left; · (intro wS hSw; (try dsimp only at hSw); go_simp; try with_reducible rfl))
              simp only [Act.put, List.setIfInBounds_toArray, List.set_cons_zero, List.set_cons_succ]
              first
                | (refine mix_skip 7 rfl (by kernel_rfl) (by kernel_rfl) (by kernel_rfl) (by rfl) (by assumption) (fun _ _ _ h => h) ?_)
                | (refine mix_pure 7 (v := ?_) rfl (by kernel_rfl) (by kernel_rfl) (by kernel_rfl) (by rfl) (by assumption) (fun _ _ _ h => h) ?_ ?_; rotate_left; · (intro wS hSw; (try dsimp only at hSw); go_simp; try with_reducible rfl))
              simp only [Act.put, List.setIfInBounds_toArray, List.set_cons_zero, List.set_cons_succ]
              first
                | (refine mix_skip 8 rfl (by kernel_rfl) (by kernel_rfl) (by kernel_rfl) (by rfl) (by assumption) (fun _ _ _ h => h) ?_)
                | (refine mix_pure 8 (v := ?_) rfl (by kernel_rfl) (by kernel_rfl) (by kernel_rfl) (by rfl) (by assumption) (fun _ _ _ h => h) ?_ ?_; rotate_left; · (intro wS hSw; (try dsimp only at hSw); go_simp; try with_reducible rfl))
              simp only [Act.put, List.setIfInBounds_toArray, List.set_cons_zero, List.set_cons_succ]
              first
                | (refine mix_skip 9 rfl (by kernel_rfl) (by kernel_rfl) (by kernel_rfl) (by rfl) (by assumption) (fun _ _ _ h => h) ?_)
                | (refine mix_pure 9 (v := ?_) rfl (by kernel_rfl) (by kernel_rfl) (by kernel_rfl) (by rfl) (by assumption) (fun _ _ _ h => h) ?_ ?_; rotate_left; · (intro wS hSw; (try dsimp only at hSw); go_simp; try with_reducible rfl))
              simp only [Act.put, List.setIfInBounds_toArray, List.set_cons_zero, List.set_cons_succ]
              first
                | (refine mix_skip 10 rfl (by kernel_rfl) (by kernel_rfl) (by kernel_rfl) (by rfl) (by assumption) (fun _ _ _ h => h) ?_)
                | (refine mix_pure 10 (v := ?_) rfl (by kernel_rfl) (by kernel_rfl) (by kernel_rfl) (by rfl) (by assumption) (fun _ _ _ h => h) ?_ ?_; rotate_left; · (intro wS hSw; (try dsimp only at hSw); go_simp; try with_reducible rfl))
              simp only [Act.put, List.setIfInBounds_toArray, List.set_cons_zero, List.set_cons_succ]
              first
                | (refine mix_skip 11 rfl (by kernel_rfl) (by kernel_rfl) (by kernel_rfl) (by rfl) (by assumption) (fun _ _ _ h => h) ?_)
                | (refine mix_pure 11 (v := ?_) rfl (by kernel_rfl) (by kernel_rfl) (by kernel_rfl) (by rfl) (by assumption) (fun _ _ _ h => h) ?_ ?_; rotate_left; · (intro wS hSw; (try dsimp only at hSw); go_simp; try with_reducible rfl))
              simp only [Act.put, List.setIfInBounds_toArray, List.set_cons_zero, List.set_cons_succ]
              first
                | (refine mix_skip 12 rfl (by kernel_rfl) (by kernel_rfl) (by kernel_rfl) (by rfl) (by assumption) (fun _ _ _ h => h) ?_)
                | (refine mix_pure 12 (v := ?_) rfl (by kernel_rfl) (by kernel_rfl) (by kernel_rfl) (by rfl) (by assumption) (fun _ _ _ h => h) ?_ ?_; rotate_left; · (intro wS hSw; (try dsimp only at hSw); go_simp; try with_reducible rfl))
              simp only [Act.put, List.setIfInBounds_toArray, List.set_cons_zero, List.set_cons_succ]
              first
                | (refine mix_skip 13 rfl (by kernel_rfl) (by kernel_rfl) (by kernel_rfl) (by rfl) (by assumption) (fun _ _ _ h => h) ?_)
                | (refine mix_pure 13 (v := ?_) rfl (by kernel_rfl) (by kernel_rfl) (by kernel_rfl) (by rfl) (by assumption) (fun _ _ _ h => h) ?_ ?_; rotate_left; · (intro wS hSw; (try dsimp only at hSw); go_simp; try with_reducible rfl))
              simp only [Act.put, List.setIfInBounds_toArray, List.set_cons_zero, List.set_cons_succ]
              first
                | (refine mix_skip 14 rfl (by kernel_rfl) (by kernel_rfl) (by kernel_rfl) (by rfl) (by assumption) (fun _ _ _ h => h) ?_)
                | (refine mix_pure 14 (v := ?_) rfl (by kernel_rfl) (by kernel_rfl) (by kernel_rfl) (by rfl) (by assumption) (fun _ _ _ h => h) ?_ ?_; rotate_left; · (intro wS hSw; (try dsimp only at hSw); go_simp; try with_reducible rfl))
              simp only [Act.put, List.setIfInBounds_toArray, List.set_cons_zero, List.set_cons_succ]
              first
                | (refine mix_skip 15 rfl (by kernel_rfl) (by kernel_rfl) (by kernel_rfl) (by rfl) (by assumption) (fun _ _ _ h => h) ?_)
                | (refine mix_pure 15 (v := ?_) rfl (by kernel_rfl) (by kernel_rfl) (by kernel_rfl) (by rfl) (by assumption) (fun _ _ _ h => h) ?_ ?_; rotate_left; · (intro wS hSw; (try dsimp only at hSw); go_simp; try with_reducible rfl))
              simp only [Act.put, List.setIfInBounds_toArray, List.set_cons_zero, List.set_cons_succ]
              first
                | (refine mix_skip 16 rfl (by kernel_rfl) (by kernel_rfl) (by kernel_rfl) (by rfl) (by assumption) (fun _ _ _ h => h) ?_)
                | (refine mix_pure 16 (v := ?_) rfl (by kernel_rfl) (by kernel_rfl) (by kernel_rfl) (by rfl) (by assumption) (fun _ _ _ h => h) ?_ ?_; rotate_left; · (intro wS hSw; (try dsimp only at hSw); go_simp; try with_reducible rfl))
              simp only [Act.put, List.setIfInBounds_toArray, List.set_cons_zero, List.set_cons_succ]
              first
                | (refine mix_skip 17 rfl (by kernel_rfl) (by kernel_rfl) (by kernel_rfl) (by rfl) (by assumption) (fun _ _ _ h => h) ?_)
                | (refine mix_pure 17 (v := ?_) rfl (by kernel_rfl) (by kernel_rfl) (by kernel_rfl) (by rfl) (by assumption) (fun _ _ _ h => h) ?_ ?_; rotate_left; · (intro wS hSw; (try dsimp only at hSw); go_simp; try with_reducible rfl))
              simp only [Act.put, List.setIfInBounds_toArray, List.set_cons_zero, List.set_cons_succ]
              first
                | (refine mix_skip 18 rfl (by kernel_rfl) (by kernel_rfl) (by kernel_rfl) (by rfl) (by assumption) (fun _ _ _ h => h) ?_)
                | (refine mix_pure 18 (v := ?_) rfl (by kernel_rfl) (by kernel_rfl) (by kernel_rfl) (by rfl) (by assumption) (fun _ _ _ h => h) ?_ ?_; rotate_left; · (intro wS hSw; (try dsimp only at hSw); go_simp; try with_reducible rfl))
              simp only [Act.put, List.setIfInBounds_toArray, List.set_cons_zero, List.set_cons_succ]
              first
                | (refine mix_skip 19 rfl (by kernel_rfl) (by kernel_rfl) (by kernel_rfl) (by rfl) (by assumption) (fun _ _ _ h => h) ?_)
                | (refine mix_pure 19 (v := ?_) rfl (by kernel_rfl) (by kernel_rfl) (by kernel_rfl) (by rfl) (by assumption) (fun _ _ _ h => h) ?_ ?_; rotate_left; · (intro wS hSw; (try dsimp only at hSw); go_simp; try with_reducible rfl))
              simp only [Act.put, List.setIfInBounds_toArray, List.set_cons_zero, List.set_cons_succ]
              first
                | (refine mix_skip 20 rfl (by kernel_rfl) (by kernel_rfl) (by kernel_rfl) (by rfl) (by assumption) (fun _ _ _ h => h) ?_)
                | (refine mix_pure 20 (v := ?_) rfl (by kernel_rfl) (by kernel_rfl) (by kernel_rfl) (by rfl) (by assumption) (fun _ _ _ h => h) ?_ ?_; rotate_left; · (intro wS hSw; (try dsimp only at hSw); go_simp; try with_reducible rfl))
              simp only [Act.put, List.setIfInBounds_toArray, List.set_cons_zero, List.set_cons_succ]
              first
                | (refine mix_skip 21 rfl (by kernel_rfl) (by kernel_rfl) (by kernel_rfl) (by rfl) (by assumption) (fun _ _ _ h => h) ?_)
                | (refine mix_pure 21 (v := ?_) rfl (by kernel_rfl) (by kernel_rfl) (by kernel_rfl) (by rfl) (by assumption) (fun _ _ _ h => h) ?_ ?_; rotate_left; · (intro wS hSw; (try dsimp only at hSw); go_simp; try with_reducible rfl))
              simp only [Act.put, List.setIfInBounds_toArray, List.set_cons_zero, List.set_cons_succ]
              first
                | (refine mix_skip 22 rfl (by kernel_rfl) (by kernel_rfl) (by kernel_rfl) (by rfl) (by assumption) (fun _ _ _ h => h) ?_)
                | (refine mix_pure 22 (v := ?_) rfl (by kernel_rfl) (by kernel_rfl) (by kernel_rfl) (by rfl) (by assumption) (fun _ _ _ h => h) ?_ ?_; rotate_left; · (intro wS hSw; (try dsimp only at hSw); go_simp; try with_reducible rfl))
              simp only [Act.put, List.setIfInBounds_toArray, List.set_cons_zero, List.set_cons_succ]
              first
                | (refine mix_skip 23 rfl (by kernel_rfl) (by kernel_rfl) (by kernel_rfl) (by rfl) (by assumption) (fun _ _ _ h => h) ?_)
                | (refine mix_pure 23 (v := ?_) rfl (by kernel_rfl) (by kernel_rfl) (by kernel_rfl) (by rfl) (by assumption) (fun _ _ _ h => h) ?_ ?_; rotate_left; · (intro wS hSw; (try dsimp only at hSw); go_simp; try with_reducible rfl))
              simp only [Act.put, List.setIfInBounds_toArray, List.set_cons_zero, List.set_cons_succ]
              first
                | (refine mix_skip 24 rfl (by kernel_rfl) (by kernel_rfl) (by kernel_rfl) (by rfl) (by assumption) (fun _ _ _ h => h) ?_)
                | (refine mix_pure 24 (v := ?_) rfl (by kernel_rfl) (by kernel_rfl) (by kernel_rfl) (by rfl) (by assumption) (fun _ _ _ h => h) ?_ ?_; rotate_left; · (intro wS hSw; (try dsimp only at hSw); go_simp; try with_reducible rfl))
              simp only [Act.put, List.setIfInBounds_toArray, List.set_cons_zero, List.set_cons_succ]
              first
                | (refine mix_skip 25 rfl (by kernel_rfl) (by kernel_rfl) (by kernel_rfl) (by rfl) (by assumption) (fun _ _ _ h => h) ?_)
                | (refine mix_pure 25 (v := ?_) rfl (by kernel_rfl) (by kernel_rfl) (by kernel_rfl) (by rfl) (by assumption) (fun _ _ _ h => h) ?_ ?_; rotate_left; · (intro wS hSw; (try dsimp only at hSw); go_simp; try with_reducible rfl))
              simp only [Act.put, List.setIfInBounds_toArray, List.set_cons_zero, List.set_cons_succ]
              first
                | (refine mix_skip 26 rfl (by kernel_rfl) (by kernel_rfl) (by kernel_rfl) (by rfl) (by assumption) (fun _ _ _ h => h) ?_)
                | (refine mix_pure 26 (v := ?_) rfl (by kernel_rfl) (by kernel_rfl) (by kernel_rfl) (by rfl) (by assumption) (fun _ _ _ h => h) ?_ ?_; rotate_left; · (intro wS hSw; (try dsimp only at hSw); go_simp; try with_reducible rfl))
              simp only [Act.put, List.setIfInBounds_toArray, List.set_cons_zero, List.set_cons_succ]
              first
                | (refine mix_skip 27 rfl (by kernel_rfl) (by kernel_rfl) (by kernel_rfl) (by rfl) (by assumption) (fun _ _ _ h => h) ?_)
                | (refine mix_pure 27 (v := ?_) rfl (by kernel_rfl) (by kernel_rfl) (by kernel_rfl) (by rfl) (by assumption) (fun _ _ _ h => h) ?_ ?_; rotate_left; · (intro wS hSw; (try dsimp only at hSw); go_simp; try with_reducible rfl))
              simp only [Act.put, List.setIfInBounds_toArray, List.set_cons_zero, List.set_cons_succ]
              first
                | (refine mix_skip 28 rfl (by kernel_rfl) (by kernel_rfl) (by kernel_rfl) (by rfl) (by assumption) (fun _ _ _ h => h) ?_)
                | (refine mix_pure 28 (v := ?_) rfl (by kernel_rfl) (by kernel_rfl) (by kernel_rfl) (by rfl) (by assumption) (fun _ _ _ h => h) ?_ ?_; rotate_left; · (intro wS hSw; (try dsimp only at hSw); go_simp; try with_reducible rfl))
              simp only [Act.put, List.setIfInBounds_toArray, List.set_cons_zero, List.set_cons_succ]
              refine wpAnyH_done (by kernel_rfl) ?_ _
              have hf5 := hf4.drewN k5
              clear hHeld hHeld0 hHeld1
              go_wp2_with fail
              go_roundw
              case rel => exact ⟨j + 1, b', c', by omega, by go_num, rfl, hlb', hts2.fr hf5 id, hwb2.fr hf5 id, hfr2.trans hf5 (fun i hi hb => hb.elim)⟩
              case measure => simp [intOf]; omega
      · have hb300 := hts.lt
        go_wp2_with fail
        refine (tally_sure _).mono ?_
        rintro e w4 ⟨rfl, hf4⟩
        go_wp2_with fail
        go_ret
        exact ⟨rfl, hfr.trans hf4 (fun i hi hb => hb.elim)⟩
end Go.Proofs.Ytmpjdploacfmeaa
