/- Layer 18's law DiagDoes, walked. -/
import Derived.Test.YtmpjdploacfmeabDiag9
import Derived.Deep.DeepCutAuto
import Derived.Deep.CutBlock
namespace Go.Proofs.Ytmpjdploacfmeab
set_option linter.unusedSimpArgs false
set_option linter.unusedVariables false
open Go.RowKit

/-- A call of the law's: its kind, a number, bytes as they lie. -/
structure OpD where
  k : Int
  n : Int
  A : Option Addr
  m : Nat
  c : Nat
  d : List Int
def OpD.cs (x : OpD) : List Value := [.int .i64 x.k, .int .i64 x.n, .slice x.A x.m x.c]
def OpD.ok (w : World) (x : OpD) : Prop := Rd w 1 x.A x.m (nums .u8 x.d) ∧ bytes8 x.d ∧ x.m ≤ x.c ∧ x.c ≤ 9223372036854775807 ∧ (-9223372036854775808 ≤ x.n ∧ x.n ≤ 9223372036854775807)
theorem Rd.opd {w : World} {A : Option Addr} {n : Nat} {L : List OpD} (h : Rd w 3 A n (L.flatMap OpD.cs)) {k : Nat} (hk : k < n) :
    ∃ b o x, A = some ⟨b, o, none⟩ ∧ b < w.heap.size ∧ x ∈ L ∧ w.cell? ⟨b, o + k * 3, none⟩ = some (.int .i64 x.k) ∧ w.cell? ⟨b, o + k * 3 + 1, none⟩ = some (.int .i64 x.n) ∧ w.cell? ⟨b, o + k * 3 + 2, none⟩ = some (.slice x.A x.m x.c) := by
  obtain ⟨b, o, x, e, hb, hx, hc⟩ := h.row (size := 3) (fun _ => rfl) (by decide) hk
  exact ⟨b, o, x, e, hb, List.mem_of_getElem? hx, hc 0 _ rfl, hc 1 _ rfl, hc 2 _ rfl⟩
theorem stC_set (s : Dg) (h : s.c.length = 8) (i : Nat) (hi : i < 8) (x : Int) : (stC s).setIfInBounds i (.int .u16 x) = stC { s with c := s.c.set i x } := by
  simp only [stC, List.setIfInBounds_toArray, nums, List.map_set]
  rw [List.set_append_left _ _ (by simp; omega)]
theorem stC_at (s : Dg) (h : s.c.length = 8) (i : Nat) (hi : i < 8) : (stC s)[i]? = some (.int .u16 (s.c.getD i 0)) := by
  rw [stC, List.getElem?_toArray, List.getElem?_append_left (by rw [nums_len]; omega)]
  exact nums_at .u16 s.c i (by omega)
theorem DgS.len {w : World} {b tb : Nat} {s : Dg} (h : DgS w b tb s) : s.c.length = 8 := h.2.1.1

set_option maxHeartbeats 8000000 in
set_option maxRecDepth 100000 in
theorem diagDoes_any (A : Option Addr) (n cp : Nat) (L : List OpD) (w : World) (hl : Rd w 3 A n (L.flatMap OpD.cs)) (hok : ∀ x ∈ L, x.ok w) (hn : n ≤ 9223372036854775807) :
    Calls Try.prog 4 #[.slice A n cp] w fun e w' => e = .returned (.bool true) ∧ Fr nob w w' := by
  by_cases h120 : 120 < n
  · go_enter Try.func4, Try.ntmps4
    go_wp2_with (go_at_call 5; refine (diag_sure _).mono ?_; rintro e w' ⟨rfl, hf⟩)
    go_ret
    exact ⟨rfl, hf⟩
  · go_enter Try.func4, Try.ntmps4
    go_wp2_with fail
    refine (diag_new _).mono ?_
    rintro e w1 ⟨b, tb, rfl, hds, hf0, hlb, hlt⟩
    go_wp2_with fail
    refine (ref18_new _).mono ?_
    rintro e w2 ⟨rfl, hf2⟩
    rw [stV, st0, eight0, stC_lit]
    have hds2 : DgS w2 b tb ⟨[0, 0, 0, 0, 0, 0, 0, 0], 0, false, 10⟩ := DS.nob hds hf2
    have hf3 := hf0.trans hf2 (fun _ _ h => h)
    have hw0 := Blk.new w2 43 #[.int .u16 0, .int .u16 0, .int .u16 0, .int .u16 0, .int .u16 0, .int .u16 0, .int .u16 0, .int .u16 0, .int .u16 0, .bool false, .int .u8 10]
    have hds3 := DS.nob hds2 ((Fr.refl nob w2).alloc (.cells #[.int .u16 0, .int .u16 0, .int .u16 0, .int .u16 0, .int .u16 0, .int .u16 0, .int .u16 0, .int .u16 0, .int .u16 0, .bool false, .int .u8 10] 43))
    have hf4 := hf3.alloc (.cells #[.int .u16 0, .int .u16 0, .int .u16 0, .int .u16 0, .int .u16 0, .int .u16 0, .int .u16 0, .int .u16 0, .int .u16 0, .bool false, .int .u8 10] 43)
    clear hds hf0 hf2 hds2
    go_wp2_with fail
    obtain ⟨bw, hbw⟩ : ∃ bw, bw = w2.heap.size := ⟨_, rfl⟩
    have hbwl : w.heap.size ≤ bw := by rw [hbw]; exact hf3.size
    rw [← hbw] at hw0
    rw [← hbw]
    clear hbw hf3
    go_loopw [3, 5] (fun s i wr => ∃ (j b tb : Nat) (sd : Dg), j ≤ n ∧ i = .int .i64 j ∧ s = .pointer (some ⟨b, 0, none⟩) ∧ w.heap.size ≤ b ∧ w.heap.size ≤ tb ∧ DgS wr b tb sd ∧ Blk wr bw 43 (stC sd) ∧ Fr nob w wr) (fun _ i _ => n - (intOf i).toNat)
    case atStart => exact ⟨0, b, tb, ⟨[0, 0, 0, 0, 0, 0, 0, 0], 0, false, 10⟩, by omega, rfl, rfl, hlb, hlt, hds3, hw0, hf4⟩
    case round =>
      clear hds3 hw0 hf4 hlb hlt
      obtain ⟨j, b, tb, sd, hj, rfl, rfl, hlb, hltb, hds, hwb, hfr⟩ := hrel
      have hbbw : b ≠ bw := Blk.ne_ hds.1 hwb (by decide)
      have htbw : tb ≠ bw := Blk.ne_ hds.2.1.2.2 hwb (by decide)
      by_cases hlt : j < n
      · obtain ⟨bl, o, x, rfl, hbl, hx, hc0, hc1, hc2⟩ := hl.opd hlt
        obtain ⟨xk, xi, xA, xm, xc, xd⟩ := x
        obtain ⟨hxr, hx8, hxm, hxc, hxn⟩ := hok _ hx
        dsimp only at hc0 hc1 hc2 hxr hx8 hxm hxc hxn
        have hj0 : (0 : Int) ≤ (j : Int) ∧ (j : Int) < (n : Int) := ⟨by omega, by omega⟩
        have hCL : ∀ V, Fr (fun i => w.heap.size ≤ i) w V → V.cell? ⟨bl, o + j * 3, none⟩ = some (.int .i64 xk) ∧ V.cell? ⟨bl, o + j * 3 + 1, none⟩ = some (.int .i64 xi) ∧ V.cell? ⟨bl, o + j * 3 + 2, none⟩ = some (.slice xA xm xc) := fun V h =>
          ⟨(h.cell (p := ⟨bl, _, none⟩) hbl (by simp; omega)).trans hc0, (h.cell (p := ⟨bl, _, none⟩) hbl (by simp; omega)).trans hc1, (h.cell (p := ⟨bl, _, none⟩) hbl (by simp; omega)).trans hc2⟩
        have HCL := Lib.hid hCL
        have hxb : ∀ ad, xA = some ad → 0 < xm → ad.block < w.heap.size := fun ad h hm0 => by
          obtain ⟨b', o', e', hb', _⟩ := hxr.2 hm0
          rw [h] at e'
          cases e'
          exact hb'
        have hRX : ∀ V, Fr nob w V → Rd V 1 xA xm (nums .u8 xd) := fun V h => hxr.nob h
        have HRX := Lib.hid hRX
        obtain ⟨q0, q1, q2⟩ := HCL.out wr hfr.of_nob
        clear hc0 hc1 hc2 hx hl hok hxr hCL hRX
        by_cases h600 : 600 < xm
        · go_wp2_with fail
          refine (diag_sure _).mono ?_
          rintro e w4 ⟨rfl, hf4⟩
          go_wp2_with fail
          go_ret
          exact ⟨rfl, hfr.trans hf4 (fun i hi hb => hb.elim)⟩
        · go_upto_block 2 with fail
          go_cut [3] (fun s3 wc => ∃ (b' tb' : Nat) (sd' : Dg), s3 = .pointer (some ⟨b', 0, none⟩) ∧ w.heap.size ≤ b' ∧ w.heap.size ≤ tb' ∧ DgS wc b' tb' sd' ∧ Blk wc bw 43 (stC sd') ∧ Fr nob w wc)
          case first =>
            obtain ⟨sc, r, ls, dl⟩ := sd
            obtain ⟨c0, c1, c2, c3, c4, c5, c6, c7, rfl⟩ := eight hds.len
            have hwb0 := hwb
            rw [stC_lit] at hwb
            have qw := hwb.cell
            have qf := hwb.frozen
            have hr0 := hds.2.2.1
            have hcs := hds.2.1.2.1
            dsimp only at hr0 hcs
            by_cases hk0 : xk = 0
            · have e0 : (xk == 0) = true := by rw [beq_iff_eq]; exact hk0
              clear hk0
              have hcl2 : ∀ V, Fr (fun i => w.heap.size ≤ i) wr V → V.cell? ⟨bl, o + j * 3 + 2, none⟩ = some (.slice xA xm xc) := fun V h => (HCL.out V (hfr.of_nob.trans h (fun _ _ h => h))).2.2
              have HC2 := Lib.hid hcl2
              clear hcl2
              go_wp2_with fail
              refine (diag_do b tb ⟨[c0, c1, c2, c3, c4, c5, c6, c7], r, ls, dl⟩ xA xm xc xd _ hds (HRX.out _ hfr) hx8 hxm hxc (by omega)).mono ?_
              rintro e w2 ⟨A2, k2, cp2, rfl, hr2, hk2, hc2, hn2, hds2, hf2⟩
              obtain ⟨y, hy⟩ : ∃ y, y = doS ⟨[c0, c1, c2, c3, c4, c5, c6, c7], r, ls, dl⟩ xd := ⟨_, rfl⟩
              rw [← hy] at hr2 hds2 ⊢
              have HY := Lib.hid hy
              clear hy
              obtain ⟨⟨yc, yr, yls, ydl⟩, yo, yw, ye⟩ := y
              dsimp only at hr2 hds2 ⊢
              obtain ⟨d0, d1, d2, d3, d4, d5, d6, d7, rfl⟩ := eight hds2.len
              have hfg2 : Fr (fun i => w.heap.size ≤ i) wr w2 := hf2.more (fun i hi => by omega)
              have hfw2 : Fr nob w w2 := hfr.newer hf2 (fun i hi => by omega)
              have hwb2 := hwb.fr hf2 (by omega)
              have hbl2 : bw < w2.heap.size := hwb2.lt
              have hlb2 : b < w2.heap.size := hds2.lt
              have hlt2 : tb < w2.heap.size := hds2.2.1.2.2.lt
              clear qw qf q0 q1 q2
              have q2 := HC2.out w2 hfg2
              have qw := hwb2.cell
              have qf := hwb2.frozen
              have hnA : ∀ ad, A2 = some ad → wr.heap.size ≤ ad.block := hn2
              have HNA := Lib.hid hnA
              clear hn2 hnA
              go_wp2_with fail
              have HS : Hid (∀ V, Fr nob w2 V → V.cell? ⟨bw, 0, none⟩ = some (.int .u16 c0) ∧ V.cell? ⟨bw, 1, none⟩ = some (.int .u16 c1) ∧ V.cell? ⟨bw, 2, none⟩ = some (.int .u16 c2) ∧ V.cell? ⟨bw, 3, none⟩ = some (.int .u16 c3) ∧ V.cell? ⟨bw, 4, none⟩ = some (.int .u16 c4) ∧ V.cell? ⟨bw, 5, none⟩ = some (.int .u16 c5) ∧ V.cell? ⟨bw, 6, none⟩ = some (.int .u16 c6) ∧ V.cell? ⟨bw, 7, none⟩ = some (.int .u16 c7) ∧ V.cell? ⟨bw, 8, none⟩ = some (.int .u16 r) ∧ V.cell? ⟨bw, 9, none⟩ = some (.bool ls) ∧ V.cell? ⟨bw, 10, none⟩ = some (.int .u8 dl) ∧ V.cell? ⟨bl, o + j * 3 + 2, none⟩ = some (.slice xA xm xc)) := Lib.hid (fun V h => ⟨(hwb2.fr h (fun h => h)).cell 0, (hwb2.fr h (fun h => h)).cell 1, (hwb2.fr h (fun h => h)).cell 2, (hwb2.fr h (fun h => h)).cell 3, (hwb2.fr h (fun h => h)).cell 4, (hwb2.fr h (fun h => h)).cell 5, (hwb2.fr h (fun h => h)).cell 6, (hwb2.fr h (fun h => h)).cell 7, (hwb2.fr h (fun h => h)).cell 8, (hwb2.fr h (fun h => h)).cell 9, (hwb2.fr h (fun h => h)).cell 10, HC2.out V (hfg2.trans h (fun _ _ h => h.elim))⟩)
              have hCall : Hid (∀ V, Fr nob w2 V → Calls Try.prog 17 #[.agg #[.int .u16 c0, .int .u16 c1, .int .u16 c2, .int .u16 c3, .int .u16 c4, .int .u16 c5, .int .u16 c6, .int .u16 c7, .int .u16 r, .bool ls, .int .u8 dl], .slice xA xm xc] V fun e w' => ∃ A k cp, e = .returned (.tuple #[.agg #[.int .u16 d0, .int .u16 d1, .int .u16 d2, .int .u16 d3, .int .u16 d4, .int .u16 d5, .int .u16 d6, .int .u16 d7, .int .u16 yr, .bool yls, .int .u8 ydl], .slice A k cp, .int .i64 yw, .int .i64 ye]) ∧ Rd w' 1 A k (nums .u8 yo) ∧ k ≤ cp ∧ cp ≤ 9223372036854775807 ∧ (∀ ad, A = some ad → V.heap.size ≤ ad.block) ∧ Fr nob V w') := Lib.hid (fun V h => by
                refine (ref18_do c0 c1 c2 c3 c4 c5 c6 c7 r dl ls xA xm xc xd V (HRX.out V (hfw2.trans h (fun _ _ h => h))) hx8 hxm hxc (by omega) hr0 hcs).mono ?_
                rintro e w3 ⟨A3, k3, cp3, he, hr3, hk3, hc3, hn3, hf3⟩
                rw [← HY.out] at he hr3
                exact ⟨A3, k3, cp3, he, hr3, hk3, hc3, hn3, hf3⟩)
              refine wp_region_held_drew (S := fun w' => w'.cell? ⟨bw, 0, none⟩ = some (.int .u16 c0) ∧ w'.cell? ⟨bw, 1, none⟩ = some (.int .u16 c1) ∧ w'.cell? ⟨bw, 2, none⟩ = some (.int .u16 c2) ∧ w'.cell? ⟨bw, 3, none⟩ = some (.int .u16 c3) ∧ w'.cell? ⟨bw, 4, none⟩ = some (.int .u16 c4) ∧ w'.cell? ⟨bw, 5, none⟩ = some (.int .u16 c5) ∧ w'.cell? ⟨bw, 6, none⟩ = some (.int .u16 c6) ∧ w'.cell? ⟨bw, 7, none⟩ = some (.int .u16 c7) ∧ w'.cell? ⟨bw, 8, none⟩ = some (.int .u16 r) ∧ w'.cell? ⟨bw, 9, none⟩ = some (.bool ls) ∧ w'.cell? ⟨bw, 10, none⟩ = some (.int .u8 dl) ∧ w'.cell? ⟨bl, o + j * 3 + 2, none⟩ = some (.slice xA xm xc)) (by kernel_rfl) (HS.out _ (Fr.refl nob w2).drew) (fun hHeld => ?_)
              first
                | (refine mix_skip 0 rfl (by kernel_rfl) (by kernel_rfl) (by kernel_rfl) (by rfl) (by assumption) (fun _ _ _ h => h) ?_)
                | (refine mix_pure 0 (v := ?_) rfl (by kernel_rfl) (by kernel_rfl) (by kernel_rfl) (by rfl) (by assumption) (fun _ _ _ h => h) ?_ ?_; rotate_left; · (intro wS hSw; (try dsimp only at hSw); go_simp; try with_reducible rfl))
              simp only [Act.put, List.setIfInBounds_toArray, List.set_cons_zero, List.set_cons_succ]
              first
                | (refine mix_skip 1 rfl (by kernel_rfl) (by kernel_rfl) (by kernel_rfl) (by rfl) (by assumption) (fun _ _ _ h => h) ?_)
                | (refine mix_pure 1 (v := ?_) rfl (by kernel_rfl) (by kernel_rfl) (by kernel_rfl) (by rfl) (by assumption) (fun _ _ _ h => h) ?_ ?_; rotate_left; · (intro wS hSw; (try dsimp only at hSw); go_simp; try with_reducible rfl))
              simp only [Act.put, List.setIfInBounds_toArray, List.set_cons_zero, List.set_cons_succ]
              first
                | (refine mix_skip 2 rfl (by kernel_rfl) (by kernel_rfl) (by kernel_rfl) (by rfl) (by assumption) (fun _ _ _ h => h) ?_)
                | (refine mix_pure 2 (v := ?_) rfl (by kernel_rfl) (by kernel_rfl) (by kernel_rfl) (by rfl) (by assumption) (fun _ _ _ h => h) ?_ ?_; rotate_left; · (intro wS hSw; (try dsimp only at hSw); go_simp; try with_reducible rfl))
              simp only [Act.put, List.setIfInBounds_toArray, List.set_cons_zero, List.set_cons_succ]
              first
                | (refine mix_skip 3 rfl (by kernel_rfl) (by kernel_rfl) (by kernel_rfl) (by rfl) (by assumption) (fun _ _ _ h => h) ?_)
                | (refine mix_pure 3 (v := ?_) rfl (by kernel_rfl) (by kernel_rfl) (by kernel_rfl) (by rfl) (by assumption) (fun _ _ _ h => h) ?_ ?_; rotate_left; · (intro wS hSw; (try dsimp only at hSw); go_simp; try with_reducible rfl))
              simp only [Act.put, List.setIfInBounds_toArray, List.set_cons_zero, List.set_cons_succ]
              first
                | (refine mix_skip 4 rfl (by kernel_rfl) (by kernel_rfl) (by kernel_rfl) (by rfl) (by assumption) (fun _ _ _ h => h) ?_)
                | (refine mix_pure 4 (v := ?_) rfl (by kernel_rfl) (by kernel_rfl) (by kernel_rfl) (by rfl) (by assumption) (fun _ _ _ h => h) ?_ ?_; rotate_left; · (intro wS hSw; (try dsimp only at hSw); go_simp; try with_reducible rfl))
              simp only [Act.put, List.setIfInBounds_toArray, List.set_cons_zero, List.set_cons_succ]
              first
                | (refine mix_skip 5 rfl (by kernel_rfl) (by kernel_rfl) (by kernel_rfl) (by rfl) (by assumption) (fun _ _ _ h => h) ?_)
                | (refine mix_pure 5 (v := ?_) rfl (by kernel_rfl) (by kernel_rfl) (by kernel_rfl) (by rfl) (by assumption) (fun _ _ _ h => h) ?_ ?_; rotate_left; · (intro wS hSw; (try dsimp only at hSw); go_simp; try with_reducible rfl))
              simp only [Act.put, List.setIfInBounds_toArray, List.set_cons_zero, List.set_cons_succ]
              refine mix_two 6 12 rfl rfl (by kernel_rfl) (fun K hK => ?_) (fun K hK => ?_)
              · go_simp
                refine (hCall.out w2.drew ((Fr.refl nob w2).drew)).mono ?_
                rintro e w3 ⟨A3, k3, cp3, rfl, hr3, hk3, hc3, hn3, hf3⟩
                have hf23 : Fr nob w2 w3 := ((Fr.refl nob w2).drew).trans hf3 (fun _ _ h => h)
                refine hK.out _ _ (HS.out _ hf23) (fun hHeld0 => ?_)
                clear hK K
                try simp only [Act.put, List.setIfInBounds_toArray, List.set_cons_zero, List.set_cons_succ]
                first
                  | (refine mix_skip 7 rfl (by kernel_rfl) (by kernel_rfl) (by kernel_rfl) (by rfl) (by assumption) (fun _ _ _ h => h) ?_)
                  | (refine mix_pure 7 (v := ?_) rfl (by kernel_rfl) (by kernel_rfl) (by kernel_rfl) (by rfl) (by assumption) (fun _ _ _ h => h) ?_ ?_; rotate_left; · (intro wS hSw; (try dsimp only at hSw); go_simp; try with_reducible rfl))
                simp only [Act.put, List.setIfInBounds_toArray, List.set_cons_zero, List.set_cons_succ]
                first
                  | (refine mix_skip 8 rfl (by kernel_rfl) (by kernel_rfl) (by kernel_rfl) (by rfl) (by assumption) (fun _ _ _ h => h) ?_)
                  | (refine mix_pure 8 (v := ?_) rfl (by kernel_rfl) (by kernel_rfl) (by kernel_rfl) (by rfl) (by assumption) (fun _ _ _ h => h) ?_ ?_; rotate_left; · (intro wS hSw; (try dsimp only at hSw); go_simp; try with_reducible rfl))
                simp only [Act.put, List.setIfInBounds_toArray, List.set_cons_zero, List.set_cons_succ]
                first
                  | (refine mix_skip 9 rfl (by kernel_rfl) (by kernel_rfl) (by kernel_rfl) (by rfl) (by assumption) (fun _ _ _ h => h) ?_)
                  | (refine mix_pure 9 (v := ?_) rfl (by kernel_rfl) (by kernel_rfl) (by kernel_rfl) (by rfl) (by assumption) (fun _ _ _ h => h) ?_ ?_; rotate_left; · (intro wS hSw; (try dsimp only at hSw); go_simp; try with_reducible rfl))
                simp only [Act.put, List.setIfInBounds_toArray, List.set_cons_zero, List.set_cons_succ]
                first
                  | (refine mix_skip 10 rfl (by kernel_rfl) (by kernel_rfl) (by kernel_rfl) (by rfl) (by assumption) (fun _ _ _ h => h) ?_)
                  | (refine mix_pure 10 (v := ?_) rfl (by kernel_rfl) (by kernel_rfl) (by kernel_rfl) (by rfl) (by assumption) (fun _ _ _ h => h) ?_ ?_; rotate_left; · (intro wS hSw; (try dsimp only at hSw); go_simp; try with_reducible rfl))
                simp only [Act.put, List.setIfInBounds_toArray, List.set_cons_zero, List.set_cons_succ]
                first
                  | (refine mix_skip 11 rfl (by kernel_rfl) (by kernel_rfl) (by kernel_rfl) (by rfl) (by assumption) (fun _ _ _ h => h) ?_)
                  | (refine mix_pure 11 (v := ?_) rfl (by kernel_rfl) (by kernel_rfl) (by kernel_rfl) (by rfl) (by assumption) (fun _ _ _ h => h) ?_ ?_; rotate_left; · (intro wS hSw; (try dsimp only at hSw); go_simp; try with_reducible rfl))
                simp only [Act.put, List.setIfInBounds_toArray, List.set_cons_zero, List.set_cons_succ]
                refine mix_one 12 rfl (by kernel_rfl) (fun K hK => ?_)
                go_simp
                have hz9 := Blk.new w3 43 #[.int .u16 0, .int .u16 0, .int .u16 0, .int .u16 0, .int .u16 0, .int .u16 0, .int .u16 0, .int .u16 0, .int .u16 0, .bool false, .int .u8 0]
                have hf24 : Fr nob w2 (w3.alloc (.cells #[.int .u16 0, .int .u16 0, .int .u16 0, .int .u16 0, .int .u16 0, .int .u16 0, .int .u16 0, .int .u16 0, .int .u16 0, .bool false, .int .u8 0] 43)) := hf23.alloc (.cells #[.int .u16 0, .int .u16 0, .int .u16 0, .int .u16 0, .int .u16 0, .int .u16 0, .int .u16 0, .int .u16 0, .int .u16 0, .bool false, .int .u8 0] 43)
                refine hK.out _ _ (HS.out _ hf24) (fun hHeld1 => ?_)
                clear hK K
                try simp only [Act.put, List.setIfInBounds_toArray, List.set_cons_zero, List.set_cons_succ]
                refine mix_one 13 rfl (by kernel_rfl) (fun K hK => ?_)
                go_simp
                refine hK.out _ _ (HS.out _ (hf23.alloc (.cells #[.int .u16 d0, .int .u16 d1, .int .u16 d2, .int .u16 d3, .int .u16 d4, .int .u16 d5, .int .u16 d6, .int .u16 d7, .int .u16 yr, .bool yls, .int .u8 ydl] 43))) (fun hHeld2 => ?_)
                clear hK K
                try simp only [Act.put, List.setIfInBounds_toArray, List.set_cons_zero, List.set_cons_succ]
                first
                  | (refine mix_skip 14 rfl (by kernel_rfl) (by kernel_rfl) (by kernel_rfl) (by rfl) (by assumption) (fun _ _ _ h => h) ?_)
                  | (refine mix_pure 14 (v := ?_) rfl (by kernel_rfl) (by kernel_rfl) (by kernel_rfl) (by rfl) (by assumption) (fun _ _ _ h => h) ?_ ?_; rotate_left; · (intro wS hSw; (try dsimp only at hSw); go_simp; try with_reducible rfl))
                simp only [Act.put, List.setIfInBounds_toArray, List.set_cons_zero, List.set_cons_succ]
                first
                  | (refine mix_skip 15 rfl (by kernel_rfl) (by kernel_rfl) (by kernel_rfl) (by rfl) (by assumption) (fun _ _ _ h => h) ?_)
                  | (refine mix_pure 15 (v := ?_) rfl (by kernel_rfl) (by kernel_rfl) (by kernel_rfl) (by rfl) (by assumption) (fun _ _ _ h => h) ?_ ?_; rotate_left; · (intro wS hSw; (try dsimp only at hSw); go_simp; try with_reducible rfl))
                simp only [Act.put, List.setIfInBounds_toArray, List.set_cons_zero, List.set_cons_succ]
                first
                  | (refine mix_skip 16 rfl (by kernel_rfl) (by kernel_rfl) (by kernel_rfl) (by rfl) (by assumption) (fun _ _ _ h => h) ?_)
                  | (refine mix_pure 16 (v := ?_) rfl (by kernel_rfl) (by kernel_rfl) (by kernel_rfl) (by rfl) (by assumption) (fun _ _ _ h => h) ?_ ?_; rotate_left; · (intro wS hSw; (try dsimp only at hSw); go_simp; try with_reducible rfl))
                simp only [Act.put, List.setIfInBounds_toArray, List.set_cons_zero, List.set_cons_succ]
                refine wpAnyH_done (by kernel_rfl) ?_ _
                clear hHeld hHeld0 hHeld1 hHeld2 hCall HS hf24 hz9
                have hfz := hf23.alloc (.cells #[.int .u16 d0, .int .u16 d1, .int .u16 d2, .int .u16 d3, .int .u16 d4, .int .u16 d5, .int .u16 d6, .int .u16 d7, .int .u16 yr, .bool yls, .int .u8 ydl] 43)
                have hbg := Blk.new w3 43 #[.int .u16 d0, .int .u16 d1, .int .u16 d2, .int .u16 d3, .int .u16 d4, .int .u16 d5, .int .u16 d6, .int .u16 d7, .int .u16 yr, .bool yls, .int .u8 ydl]
                have hrz3 := hr3.alloc (.cells #[.int .u16 d0, .int .u16 d1, .int .u16 d2, .int .u16 d3, .int .u16 d4, .int .u16 d5, .int .u16 d6, .int .u16 d7, .int .u16 yr, .bool yls, .int .u8 ydl] 43)
                obtain ⟨g9, hg9⟩ : ∃ g9, g9 = w3.heap.size := ⟨_, rfl⟩
                rw [← hg9] at hbg
                have hA3 : ∀ ad, A3 = some ad → ¬ (ad.block = bw) := fun ad h e => by have := hn3 ad h; simp at this; omega
                obtain ⟨wz, hwz⟩ : ∃ wz, wz = w3.alloc (.cells #[.int .u16 d0, .int .u16 d1, .int .u16 d2, .int .u16 d3, .int .u16 d4, .int .u16 d5, .int .u16 d6, .int .u16 d7, .int .u16 yr, .bool yls, .int .u8 ydl] 43) := ⟨_, rfl⟩
                rw [← hwz] at hfz hbg hrz3
                rw [← hwz, ← hg9]
                clear hwz hg9 hn3 hr3 hf3 hf23
                have hwbz := hwb2.fr hfz (fun h => h)
                have qz := hwbz.cell
                have qzf := hwbz.frozen
                have qg := hbg.cell
                have zz := hwbz.lt
                have zg := hbg.lt
                have hrz2 := hr2.nob hfz
                go_wp2_with fail
                have hS := ((Fr.refl (fun i => i = bw) wz).set11 (.inl rfl) (.int .u16 d0) (.int .u16 d1) (.int .u16 d2) (.int .u16 d3) (.int .u16 d4) (.int .u16 d5) (.int .u16 d6) (.int .u16 d7) (.int .u16 yr) (.bool yls) (.int .u8 ydl))
                have HSF := Lib.hid hS
                have HBW := Lib.hid (hwbz.set11 (.int .u16 d0) (.int .u16 d1) (.int .u16 d2) (.int .u16 d3) (.int .u16 d4) (.int .u16 d5) (.int .u16 d6) (.int .u16 d7) (.int .u16 yr) (.bool yls) (.int .u8 ydl))
                have hra := hrz2.fr hS (fun ad h => by have := HNA.out ad h; have := hwb.lt; omega)
                have hrb := hrz3.fr hS hA3
                clear hS
                refine (bytes_any A2 A3 k2 k3 cp2 cp3 yo yo _ hra hrb (by omega) (by omega)).mono ?_
                rintro e wq ⟨rfl, kq, rfl⟩
                have hsame : sameInts yo yo = true := by unfold sameInts; simp
                rw [hsame]
                have ew : (yw != yw) = false := by rw [bne_self_eq_false]
                have ee : (ye != ye) = false := by rw [bne_self_eq_false]
                go_wp2_with fail
                go_meet
                exact ⟨b, tb, ⟨[d0, d1, d2, d3, d4, d5, d6, d7], yr, yls, ydl⟩, rfl, hlb, hltb, (DS.fr (DS.nob hds2 hfz) HSF.out hbbw htbw).nob ((Fr.refl nob _).drewN kq), HBW.out.drewN kq, (hfw2.trans hfz (fun _ _ h => h)).newer (HSF.out.drewN kq) (fun i hi => by omega)⟩
              · go_simp
                have hf21 : Fr nob w2 ((w2.alloc (.cells #[.int .u16 0, .int .u16 0, .int .u16 0, .int .u16 0, .int .u16 0, .int .u16 0, .int .u16 0, .int .u16 0, .int .u16 0, .bool false, .int .u8 0] 43)).drew) := ((Fr.refl nob w2).alloc (.cells #[.int .u16 0, .int .u16 0, .int .u16 0, .int .u16 0, .int .u16 0, .int .u16 0, .int .u16 0, .int .u16 0, .int .u16 0, .bool false, .int .u8 0] 43)).drew
                refine hK.out _ _ (HS.out _ hf21) (fun hHeld0 => ?_)
                clear hK K
                try simp only [Act.put, List.setIfInBounds_toArray, List.set_cons_zero, List.set_cons_succ]
                refine mix_one 6 rfl (by kernel_rfl) (fun K hK => ?_)
                go_simp
                refine (hCall.out ((w2.alloc (.cells #[.int .u16 0, .int .u16 0, .int .u16 0, .int .u16 0, .int .u16 0, .int .u16 0, .int .u16 0, .int .u16 0, .int .u16 0, .bool false, .int .u8 0] 43)).drew) (hf21)).mono ?_
                rintro e w3 ⟨A3, k3, cp3, rfl, hr3, hk3, hc3, hn3, hf3⟩
                have hf23 : Fr nob w2 w3 := hf21.trans hf3 (fun _ _ h => h)
                have hz9 := ((Blk.new w2 43 #[.int .u16 0, .int .u16 0, .int .u16 0, .int .u16 0, .int .u16 0, .int .u16 0, .int .u16 0, .int .u16 0, .int .u16 0, .bool false, .int .u8 0]).drew).fr hf3 (fun h => h)
                obtain ⟨g9, hg9⟩ : ∃ g9, g9 = w2.heap.size := ⟨_, rfl⟩
                rw [← hg9] at hz9
                rw [← hg9]
                have hg9l : w2.heap.size ≤ g9 := by omega
                have hg9c := hz9.cell
                have hg9f := hz9.frozen
                have hg9b := hz9.lt
                have hA3 : ∀ ad, A3 = some ad → ¬ (ad.block = bw) := fun ad h e => by have := hn3 ad h; simp at this; omega
                have hA39 : ∀ ad, A3 = some ad → ¬ (ad.block = g9) := fun ad h e => by have := hn3 ad h; simp at this; omega
                have HA39 := Lib.hid hA39
                clear hg9 hA39
                refine hK.out _ _ (HS.out _ hf23) (fun hHeld1 => ?_)
                clear hK K
                try simp only [Act.put, List.setIfInBounds_toArray, List.set_cons_zero, List.set_cons_succ]
                first
                  | (refine mix_skip 7 rfl (by kernel_rfl) (by kernel_rfl) (by kernel_rfl) (by rfl) (by assumption) (fun _ _ _ h => h) ?_)
                  | (refine mix_pure 7 (v := ?_) rfl (by kernel_rfl) (by kernel_rfl) (by kernel_rfl) (by rfl) (by assumption) (fun _ _ _ h => h) ?_ ?_; rotate_left; · (intro wS hSw; (try dsimp only at hSw); go_simp; try with_reducible rfl))
                simp only [Act.put, List.setIfInBounds_toArray, List.set_cons_zero, List.set_cons_succ]
                first
                  | (refine mix_skip 8 rfl (by kernel_rfl) (by kernel_rfl) (by kernel_rfl) (by rfl) (by assumption) (fun _ _ _ h => h) ?_)
                  | (refine mix_pure 8 (v := ?_) rfl (by kernel_rfl) (by kernel_rfl) (by kernel_rfl) (by rfl) (by assumption) (fun _ _ _ h => h) ?_ ?_; rotate_left; · (intro wS hSw; (try dsimp only at hSw); go_simp; try with_reducible rfl))
                simp only [Act.put, List.setIfInBounds_toArray, List.set_cons_zero, List.set_cons_succ]
                first
                  | (refine mix_skip 9 rfl (by kernel_rfl) (by kernel_rfl) (by kernel_rfl) (by rfl) (by assumption) (fun _ _ _ h => h) ?_)
                  | (refine mix_pure 9 (v := ?_) rfl (by kernel_rfl) (by kernel_rfl) (by kernel_rfl) (by rfl) (by assumption) (fun _ _ _ h => h) ?_ ?_; rotate_left; · (intro wS hSw; (try dsimp only at hSw); go_simp; try with_reducible rfl))
                simp only [Act.put, List.setIfInBounds_toArray, List.set_cons_zero, List.set_cons_succ]
                first
                  | (refine mix_skip 10 rfl (by kernel_rfl) (by kernel_rfl) (by kernel_rfl) (by rfl) (by assumption) (fun _ _ _ h => h) ?_)
                  | (refine mix_pure 10 (v := ?_) rfl (by kernel_rfl) (by kernel_rfl) (by kernel_rfl) (by rfl) (by assumption) (fun _ _ _ h => h) ?_ ?_; rotate_left; · (intro wS hSw; (try dsimp only at hSw); go_simp; try with_reducible rfl))
                simp only [Act.put, List.setIfInBounds_toArray, List.set_cons_zero, List.set_cons_succ]
                first
                  | (refine mix_skip 11 rfl (by kernel_rfl) (by kernel_rfl) (by kernel_rfl) (by rfl) (by assumption) (fun _ _ _ h => h) ?_)
                  | (refine mix_pure 11 (v := ?_) rfl (by kernel_rfl) (by kernel_rfl) (by kernel_rfl) (by rfl) (by assumption) (fun _ _ _ h => h) ?_ ?_; rotate_left; · (intro wS hSw; (try dsimp only at hSw); go_simp; try with_reducible rfl))
                simp only [Act.put, List.setIfInBounds_toArray, List.set_cons_zero, List.set_cons_succ]
                refine mix_one 13 rfl (by kernel_rfl) (fun K hK => ?_)
                go_simp
                have hS9 := (Fr.refl (fun i => i = g9) w3).set11 (.inl rfl) (.int .u16 d0) (.int .u16 d1) (.int .u16 d2) (.int .u16 d3) (.int .u16 d4) (.int .u16 d5) (.int .u16 d6) (.int .u16 d7) (.int .u16 yr) (.bool yls) (.int .u8 ydl)
                have hfz := hf23.newer hS9 (fun i hi => by omega)
                have hbg := hz9.set11 (.int .u16 d0) (.int .u16 d1) (.int .u16 d2) (.int .u16 d3) (.int .u16 d4) (.int .u16 d5) (.int .u16 d6) (.int .u16 d7) (.int .u16 yr) (.bool yls) (.int .u8 ydl)
                have hrz3 := hr3.fr hS9 HA39.out
                refine hK.out _ _ (HS.out _ hfz) (fun hHeld2 => ?_)
                clear hK K
                try simp only [Act.put, List.setIfInBounds_toArray, List.set_cons_zero, List.set_cons_succ]
                first
                  | (refine mix_skip 14 rfl (by kernel_rfl) (by kernel_rfl) (by kernel_rfl) (by rfl) (by assumption) (fun _ _ _ h => h) ?_)
                  | (refine mix_pure 14 (v := ?_) rfl (by kernel_rfl) (by kernel_rfl) (by kernel_rfl) (by rfl) (by assumption) (fun _ _ _ h => h) ?_ ?_; rotate_left; · (intro wS hSw; (try dsimp only at hSw); go_simp; try with_reducible rfl))
                simp only [Act.put, List.setIfInBounds_toArray, List.set_cons_zero, List.set_cons_succ]
                first
                  | (refine mix_skip 15 rfl (by kernel_rfl) (by kernel_rfl) (by kernel_rfl) (by rfl) (by assumption) (fun _ _ _ h => h) ?_)
                  | (refine mix_pure 15 (v := ?_) rfl (by kernel_rfl) (by kernel_rfl) (by kernel_rfl) (by rfl) (by assumption) (fun _ _ _ h => h) ?_ ?_; rotate_left; · (intro wS hSw; (try dsimp only at hSw); go_simp; try with_reducible rfl))
                simp only [Act.put, List.setIfInBounds_toArray, List.set_cons_zero, List.set_cons_succ]
                first
                  | (refine mix_skip 16 rfl (by kernel_rfl) (by kernel_rfl) (by kernel_rfl) (by rfl) (by assumption) (fun _ _ _ h => h) ?_)
                  | (refine mix_pure 16 (v := ?_) rfl (by kernel_rfl) (by kernel_rfl) (by kernel_rfl) (by rfl) (by assumption) (fun _ _ _ h => h) ?_ ?_; rotate_left; · (intro wS hSw; (try dsimp only at hSw); go_simp; try with_reducible rfl))
                simp only [Act.put, List.setIfInBounds_toArray, List.set_cons_zero, List.set_cons_succ]
                refine wpAnyH_done (by kernel_rfl) ?_ _
                clear hHeld hHeld0 hHeld1 hHeld2 hCall HS hg9c hg9f
                obtain ⟨wz, hwz⟩ : ∃ wz, wz = (((((((((((w3.setCell ⟨g9, 0, none⟩ (.int .u16 d0)).setCell ⟨g9, 1, none⟩ (.int .u16 d1)).setCell ⟨g9, 2, none⟩ (.int .u16 d2)).setCell ⟨g9, 3, none⟩ (.int .u16 d3)).setCell ⟨g9, 4, none⟩ (.int .u16 d4)).setCell ⟨g9, 5, none⟩ (.int .u16 d5)).setCell ⟨g9, 6, none⟩ (.int .u16 d6)).setCell ⟨g9, 7, none⟩ (.int .u16 d7)).setCell ⟨g9, 8, none⟩ (.int .u16 yr)).setCell ⟨g9, 9, none⟩ (.bool yls)).setCell ⟨g9, 10, none⟩ (.int .u8 ydl)) := ⟨_, rfl⟩
                rw [← hwz] at hfz hbg hrz3
                rw [← hwz]
                clear hwz hn3 hr3 hf3 hf23 hS9 hz9 hf21
                have hwbz := hwb2.fr hfz (fun h => h)
                have qz := hwbz.cell
                have qzf := hwbz.frozen
                have qg := hbg.cell
                have zz := hwbz.lt
                have zg := hbg.lt
                have hrz2 := hr2.nob hfz
                go_wp2_with fail
                have hS := ((Fr.refl (fun i => i = bw) wz).set11 (.inl rfl) (.int .u16 d0) (.int .u16 d1) (.int .u16 d2) (.int .u16 d3) (.int .u16 d4) (.int .u16 d5) (.int .u16 d6) (.int .u16 d7) (.int .u16 yr) (.bool yls) (.int .u8 ydl))
                have HSF := Lib.hid hS
                have HBW := Lib.hid (hwbz.set11 (.int .u16 d0) (.int .u16 d1) (.int .u16 d2) (.int .u16 d3) (.int .u16 d4) (.int .u16 d5) (.int .u16 d6) (.int .u16 d7) (.int .u16 yr) (.bool yls) (.int .u8 ydl))
                have hra := hrz2.fr hS (fun ad h => by have := HNA.out ad h; have := hwb.lt; omega)
                have hrb := hrz3.fr hS hA3
                clear hS
                refine (bytes_any A2 A3 k2 k3 cp2 cp3 yo yo _ hra hrb (by omega) (by omega)).mono ?_
                rintro e wq ⟨rfl, kq, rfl⟩
                have hsame : sameInts yo yo = true := by unfold sameInts; simp
                rw [hsame]
                have ew : (yw != yw) = false := by rw [bne_self_eq_false]
                have ee : (ye != ye) = false := by rw [bne_self_eq_false]
                go_wp2_with fail
                go_meet
                exact ⟨b, tb, ⟨[d0, d1, d2, d3, d4, d5, d6, d7], yr, yls, ydl⟩, rfl, hlb, hltb, (DS.fr (DS.nob hds2 hfz) HSF.out hbbw htbw).nob ((Fr.refl nob _).drewN kq), HBW.out.drewN kq, (hfw2.trans hfz (fun _ _ h => h)).newer (HSF.out.drewN kq) (fun i hi => by omega)⟩
            have e0 : (xk == 0) = false := by rw [beq_eq_false_iff_ne]; exact hk0
            clear hk0
            by_cases hk1 : xk = 1
            · have e1 : (xk == 1) = true := by rw [beq_iff_eq]; exact hk1
              clear hk1
              by_cases hin : 0 ≤ xi ∧ xi < 8
              · obtain ⟨hi0, hi1⟩ := hin
                have hcb : 0 ≤ [c0, c1, c2, c3, c4, c5, c6, c7].getD xi.toNat 0 ∧ [c0, c1, c2, c3, c4, c5, c6, c7].getD xi.toNat 0 < 65536 := hds.2.1.at_ xi.toNat (by omega)
                have hwi := stC_at ⟨[c0, c1, c2, c3, c4, c5, c6, c7], r, ls, dl⟩ rfl xi.toNat (by omega)
                obtain ⟨yc, hyc⟩ : ∃ yc, yc = [c0, c1, c2, c3, c4, c5, c6, c7].getD xi.toNat 0 := ⟨_, rfl⟩
                dsimp only at hwi
                rw [← hyc] at hwi hcb
                rw [← hwb0.cell] at hwi
                have HYC := Lib.hid hyc
                have hwr : IntKind.u16.wrap (yc + 1) = (yc + 1) % 65536 := by rw [IntKind.wrap_u16]
                have hwf := hwb0.frozen xi.toNat
                clear hyc qw qf
                have hS := (Fr.refl (fun i => i = bw) wr).set_ (p := ⟨bw, xi.toNat, none⟩) (.inl rfl) (.int .u16 ((yc + 1) % 65536))
                have hcl3 := (HCL.out _ (hfr.of_nob.trans (hS.more (T := fun i => w.heap.size ≤ i) (fun i hi => by omega)) (fun _ _ h => h))).2.1
                have hdsS : DgS (wr.setCell ⟨bw, xi.toNat, none⟩ (.int .u16 ((yc + 1) % 65536))) b tb ⟨[c0, c1, c2, c3, c4, c5, c6, c7], r, ls, dl⟩ := DS.fr hds hS hbbw htbw
                have hbS := hwb0.set_ xi.toNat (.int .u16 ((yc + 1) % 65536))
                rw [stC_set _ rfl _ (by omega)] at hbS
                dsimp only at hbS
                have HBS := Lib.hid hbS
                have HSS := Lib.hid hS
                clear hbS hS
                go_wp2_with fail
                refine (diag_count b tb _ _ _ xi _ _ hdsS).mono ?_
                rintro e w2 ⟨rfl, hds2, hf2⟩
                have hae : addErr xi 1 = 0 := by rw [addErr, if_pos ⟨hi0, hi1, by omega, by omega⟩]
                have hat : addTo [c0, c1, c2, c3, c4, c5, c6, c7] xi 1 = [c0, c1, c2, c3, c4, c5, c6, c7].set xi.toNat ((yc + 1) % 65536) := by rw [addTo, if_pos ⟨hi0, hi1, by omega, by omega⟩, HYC.out]
                rw [hae]
                rw [hat] at hds2
                clear hae hat
                go_wp2_with fail
                go_meet
                exact ⟨b, tb, ⟨_, r, ls, dl⟩, rfl, hlb, hltb, hds2, HBS.out.fr hf2 (by omega), (hfr.newer HSS.out (fun i hi => by omega)).newer hf2 (fun i hi => by omega)⟩
              · have hout : xi < 0 ∨ (0 ≤ xi ∧ 8 ≤ xi) := by omega
                clear hin
                rcases hout with hi0 | ⟨hi0, hi1⟩
                all_goals
                  go_wp2_with fail
                  refine (diag_count b tb _ _ _ xi _ _ hds).mono ?_
                  rintro e w2 ⟨rfl, hds2, hf2⟩
                  have hae : addErr xi 1 = 11 := by rw [addErr, if_neg (by omega)]
                  have hat : addTo [c0, c1, c2, c3, c4, c5, c6, c7] xi 1 = [c0, c1, c2, c3, c4, c5, c6, c7] := by rw [addTo, if_neg (by omega)]
                  rw [hae]
                  dsimp only at hds2
                  rw [hat] at hds2
                  clear hae hat
                  go_wp2_with fail
                  go_meet
                  exact ⟨b, tb, ⟨[c0, c1, c2, c3, c4, c5, c6, c7], r, ls, dl⟩, rfl, hlb, hltb, hds2, hwb.fr hf2 (by omega), hfr.newer hf2 (fun i hi => by omega)⟩
            have e1 : (xk == 1) = false := by rw [beq_eq_false_iff_ne]; exact hk1
            clear hk1
            by_cases hk2 : xk = 2
            · have e2 : (xk == 2) = true := by rw [beq_iff_eq]; exact hk2
              clear hk2
              obtain ⟨v, hv⟩ : ∃ v, v = IntKind.u16.wrap (xi.tmod 65536) := ⟨_, rfl⟩
              have hvb : 0 ≤ v ∧ v ≤ 65535 := by rw [hv, IntKind.wrap_u16]; omega
              have hvw : IntKind.u16.wrap (xi.tmod 65536) = v := hv.symm
              clear hv
              go_wp2_with fail
              refine (diag_setRegister b tb _ _ _ v _ _ hds hvb).mono ?_
              rintro e w2 ⟨rfl, hds2, hf2⟩
              have hfg2 : Fr (fun i => w.heap.size ≤ i) w w2 := hfr.of_nob.trans (hf2.more (T := fun i => w.heap.size ≤ i) (fun i hi => by omega)) (fun _ _ h => h)
              obtain ⟨p0, p1, p2⟩ := HCL.out _ hfg2
              have hwb2 := hwb.fr hf2 (by omega)
              have qw2 := hwb2.cell
              have qf2 := hwb2.frozen
              have hz2 := hwb2.lt
              clear qw qf q0 q1 q2
              go_wp2_with fail
              go_meet
              have hS := (Fr.refl (fun i => i = bw) w2).set_ (p := ⟨bw, 8, none⟩) (.inl rfl) (.int .u16 v)
              have hB := hwb2.set_ 8 (.int .u16 v)
              exact ⟨b, tb, ⟨[c0, c1, c2, c3, c4, c5, c6, c7], v, ls, dl⟩, rfl, hlb, hltb, DS.fr hds2 hS hbbw htbw, hB, (hfr.newer hf2 (fun i hi => by omega)).newer hS (fun i hi => by omega)⟩
            · have e2 : (xk == 2) = false := by rw [beq_eq_false_iff_ne]; exact hk2
              clear hk2
              go_wp2_with fail
              refine (diag_clone b tb _ _ _ _ _ hds).mono ?_
              rintro e w2 ⟨b2, tb2, rfl, hds2, hf2, hb2, ht2⟩
              have hlb0 := hds.lt
              have hlt0 := hds.2.1.2.2.lt
              go_wp2_with fail
              refine (diag_count b tb _ _ _ 0 _ _ (DS.nob hds hf2)).mono ?_
              rintro e w3 ⟨rfl, hds3, hf3⟩
              have hzz := hfr.size
              go_wp2_with fail
              go_meet
              exact ⟨b2, tb2, ⟨[c0, c1, c2, c3, c4, c5, c6, c7], r, ls, dl⟩, rfl, by omega, by omega, DS.fr hds2 hf3 (by omega) (by omega), (hwb.fr hf2 (fun h => h)).fr hf3 (by omega), (hfr.trans hf2 (fun _ _ h => h)).newer hf3 (fun i hi => by omega)⟩
          case rest =>
            obtain ⟨b', tb', sd', rfl, hlb', hltb', hds', hwb', hfr'⟩ := hcut
            obtain ⟨sc, r, ls, dl⟩ := sd'
            obtain ⟨c0, c1, c2, c3, c4, c5, c6, c7, rfl⟩ := eight hds'.len
            rw [stC_lit] at hwb'
            have qw := hwb'.cell
            go_wp2_with fail
            refine (diag_like b' tb' c0 c1 c2 c3 c4 c5 c6 c7 r dl ls _ hds').mono ?_
            rintro e w5 ⟨rfl, hf5⟩
            go_wp2_with fail
            go_roundw
            case rel => exact ⟨j + 1, b', tb', _, by omega, by go_num, rfl, hlb', hltb', DS.nob hds' hf5, hwb'.fr hf5 (fun h => h), hfr'.trans hf5 (fun _ _ h => h)⟩
            case measure => simp [intOf]; omega
      · go_wp2_with fail
        refine (diag_sure _).mono ?_
        rintro e w4 ⟨rfl, hf4⟩
        go_wp2_with fail
        go_ret
        exact ⟨rfl, hfr.trans hf4 (fun i hi hb => hb.elim)⟩
end Go.Proofs.Ytmpjdploacfmeab
