/- The walk of ObjectSorts. -/
import Derived.Test.YtmpjdploacfmeaaObjLaw
import Derived.Test.YtmpjdploacfmeaaMix
namespace Go.Proofs.Ytmpjdploacfmeaa
open Go.RowKit

theorem wrap_i64 (n : Int) (h0 : -9223372036854775808 ≤ n) (h1 : n ≤ 9223372036854775807) : IntKind.i64.wrap n = n := by
  simp [IntKind.wrap, IntKind.bits, IntKind.signed]
  omega

set_option maxHeartbeats 8000000 in
set_option maxRecDepth 100000 in
theorem sorts_any (A : Option Addr) (n c : Nat) (L : List Ob) (id : Int) (w : World) (h : Obs w A n L) (hn : n ≤ c) (hc : c ≤ 9223372036854775807) (hid : 0 ≤ id ∧ id ≤ 255) :
    Calls Try.prog 5 #[.slice A n c, .int .u8 id] w fun e w' => e = .returned (.bool true) ∧ Fr nob w w' := by
  have hlen := h.len
  go_enter Try.func5, Try.ntmps5
  go_wp2_with fail
  refine (few_any A n c L _ h hn hc).mono ?_
  rintro e w1 ⟨fw, rfl, hf1, hfw⟩
  cases fw with
  | false =>
    go_wp2_with fail
    refine (sure_any _).mono ?_
    rintro e w2 ⟨rfl, hf2⟩
    go_wp2_with fail
    go_ret
    exact ⟨rfl, hf1.trans hf2 (fun _ _ h => h)⟩
  | true =>
    have hn140 := hfw rfl
    clear hfw
    have h1 := h.nob hf1
    go_wp2_with fail
    refine (right_any A n c L _ h1 hn hc).mono ?_
    rintro e w2 ⟨rfl, hf2⟩
    have hfr2 := hf1.trans hf2 (fun _ _ h => h)
    obtain ⟨r, hr⟩ : ∃ r, r = rightS (L.map Ob.s) := ⟨_, rfl⟩
    rw [← hr]
    cases r with
    | false =>
      go_wp2_with fail
      refine (sure_any _).mono ?_
      rintro e w3 ⟨rfl, hf3⟩
      go_wp2_with fail
      go_ret
      exact ⟨rfl, hfr2.trans hf3 (fun _ _ h => h)⟩
    | true =>
      have h2 := h1.nob hf2
      have hL : ∀ x ∈ L, x.n ≤ 100000 := fun x hx => by
        have e1 := right_short hr.symm x.s (List.mem_map_of_mem hx)
        have e2 := (h.ok x hx).len
        simp only [Ob.s] at e1
        omega
      obtain ⟨hlv1, hlv3⟩ := sorts_level hr.symm
      have HR := Lib.hid hr.symm
      clear hr
      go_wp2_with fail
      refine (level_any A n c L _ h2 hn hc).mono ?_
      rintro e w3 ⟨rfl, hf3⟩
      have hfr3 := hfr2.trans hf3 (fun _ _ h => h)
      have h3 := h2.nob hf3
      obtain ⟨lv, hlv⟩ : ∃ lv, lv = levelS (L.map Ob.s) := ⟨_, rfl⟩
      rw [← hlv] at hlv1 hlv3 ⊢
      have HLV := Lib.hid hlv
      clear hlv
      go_wp2_with fail
      go_loopw [6] (fun s wr => ∃ k : Nat, 1 ≤ k ∧ k ≤ 4 ∧ s = .int .i64 k ∧ Fr nob w3 wr) (fun s _ => 4 - (intOf s).toNat)
      case atStart => exact ⟨1, by omega, by omega, rfl, Fr.refl _ _⟩
      case round =>
        obtain ⟨k, hk1, hk4, rfl, hf⟩ := hrel
        by_cases hlt : k ≤ 3
        · have hs : (k : Int) = 1 ∨ (k : Int) = 2 ∨ (k : Int) = 3 := by omega
          have hr0 := h3.nob hf
          have HK := Lib.hid hs
          clear hs
          go_wp2_with fail
          refine (of_any A n c L k _ hr0 hn hc hL (by omega)).mono ?_
          rintro e w4 ⟨hf4, A4, n4, c4, L4, rfl, hS4, hO4, hn4, hc4, hL4⟩
          have hr4 := hr0.nob hf4
          have hfk4 := hf.trans hf4 (fun _ _ h => h)
          have H4 := Lib.hid hS4
          clear hS4
          go_wp2_with fail
          refine (same_any A4 A n4 n c4 c L4 L _ hO4 hr4 hn4 hc4 hn hc).mono ?_
          rintro e w5 ⟨rfl, hf5⟩
          have hr5 := hr4.nob hf5
          have hO5 := hO4.nob hf5
          have hfk5 := hfk4.trans hf5 (fun _ _ h => h)
          have h3n : 3 ≤ n4 := by
            have := sorts_three HR.out HK.out
            rw [← H4.out, List.length_map, hO4.len] at this
            exact this
          have hl4 := hO4.len
          rw [H4.out, sorts_same HR.out HK.out, ← HLV.out]
          have hbb : (decide (lv ≤ (k : Int)) != decide (lv ≤ (k : Int))) = false := by simp
          go_wp2_with fail
          go_loopw [8] (fun i wr => ∃ j : Nat, j ≤ n4 ∧ i = .int .i64 j ∧ Fr nob w5 wr) (fun i _ => n4 - (intOf i).toNat)
          case atStart => exact ⟨0, by omega, rfl, Fr.refl _ _⟩
          case round =>
            obtain ⟨j, hj, rfl, hfj⟩ := hrel
            by_cases hjlt : j < n4
            · have hO6 := hO5.nob hfj
              have hr6 := hr5.nob hfj
              obtain ⟨b, o, x, rfl, hb, hx, hc0, hc1, hok⟩ := hO6.at_ hjlt
              have hj0 : (0 : Int) ≤ (j : Int) ∧ (j : Int) < (n4 : Int) := ⟨by omega, by omega⟩
              have hxm : x.s ∈ ofS (L.map Ob.s) k := by rw [← H4.out]; exact List.mem_map_of_mem (List.mem_of_getElem? hx)
              have HX := Lib.hid hx
              have HM := Lib.hid hxm
              clear hx hxm
              go_wp2_with fail
              refine (find_any A n c L x.id _ hr6 hn hc hL).mono ?_
              rintro e w6 ⟨hf6, y, ok, rfl, hy, hfind, -⟩
              have hfind' : findS (L.map Ob.s) x.id = some x.s := sorts_find HR.out HK.out HM.out
              rw [hfind'] at hfind
              cases ok with
              | false => cases hfind
              | true =>
                rw [if_pos rfl] at hfind
                injection hfind with hys
                have HY := Lib.hid hys
                clear hys hfind'
                obtain ⟨yi, yA, yn, yc, yd⟩ := y
                simp only [Ob.val]
                have hfj6 := hfj.trans hf6 (fun _ _ h => h)
                go_wp2_with fail
                have hbo := Blk.new w6 49 #[.int .i64 yi, .slice yA yn yc]
                have hfa := (Fr.refl nob w6).alloc (.cells #[.int .i64 yi, .slice yA yn yc] 49)
                have hO7 := (hO6.nob hf6).nob hfa
                have hr7 := (hr6.nob hf6).nob hfa
                have hy7 := hy.nob hfa
                generalize hw7 : World.alloc w6 (.cells #[.int .i64 yi, .slice yA yn yc] 49) = w7 at hbo hfa hO7 hr7 hy7 ⊢
                have hcl : ∀ W, Fr nob w7 W → W.cell? ⟨w6.heap.size, 0, none⟩ = some (.int .i64 yi) ∧ W.cell? ⟨w6.heap.size, 1, none⟩ = some (.slice yA yn yc) := fun W h => ⟨(hbo.fr h (fun h => h)).cell 0, (hbo.fr h (fun h => h)).cell 1⟩
                have HL := Lib.hid hcl
                have hsm : ∀ W g, Fr nob w7 W → Blk W g 49 #[.int .i64 yi, .slice yA yn yc] → Calls Try.prog 23 #[.slice (some ⟨g, 0, none⟩) 1 1, .slice (some ⟨b, o + j * 2, none⟩) 1 (c4 - j)] W fun e w' => e = .returned (.bool true) ∧ Fr nob W w' := by
                  intro W g hfW hbW
                  have ht := (((hO7.nob hfW).cut (k := j) (cap := c4) (by omega) (by omega))).take_ (k := 1) (by omega)
                  rw [if_neg (by omega), Option.map_some, add_plain] at ht
                  have hone : Obs W (some ⟨g, 0, none⟩) 1 [⟨yi, yA, yn, yc, yd⟩] := ⟨Rd.of_blk hbW rfl (fun j u hu => by rw [Nat.zero_add]; simpa [Ob.cs] using hu), fun x hx => by simp at hx; subst hx; exact hy7.nob hfW⟩
                  have hd := List.drop_eq_getElem_cons (l := L4) (i := j) (by omega)
                  have hx' := (List.getElem?_eq_some_iff.1 HX.out).2
                  rw [hx'] at hd
                  rw [hd] at ht
                  refine (same_any _ _ 1 1 1 (c4 - j) _ _ W hone ht (by omega) (by omega) (by omega) (by omega)).mono ?_
                  rintro e w' ⟨rfl, hf⟩
                  refine ⟨?_, hf⟩
                  rw [decide_eq_true]
                  simp only [List.map_cons, List.map_nil, List.take_succ_cons, List.take_zero]
                  rw [← HY.out]
                have HSm := Lib.hid hsm
                clear hcl hsm
                have hwr : IntKind.i64.wrap ((j : Int) + 1) = (j : Int) + 1 := wrap_i64 _ (by omega) (by omega)
                have hcj : ¬ c4 = j := by omega
                have hjc : (0 : Int) ≤ (j : Int) + 1 ∧ (j : Int) + 1 ≤ (c4 : Int) := by omega
                have hfB : Fr nob w7 w7.drew := (Fr.refl nob w7).drew
                refine wp_region_held_drew (S := fun w' => w'.cell? ⟨w6.heap.size, 0, none⟩ = some (.int .i64 yi) ∧ w'.cell? ⟨w6.heap.size, 1, none⟩ = some (.slice yA yn yc)) (by kernel_rfl) (HL.out _ hfB) (fun hHeld => ?_)
                first
                  | (refine mix_skip 0 rfl (by kernel_rfl) (by kernel_rfl) (by kernel_rfl) (by rfl) (by assumption) (fun _ _ _ h => h) ?_)
                  | (refine mix_pure 0 (v := ?_) rfl (by kernel_rfl) (by kernel_rfl) (by kernel_rfl) (by rfl) (by assumption) (fun _ _ _ h => h) ?_ ?_; rotate_left; · (intro wS hSw; (try dsimp only at hSw); go_simp; try with_reducible rfl))
                simp only [Act.put, List.setIfInBounds_toArray, List.set_cons_zero, List.set_cons_succ]
                first
                  | (refine mix_skip 1 rfl (by kernel_rfl) (by kernel_rfl) (by kernel_rfl) (by rfl) (by assumption) (fun _ _ _ h => h) ?_)
                  | (refine mix_pure 1 (v := ?_) rfl (by kernel_rfl) (by kernel_rfl) (by kernel_rfl) (by rfl) (by assumption) (fun _ _ _ h => h) ?_ ?_; rotate_left; · (intro wS hSw; (try dsimp only at hSw); go_simp; try with_reducible rfl))
                simp only [Act.put, List.setIfInBounds_toArray, List.set_cons_zero, List.set_cons_succ]
                first
                  | (refine mix_skip 2 rfl (by kernel_rfl) (by kernel_rfl) (by kernel_rfl) (by rfl) (by assumption) (fun _ _ _ h => h) ?_)
                  | (refine mix_pure 2 (v := ?_) rfl (by kernel_rfl) (by kernel_rfl) (by kernel_rfl) (by rfl) (by assumption) (fun _ _ _ h => h) ?_ ?_; rotate_left; · (intro wS hSw; (try dsimp only at hSw); go_simp; try with_reducible rfl))
                simp only [Act.put, List.setIfInBounds_toArray, List.set_cons_zero, List.set_cons_succ]
                first
                  | (refine mix_skip 3 rfl (by kernel_rfl) (by kernel_rfl) (by kernel_rfl) (by rfl) (by assumption) (fun _ _ _ h => h) ?_)
                  | (refine mix_pure 3 (v := ?_) rfl (by kernel_rfl) (by kernel_rfl) (by kernel_rfl) (by rfl) (by assumption) (fun _ _ _ h => h) ?_ ?_; rotate_left; · (intro wS hSw; (try dsimp only at hSw); go_simp; try with_reducible rfl))
                simp only [Act.put, List.setIfInBounds_toArray, List.set_cons_zero, List.set_cons_succ]
                first
                  | (refine mix_skip 5 rfl (by kernel_rfl) (by kernel_rfl) (by kernel_rfl) (by rfl) (by assumption) (fun _ _ _ h => h) ?_)
                  | (refine mix_pure 5 (v := ?_) rfl (by kernel_rfl) (by kernel_rfl) (by kernel_rfl) (by rfl) (by assumption) (fun _ _ _ h => h) ?_ ?_; rotate_left; · (intro wS hSw; (try dsimp only at hSw); go_simp; try with_reducible rfl))
                simp only [Act.put, List.setIfInBounds_toArray, List.set_cons_zero, List.set_cons_succ]
                first
                  | (refine mix_skip 6 rfl (by kernel_rfl) (by kernel_rfl) (by kernel_rfl) (by rfl) (by assumption) (fun _ _ _ h => h) ?_)
                  | (refine mix_pure 6 (v := ?_) rfl (by kernel_rfl) (by kernel_rfl) (by kernel_rfl) (by rfl) (by assumption) (fun _ _ _ h => h) ?_ ?_; rotate_left; · (intro wS hSw; (try dsimp only at hSw); go_simp; try with_reducible rfl))
                simp only [Act.put, List.setIfInBounds_toArray, List.set_cons_zero, List.set_cons_succ]
                first
                  | (refine mix_skip 7 rfl (by kernel_rfl) (by kernel_rfl) (by kernel_rfl) (by rfl) (by assumption) (fun _ _ _ h => h) ?_)
                  | (refine mix_pure 7 (v := ?_) rfl (by kernel_rfl) (by kernel_rfl) (by kernel_rfl) (by rfl) (by assumption) (fun _ _ _ h => h) ?_ ?_; rotate_left; · (intro wS hSw; (try dsimp only at hSw); go_simp; try with_reducible rfl))
                simp only [Act.put, List.setIfInBounds_toArray, List.set_cons_zero, List.set_cons_succ]
                first
                  | (refine mix_skip 8 rfl (by kernel_rfl) (by kernel_rfl) (by kernel_rfl) (by rfl) (by assumption) (fun _ _ _ h => h) ?_)
                  | (refine mix_pure 8 (v := ?_) rfl (by kernel_rfl) (by kernel_rfl) (by kernel_rfl) (by rfl) (by assumption) (fun _ _ _ h => h) ?_ ?_; rotate_left; · (intro wS hSw; (try dsimp only at hSw); go_simp; try with_reducible rfl))
                simp only [Act.put, List.setIfInBounds_toArray, List.set_cons_zero, List.set_cons_succ]
                first
                  | (refine mix_skip 9 rfl (by kernel_rfl) (by kernel_rfl) (by kernel_rfl) (by rfl) (by assumption) (fun _ _ _ h => h) ?_)
                  | (refine mix_pure 9 (v := ?_) rfl (by kernel_rfl) (by kernel_rfl) (by kernel_rfl) (by rfl) (by assumption) (fun _ _ _ h => h) ?_ ?_; rotate_left; · (intro wS hSw; (try dsimp only at hSw); go_simp; try with_reducible rfl))
                simp only [Act.put, List.setIfInBounds_toArray, List.set_cons_zero, List.set_cons_succ]
                refine mix_one 4 rfl (by kernel_rfl) (fun K hK => ?_)
                go_simp
                refine hK.out _ _ (HL.out _ ((Fr.refl nob w7).alloc _).drew) (fun hHeld0 => ?_)
                clear hK K
                try simp only [Act.put, List.setIfInBounds_toArray, List.set_cons_zero, List.set_cons_succ]
                refine mix_one 10 rfl (by kernel_rfl) (fun K hK => ?_)
                go_simp
                refine (HSm.out _ w7.heap.size ((Fr.refl nob w7).alloc _).drew (Blk.new w7 _ _).drew).mono ?_
                rintro e w8 ⟨rfl, hf8⟩
                refine hK.out _ _ (HL.out _ ((((Fr.refl nob w7).alloc _).drew).trans hf8 (fun _ _ h => h))) (fun hHeld1 => ?_)
                clear hK K
                try simp only [Act.put, List.setIfInBounds_toArray, List.set_cons_zero, List.set_cons_succ]
                first
                  | (refine mix_skip 11 rfl (by kernel_rfl) (by kernel_rfl) (by kernel_rfl) (by rfl) (by assumption) (fun _ _ _ h => h) ?_)
                  | (refine mix_pure 11 (v := ?_) rfl (by kernel_rfl) (by kernel_rfl) (by kernel_rfl) (by rfl) (by assumption) (fun _ _ _ h => h) ?_ ?_; rotate_left; · (intro wS hSw; (try dsimp only at hSw); go_simp; try with_reducible rfl))
                simp only [Act.put, List.setIfInBounds_toArray, List.set_cons_zero, List.set_cons_succ]
                first
                  | (refine mix_skip 12 rfl (by kernel_rfl) (by kernel_rfl) (by kernel_rfl) (by rfl) (by assumption) (fun _ _ _ h => h) ?_)
                  | (refine mix_pure 12 (v := ?_) rfl (by kernel_rfl) (by kernel_rfl) (by kernel_rfl) (by rfl) (by assumption) (fun _ _ _ h => h) ?_ ?_; rotate_left; · (intro wS hSw; (try dsimp only at hSw); go_simp; try with_reducible rfl))
                simp only [Act.put, List.setIfInBounds_toArray, List.set_cons_zero, List.set_cons_succ]
                refine wpAnyH_done (by kernel_rfl) ?_ _
                go_wp2_with fail
                have hf78 : Fr nob w7 w8 := (((Fr.refl nob w7).alloc _).drew).trans hf8 (fun _ _ h => h)
                have hf68 : Fr nob w6 w8 := hfa.trans hf78 (fun _ _ h => h)
                have hf58 := hfj6.trans hf68 (fun _ _ h => h)
                have hO8 := hO7.nob hf78
                have hr8 := hr7.nob hf78
                clear HL HSm
                have hbw : b < w8.heap.size := Nat.lt_of_lt_of_le hb ((hf6.trans hf68 (fun _ _ h => h))).size
                have hc8 : w8.cell? ⟨b, o + j * 2, none⟩ = some (.int .i64 x.id) := (((hf6.trans hf68 (fun _ _ h => h))).cell (p := ⟨b, o + j * 2, none⟩) hb (fun h => h)).trans hc0
                have hcl : ∀ W, Fr nob w8 W → W.cell? ⟨b, o + j * 2, none⟩ = some (.int .i64 x.id) := fun W h => (h.cell (p := ⟨b, o + j * 2, none⟩) hbw (fun h => h)).trans hc8
                have HL := Lib.hid hcl
                have hgo : ∀ W, Fr nob w8 W → Calls Try.prog 22 #[.slice A n c, .int .i64 (if 3 < (k : Int) + 1 then 3 else (k : Int) + 1)] W (objsPost (ofS (L.map Ob.s) (min ((k : Int) + 1) 3)) W) := fun W h => by
                  rw [show (if 3 < (k : Int) + 1 then 3 else (k : Int) + 1) = min ((k : Int) + 1) 3 by split <;> omega]
                  exact of_any A n c L _ W (hr8.nob h) hn hc hL (by omega)
                have GO := Lib.hid hgo
                have hgf : ∀ W A' n' c' L', Obs W A' n' L' → n' ≤ c' → c' ≤ 9223372036854775807 → (∀ x ∈ L', x.n ≤ 100000) → L'.map Ob.s = ofS (L.map Ob.s) (min ((k : Int) + 1) 3) → Calls Try.prog 24 #[.slice A' n' c', .int .i64 x.id] W (fun e w' => Fr nob W w' ∧ ∃ zi zA zn zc, e = .returned (.tuple #[.agg #[.int .i64 zi, .slice zA zn zc], .bool true])) := by
                  intro W A' n' c' L' hO' hn' hc' hL' hS'
                  refine (find_any A' n' c' L' x.id W hO' hn' hc' hL').mono ?_
                  rintro e w' ⟨hf', z, ok, rfl, _, hz, _⟩
                  rw [hS', show findS (ofS (L.map Ob.s) (min ((k : Int) + 1) 3)) x.id = some x.s from sorts_next HR.out HK.out HM.out] at hz
                  cases ok with
                  | false => cases hz
                  | true => exact ⟨hf', z.id, z.A, z.n, z.c, rfl⟩
                have GF := Lib.hid hgf
                have hwk : IntKind.i64.wrap ((k : Int) + 1) = (k : Int) + 1 := wrap_i64 _ (by omega) (by omega)
                clear hcl hgo hgf hc8 hc0 hc1
                refine wp_region_held_drew (S := fun w' => w'.cell? ⟨b, o + j * 2, none⟩ = some (.int .i64 x.id)) (by kernel_rfl) (HL.out _ ((Fr.refl nob w8).drew)) (fun hHeld => ?_)
                first
                  | (refine mix_skip 0 rfl (by kernel_rfl) (by kernel_rfl) (by kernel_rfl) (by rfl) (by assumption) (fun _ _ _ h => h) ?_)
                  | (refine mix_pure 0 (v := ?_) rfl (by kernel_rfl) (by kernel_rfl) (by kernel_rfl) (by rfl) (by assumption) (fun _ _ _ h => h) ?_ ?_; rotate_left; · (intro wS hSw; (try dsimp only at hSw); go_simp; try with_reducible rfl))
                simp only [Act.put, List.setIfInBounds_toArray, List.set_cons_zero, List.set_cons_succ]
                first
                  | (refine mix_skip 1 rfl (by kernel_rfl) (by kernel_rfl) (by kernel_rfl) (by rfl) (by assumption) (fun _ _ _ h => h) ?_)
                  | (refine mix_pure 1 (v := ?_) rfl (by kernel_rfl) (by kernel_rfl) (by kernel_rfl) (by rfl) (by assumption) (fun _ _ _ h => h) ?_ ?_; rotate_left; · (intro wS hSw; (try dsimp only at hSw); go_simp; try with_reducible rfl))
                simp only [Act.put, List.setIfInBounds_toArray, List.set_cons_zero, List.set_cons_succ]
                first
                  | (refine mix_skip 2 rfl (by kernel_rfl) (by kernel_rfl) (by kernel_rfl) (by rfl) (by assumption) (fun _ _ _ h => h) ?_)
                  | (refine mix_pure 2 (v := ?_) rfl (by kernel_rfl) (by kernel_rfl) (by kernel_rfl) (by rfl) (by assumption) (fun _ _ _ h => h) ?_ ?_; rotate_left; · (intro wS hSw; (try dsimp only at hSw); go_simp; try with_reducible rfl))
                simp only [Act.put, List.setIfInBounds_toArray, List.set_cons_zero, List.set_cons_succ]
                first
                  | (refine mix_skip 3 rfl (by kernel_rfl) (by kernel_rfl) (by kernel_rfl) (by rfl) (by assumption) (fun _ _ _ h => h) ?_)
                  | (refine mix_pure 3 (v := ?_) rfl (by kernel_rfl) (by kernel_rfl) (by kernel_rfl) (by rfl) (by assumption) (fun _ _ _ h => h) ?_ ?_; rotate_left; · (intro wS hSw; (try dsimp only at hSw); go_simp; try with_reducible rfl))
                simp only [Act.put, List.setIfInBounds_toArray, List.set_cons_zero, List.set_cons_succ]
                first
                  | (refine mix_skip 5 rfl (by kernel_rfl) (by kernel_rfl) (by kernel_rfl) (by rfl) (by assumption) (fun _ _ _ h => h) ?_)
                  | (refine mix_pure 5 (v := ?_) rfl (by kernel_rfl) (by kernel_rfl) (by kernel_rfl) (by rfl) (by assumption) (fun _ _ _ h => h) ?_ ?_; rotate_left; · (intro wS hSw; (try dsimp only at hSw); go_simp; try with_reducible rfl))
                simp only [Act.put, List.setIfInBounds_toArray, List.set_cons_zero, List.set_cons_succ]
                first
                  | (refine mix_skip 6 rfl (by kernel_rfl) (by kernel_rfl) (by kernel_rfl) (by rfl) (by assumption) (fun _ _ _ h => h) ?_)
                  | (refine mix_pure 6 (v := ?_) rfl (by kernel_rfl) (by kernel_rfl) (by kernel_rfl) (by rfl) (by assumption) (fun _ _ _ h => h) ?_ ?_; rotate_left; · (intro wS hSw; (try dsimp only at hSw); go_simp; try with_reducible rfl))
                simp only [Act.put, List.setIfInBounds_toArray, List.set_cons_zero, List.set_cons_succ]
                first
                  | (refine mix_skip 7 rfl (by kernel_rfl) (by kernel_rfl) (by kernel_rfl) (by rfl) (by assumption) (fun _ _ _ h => h) ?_)
                  | (refine mix_pure 7 (v := ?_) rfl (by kernel_rfl) (by kernel_rfl) (by kernel_rfl) (by rfl) (by assumption) (fun _ _ _ h => h) ?_ ?_; rotate_left; · (intro wS hSw; (try dsimp only at hSw); go_simp; try with_reducible rfl))
                simp only [Act.put, List.setIfInBounds_toArray, List.set_cons_zero, List.set_cons_succ]
                first
                  | (refine mix_skip 8 rfl (by kernel_rfl) (by kernel_rfl) (by kernel_rfl) (by rfl) (by assumption) (fun _ _ _ h => h) ?_)
                  | (refine mix_pure 8 (v := ?_) rfl (by kernel_rfl) (by kernel_rfl) (by kernel_rfl) (by rfl) (by assumption) (fun _ _ _ h => h) ?_ ?_; rotate_left; · (intro wS hSw; (try dsimp only at hSw); go_simp; try with_reducible rfl))
                simp only [Act.put, List.setIfInBounds_toArray, List.set_cons_zero, List.set_cons_succ]
                first
                  | (refine mix_skip 9 rfl (by kernel_rfl) (by kernel_rfl) (by kernel_rfl) (by rfl) (by assumption) (fun _ _ _ h => h) ?_)
                  | (refine mix_pure 9 (v := ?_) rfl (by kernel_rfl) (by kernel_rfl) (by kernel_rfl) (by rfl) (by assumption) (fun _ _ _ h => h) ?_ ?_; rotate_left; · (intro wS hSw; (try dsimp only at hSw); go_simp; try with_reducible rfl))
                simp only [Act.put, List.setIfInBounds_toArray, List.set_cons_zero, List.set_cons_succ]
                refine mix_two 4 14 rfl rfl (by kernel_rfl) (fun K hK => ?_) (fun K hK => ?_)
                · go_simp
                  refine (GO.out _ ((Fr.refl nob w8).drew)).mono ?_
                  rintro e wA ⟨hfA, A9, n9, c9, L9, rfl, hS9, hO9, hn9, hc9, hL9⟩
                  refine hK.out _ _ (HL.out _ (((Fr.refl nob w8).drew).trans hfA (fun _ _ h => h))) (fun hHeld9 => ?_)
                  clear hK K
                  try simp only [Act.put, List.setIfInBounds_toArray, List.set_cons_zero, List.set_cons_succ]
                  refine mix_two 10 14 rfl rfl (by kernel_rfl) (fun K hK => ?_) (fun K hK => ?_)
                  · go_simp
                    refine (GF.out _ A9 n9 c9 L9 (hO9) hn9 hc9 hL9 hS9).mono ?_
                    rintro e wB ⟨hfB, zi, zA, zn, zc, rfl⟩
                    refine hK.out _ _ (HL.out _ ((((Fr.refl nob w8).drew).trans hfA (fun _ _ h => h)).trans hfB (fun _ _ h => h))) (fun hHeld10 => ?_)
                    clear hK K
                    try simp only [Act.put, List.setIfInBounds_toArray, List.set_cons_zero, List.set_cons_succ]
                    first
                      | (refine mix_skip 11 rfl (by kernel_rfl) (by kernel_rfl) (by kernel_rfl) (by rfl) (by assumption) (fun _ _ _ h => h) ?_)
                      | (refine mix_pure 11 (v := ?_) rfl (by kernel_rfl) (by kernel_rfl) (by kernel_rfl) (by rfl) (by assumption) (fun _ _ _ h => h) ?_ ?_; rotate_left; · (intro wS hSw; (try dsimp only at hSw); go_simp; try with_reducible rfl))
                    simp only [Act.put, List.setIfInBounds_toArray, List.set_cons_zero, List.set_cons_succ]
                    first
                      | (refine mix_skip 12 rfl (by kernel_rfl) (by kernel_rfl) (by kernel_rfl) (by rfl) (by assumption) (fun _ _ _ h => h) ?_)
                      | (refine mix_pure 12 (v := ?_) rfl (by kernel_rfl) (by kernel_rfl) (by kernel_rfl) (by rfl) (by assumption) (fun _ _ _ h => h) ?_ ?_; rotate_left; · (intro wS hSw; (try dsimp only at hSw); go_simp; try with_reducible rfl))
                    simp only [Act.put, List.setIfInBounds_toArray, List.set_cons_zero, List.set_cons_succ]
                    first
                      | (refine mix_skip 13 rfl (by kernel_rfl) (by kernel_rfl) (by kernel_rfl) (by rfl) (by assumption) (fun _ _ _ h => h) ?_)
                      | (refine mix_pure 13 (v := ?_) rfl (by kernel_rfl) (by kernel_rfl) (by kernel_rfl) (by rfl) (by assumption) (fun _ _ _ h => h) ?_ ?_; rotate_left; · (intro wS hSw; (try dsimp only at hSw); go_simp; try with_reducible rfl))
                    simp only [Act.put, List.setIfInBounds_toArray, List.set_cons_zero, List.set_cons_succ]
                    refine mix_one 14 rfl (by kernel_rfl) (fun K hK => ?_)
                    go_simp
                    refine hK.out _ _ (HL.out _ (((((Fr.refl nob w8).drew).trans hfA (fun _ _ h => h)).trans hfB (fun _ _ h => h)).alloc (.cells #[.int .i64 0, .slice none 0 0] 49))) (fun hHeld14 => ?_)
                    clear hK K
                    try simp only [Act.put, List.setIfInBounds_toArray, List.set_cons_zero, List.set_cons_succ]
                    refine mix_one 15 rfl (by kernel_rfl) (fun K hK => ?_)
                    have hbS := Blk.new wB 49 #[.int .i64 0, .slice none 0 0]
                    have qS0 : ∀ i, World.cell? _ ⟨wB.heap.size, i, none⟩ = #[Value.int .i64 0, .slice none 0 0][i]? := fun i => hbS.cell i
                    have qS1 : ∀ i, World.frozen? _ ⟨wB.heap.size, i, none⟩ = false := fun i => hbS.frozen i
                    have hfS := ((((Fr.refl nob w8).drew).trans hfA (fun _ _ h => h)).trans hfB (fun _ _ h => h)).alloc (.cells #[.int .i64 0, .slice none 0 0] 49)
                    have hgS : w8.heap.size ≤ wB.heap.size := ((((Fr.refl nob w8).drew).trans hfA (fun _ _ h => h)).trans hfB (fun _ _ h => h)).size
                    go_simp
                    refine hK.out _ _ (HL.out _ (((((Fr.refl nob w8).drew).trans hfA (fun _ _ h => h)).trans hfB (fun _ _ h => h)).alloc (.cells #[.int .i64 zi, .slice zA zn zc] 49))) (fun hHeld15 => ?_)
                    clear hK K
                    try simp only [Act.put, List.setIfInBounds_toArray, List.set_cons_zero, List.set_cons_succ]
                    first
                      | (refine mix_skip 16 rfl (by kernel_rfl) (by kernel_rfl) (by kernel_rfl) (by rfl) (by assumption) (fun _ _ _ h => h) ?_)
                      | (refine mix_pure 16 (v := ?_) rfl (by kernel_rfl) (by kernel_rfl) (by kernel_rfl) (by rfl) (by assumption) (fun _ _ _ h => h) ?_ ?_; rotate_left; · (intro wS hSw; (try dsimp only at hSw); go_simp; try with_reducible rfl))
                    simp only [Act.put, List.setIfInBounds_toArray, List.set_cons_zero, List.set_cons_succ]
                    refine wpAnyH_done (by kernel_rfl) ?_ _
                    have hfE := ((((Fr.refl nob w8).drew).trans hfA (fun _ _ h => h)).trans hfB (fun _ _ h => h)).alloc (.cells #[.int .i64 zi, .slice zA zn zc] 49)
                    go_wp2_with fail
                    go_roundw
                    case rel => exact ⟨j + 1, by omega, by go_num, hf58.trans hfE (fun _ _ h => h)⟩
                    case measure => simp [intOf]; omega
                  · go_simp
                    refine hK.out _ _ (HL.out _ ((((Fr.refl nob w8).drew).trans hfA (fun _ _ h => h)).alloc (.cells #[.int .i64 0, .slice none 0 0] 49))) (fun hHeld10 => ?_)
                    clear hK K
                    try simp only [Act.put, List.setIfInBounds_toArray, List.set_cons_zero, List.set_cons_succ]
                    refine mix_one 10 rfl (by kernel_rfl) (fun K hK => ?_)
                    go_simp
                    refine (GF.out _ A9 n9 c9 L9 (hO9.nob ((Fr.refl nob wA).alloc (.cells #[.int .i64 0, .slice none 0 0] 49))) hn9 hc9 hL9 hS9).mono ?_
                    rintro e wB ⟨hfB, zi, zA, zn, zc, rfl⟩
                    refine hK.out _ _ (HL.out _ (((((Fr.refl nob w8).drew).trans hfA (fun _ _ h => h)).alloc (.cells #[.int .i64 0, .slice none 0 0] 49)).trans hfB (fun _ _ h => h))) (fun hHeld11 => ?_)
                    clear hK K
                    try simp only [Act.put, List.setIfInBounds_toArray, List.set_cons_zero, List.set_cons_succ]
                    first
                      | (refine mix_skip 11 rfl (by kernel_rfl) (by kernel_rfl) (by kernel_rfl) (by rfl) (by assumption) (fun _ _ _ h => h) ?_)
                      | (refine mix_pure 11 (v := ?_) rfl (by kernel_rfl) (by kernel_rfl) (by kernel_rfl) (by rfl) (by assumption) (fun _ _ _ h => h) ?_ ?_; rotate_left; · (intro wS hSw; (try dsimp only at hSw); go_simp; try with_reducible rfl))
                    simp only [Act.put, List.setIfInBounds_toArray, List.set_cons_zero, List.set_cons_succ]
                    first
                      | (refine mix_skip 12 rfl (by kernel_rfl) (by kernel_rfl) (by kernel_rfl) (by rfl) (by assumption) (fun _ _ _ h => h) ?_)
                      | (refine mix_pure 12 (v := ?_) rfl (by kernel_rfl) (by kernel_rfl) (by kernel_rfl) (by rfl) (by assumption) (fun _ _ _ h => h) ?_ ?_; rotate_left; · (intro wS hSw; (try dsimp only at hSw); go_simp; try with_reducible rfl))
                    simp only [Act.put, List.setIfInBounds_toArray, List.set_cons_zero, List.set_cons_succ]
                    first
                      | (refine mix_skip 13 rfl (by kernel_rfl) (by kernel_rfl) (by kernel_rfl) (by rfl) (by assumption) (fun _ _ _ h => h) ?_)
                      | (refine mix_pure 13 (v := ?_) rfl (by kernel_rfl) (by kernel_rfl) (by kernel_rfl) (by rfl) (by assumption) (fun _ _ _ h => h) ?_ ?_; rotate_left; · (intro wS hSw; (try dsimp only at hSw); go_simp; try with_reducible rfl))
                    simp only [Act.put, List.setIfInBounds_toArray, List.set_cons_zero, List.set_cons_succ]
                    refine mix_one 15 rfl (by kernel_rfl) (fun K hK => ?_)
                    have hbS := (Blk.new wA 49 #[.int .i64 0, .slice none 0 0]).fr hfB (fun h => h)
                    have qS0 : ∀ i, World.cell? _ ⟨wA.heap.size, i, none⟩ = #[Value.int .i64 0, .slice none 0 0][i]? := fun i => hbS.cell i
                    have qS1 : ∀ i, World.frozen? _ ⟨wA.heap.size, i, none⟩ = false := fun i => hbS.frozen i
                    have hfS := ((((Fr.refl nob w8).drew).trans hfA (fun _ _ h => h)).alloc (.cells #[.int .i64 0, .slice none 0 0] 49)).trans hfB (fun _ _ h => h)
                    have hgS : w8.heap.size ≤ wA.heap.size := (((Fr.refl nob w8).drew).trans hfA (fun _ _ h => h)).size
                    go_simp
                    refine hK.out _ _ (HL.out _ (hfS.newer (put2 hbS (.int .i64 zi) (.slice zA zn zc)).2 (fun i hi => (show i = _ from hi) ▸ hgS))) (fun hHeld15 => ?_)
                    clear hK K
                    try simp only [Act.put, List.setIfInBounds_toArray, List.set_cons_zero, List.set_cons_succ]
                    first
                      | (refine mix_skip 16 rfl (by kernel_rfl) (by kernel_rfl) (by kernel_rfl) (by rfl) (by assumption) (fun _ _ _ h => h) ?_)
                      | (refine mix_pure 16 (v := ?_) rfl (by kernel_rfl) (by kernel_rfl) (by kernel_rfl) (by rfl) (by assumption) (fun _ _ _ h => h) ?_ ?_; rotate_left; · (intro wS hSw; (try dsimp only at hSw); go_simp; try with_reducible rfl))
                    simp only [Act.put, List.setIfInBounds_toArray, List.set_cons_zero, List.set_cons_succ]
                    refine wpAnyH_done (by kernel_rfl) ?_ _
                    have hfE := hfS.newer (put2 hbS (.int .i64 zi) (.slice zA zn zc)).2 (fun i hi => (show i = _ from hi) ▸ hgS)
                    go_wp2_with fail
                    go_roundw
                    case rel => exact ⟨j + 1, by omega, by go_num, hf58.trans hfE (fun _ _ h => h)⟩
                    case measure => simp [intOf]; omega
                · go_simp
                  refine hK.out _ _ (HL.out _ (((Fr.refl nob w8).alloc (.cells #[.int .i64 0, .slice none 0 0] 49)).drew)) (fun hHeld9 => ?_)
                  clear hK K
                  try simp only [Act.put, List.setIfInBounds_toArray, List.set_cons_zero, List.set_cons_succ]
                  refine mix_one 4 rfl (by kernel_rfl) (fun K hK => ?_)
                  go_simp
                  refine (GO.out _ (((Fr.refl nob w8).alloc (.cells #[.int .i64 0, .slice none 0 0] 49)).drew)).mono ?_
                  rintro e wA ⟨hfA, A9, n9, c9, L9, rfl, hS9, hO9, hn9, hc9, hL9⟩
                  refine hK.out _ _ (HL.out _ ((((Fr.refl nob w8).alloc (.cells #[.int .i64 0, .slice none 0 0] 49)).drew).trans hfA (fun _ _ h => h))) (fun hHeld10 => ?_)
                  clear hK K
                  try simp only [Act.put, List.setIfInBounds_toArray, List.set_cons_zero, List.set_cons_succ]
                  refine mix_one 10 rfl (by kernel_rfl) (fun K hK => ?_)
                  go_simp
                  refine (GF.out _ A9 n9 c9 L9 (hO9) hn9 hc9 hL9 hS9).mono ?_
                  rintro e wB ⟨hfB, zi, zA, zn, zc, rfl⟩
                  refine hK.out _ _ (HL.out _ (((((Fr.refl nob w8).alloc (.cells #[.int .i64 0, .slice none 0 0] 49)).drew).trans hfA (fun _ _ h => h)).trans hfB (fun _ _ h => h))) (fun hHeld11 => ?_)
                  clear hK K
                  try simp only [Act.put, List.setIfInBounds_toArray, List.set_cons_zero, List.set_cons_succ]
                  first
                    | (refine mix_skip 11 rfl (by kernel_rfl) (by kernel_rfl) (by kernel_rfl) (by rfl) (by assumption) (fun _ _ _ h => h) ?_)
                    | (refine mix_pure 11 (v := ?_) rfl (by kernel_rfl) (by kernel_rfl) (by kernel_rfl) (by rfl) (by assumption) (fun _ _ _ h => h) ?_ ?_; rotate_left; · (intro wS hSw; (try dsimp only at hSw); go_simp; try with_reducible rfl))
                  simp only [Act.put, List.setIfInBounds_toArray, List.set_cons_zero, List.set_cons_succ]
                  first
                    | (refine mix_skip 12 rfl (by kernel_rfl) (by kernel_rfl) (by kernel_rfl) (by rfl) (by assumption) (fun _ _ _ h => h) ?_)
                    | (refine mix_pure 12 (v := ?_) rfl (by kernel_rfl) (by kernel_rfl) (by kernel_rfl) (by rfl) (by assumption) (fun _ _ _ h => h) ?_ ?_; rotate_left; · (intro wS hSw; (try dsimp only at hSw); go_simp; try with_reducible rfl))
                  simp only [Act.put, List.setIfInBounds_toArray, List.set_cons_zero, List.set_cons_succ]
                  first
                    | (refine mix_skip 13 rfl (by kernel_rfl) (by kernel_rfl) (by kernel_rfl) (by rfl) (by assumption) (fun _ _ _ h => h) ?_)
                    | (refine mix_pure 13 (v := ?_) rfl (by kernel_rfl) (by kernel_rfl) (by kernel_rfl) (by rfl) (by assumption) (fun _ _ _ h => h) ?_ ?_; rotate_left; · (intro wS hSw; (try dsimp only at hSw); go_simp; try with_reducible rfl))
                  simp only [Act.put, List.setIfInBounds_toArray, List.set_cons_zero, List.set_cons_succ]
                  refine mix_one 15 rfl (by kernel_rfl) (fun K hK => ?_)
                  have hbS := (((Blk.new w8 49 #[.int .i64 0, .slice none 0 0]).drew).fr hfA (fun h => h)).fr hfB (fun h => h)
                  have qS0 : ∀ i, World.cell? _ ⟨w8.heap.size, i, none⟩ = #[Value.int .i64 0, .slice none 0 0][i]? := fun i => hbS.cell i
                  have qS1 : ∀ i, World.frozen? _ ⟨w8.heap.size, i, none⟩ = false := fun i => hbS.frozen i
                  have hfS := ((((Fr.refl nob w8).alloc (.cells #[.int .i64 0, .slice none 0 0] 49)).drew).trans hfA (fun _ _ h => h)).trans hfB (fun _ _ h => h)
                  have hgS : w8.heap.size ≤ w8.heap.size := Nat.le_refl _
                  go_simp
                  refine hK.out _ _ (HL.out _ (hfS.newer (put2 hbS (.int .i64 zi) (.slice zA zn zc)).2 (fun i hi => (show i = _ from hi) ▸ hgS))) (fun hHeld15 => ?_)
                  clear hK K
                  try simp only [Act.put, List.setIfInBounds_toArray, List.set_cons_zero, List.set_cons_succ]
                  first
                    | (refine mix_skip 16 rfl (by kernel_rfl) (by kernel_rfl) (by kernel_rfl) (by rfl) (by assumption) (fun _ _ _ h => h) ?_)
                    | (refine mix_pure 16 (v := ?_) rfl (by kernel_rfl) (by kernel_rfl) (by kernel_rfl) (by rfl) (by assumption) (fun _ _ _ h => h) ?_ ?_; rotate_left; · (intro wS hSw; (try dsimp only at hSw); go_simp; try with_reducible rfl))
                  simp only [Act.put, List.setIfInBounds_toArray, List.set_cons_zero, List.set_cons_succ]
                  refine wpAnyH_done (by kernel_rfl) ?_ _
                  have hfE := hfS.newer (put2 hbS (.int .i64 zi) (.slice zA zn zc)).2 (fun i hi => (show i = _ from hi) ▸ hgS)
                  go_wp2_with fail
                  go_roundw
                  case rel => exact ⟨j + 1, by omega, by go_num, hf58.trans hfE (fun _ _ h => h)⟩
                  case measure => simp [intOf]; omega
            · obtain rfl : j = n4 := by omega
              have hO6 := hO5.nob hfj
              have hr6 := hr5.nob hfj
              obtain ⟨kk, hkk, hfrS, hcase⟩ := sorts_from HR.out HK.out id
              rw [← H4.out, List.length_map, hl4] at hkk
              go_wp2_with fail
              refine (from_any A n c L k id _ hr6 hn hc hL (by omega)).mono ?_
              rintro e w6 ⟨hf6, A6, n6, c6, L6, rfl, hS6, hO7, hn6, hc6, hL6⟩
              have hfj6 := hfj.trans hf6 (fun _ _ h => h)
              have hO8 := hO6.nob hf6
              rw [hfrS, ← H4.out] at hS6
              have hl6 := hO7.len
              have hjn : j = kk + n6 := by
                have := congrArg List.length hS6
                rw [List.length_map, hl6, List.length_drop, List.length_map, hl4] at this
                omega
              subst hjn
              have hn6p : 1 ≤ n6 := by omega
              obtain ⟨fb, fo, x0, rfl, hfb, hx0, hx0c, _, _⟩ := hO7.at_ (k := 0) (by omega)
              have hx0s : (ofS (L.map Ob.s) k)[kk]? = some x0.s := by
                have := congrArg (·[0]?) hS6
                rw [← H4.out]
                simpa [hx0] using this.symm
              have hcut := hO8.cut (k := kk) (cap := c4) (by omega) (by omega)
              rw [if_neg (by omega), Nat.add_sub_cancel_left] at hcut
              have hck : ¬ c4 = kk := by omega
              have HS6 := Lib.hid (show L6.map Ob.s = (L4.drop kk).map Ob.s by rw [hS6, List.map_drop])
              have hx0i : x0.id = id ∨ kk = 0 := by
                rcases hcase with h0 | ⟨y, hy, hyi⟩
                · exact .inr h0
                · rw [hx0s] at hy
                  injection hy with hy
                  exact .inl (by rw [← hyi, ← hy]; rfl)
              clear hfrS hcase hS6 hl6 hx0 hx0s hkk
              simp only [Nat.zero_mul, Nat.add_zero] at hx0c
              have HX0 := Lib.hid hx0i
              clear hx0i
              go_wp2_with fail
              refine (same_any _ _ n6 n6 c6 (c4 - kk) L6 (L4.drop kk) _ hO7 hcut hn6 hc6 (by omega) (by omega)).mono ?_
              rintro e w7 ⟨rfl, hf7⟩
              rw [decide_eq_true HS6.out]
              have hx0d : w7.cell? ⟨fb, fo, none⟩ = some (.int .i64 x0.id) := (hf7.cell (p := ⟨fb, fo, none⟩) hfb (fun h => h)).trans hx0c
              have hf37 := (hfk5.trans hfj6 (fun _ _ h => h)).trans hf7 (fun _ _ h => h)
              by_cases hxe : x0.id = id
              · have hne : (x0.id != id) = false := by simp [hxe]
                clear hxe
                go_wp2_with fail
                go_roundw
                case rel => exact ⟨k + 1, by omega, by omega, by go_num, hf37⟩
                case measure => simp [intOf]; omega
              · have hne : (x0.id != id) = true := by simp [hxe]
                have hk0 : kk = 0 := HX0.out.resolve_left hxe
                clear hxe
                subst hk0
                have hnn : ((n6 : Int) != (n6 : Int)) = false := by simp
                go_wp2_with fail
                go_roundw
                case rel => exact ⟨k + 1, by omega, by omega, by go_num, hf37⟩
                case measure => simp [intOf]; omega
        · obtain rfl : k = 4 := by omega
          go_wp2_with fail
          refine (sure_any _).mono ?_
          rintro e w4 ⟨rfl, hf4⟩
          go_wp2_with fail
          go_ret
          exact ⟨rfl, (hfr3.trans hf (fun _ _ h => h)).trans hf4 (fun _ _ h => h)⟩
end Go.Proofs.Ytmpjdploacfmeaa
