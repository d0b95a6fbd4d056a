/- Contract of the document's Answer (bilgeref21). -/
import Derived.Test.YthdenkmmiadeiaaId15
import Derived.Test.YthdenkmmiadeiaaIdOne
namespace Go.Proofs.Ythdenkmmiadeiaa
set_option linter.unusedSimpArgs false
set_option linter.unusedVariables false
open Go.RowKit

theorem stream_told {S : List (Int × List Int)} (h : rightS S = true) {code id : Int} (hc : 1 ≤ code ∧ code ≤ 4) : ∃ b, writeS (streamP S code id) = some b := by
  have := partS_ok hc (sorts_level h) (F := fromS S code id) (fun x hx => by have := right_in h x (from_sub hx); exact ⟨⟨this.1, this.2.1⟩, this.2.2⟩)
  exact ⟨_, by rw [writeS_ok, streamP, if_pos this]⟩
theorem one_told {S : List (Int × List Int)} (h : rightS S = true) {x : Int × List Int} (hx : x ∈ S) : partS ⟨4, levelS S, false, 0, []⟩ [x] = oneP S x ∧ ∃ b, writeS (oneP S x) = some b := by
  have hb := right_in h x hx
  have hf : fitN 6 [x] = 1 := by rw [fitN, if_pos (by omega), fitN]
  have he : partS ⟨4, levelS S, false, 0, []⟩ [x] = oneP S x := by rw [partS_all (by rw [hf]; rfl)]; rfl
  have := partS_ok (code := 4) (lv := levelS S) (F := [x]) (by omega) (sorts_level h) (fun y hy => by simp at hy; subst hy; exact ⟨⟨hb.1, hb.2.1⟩, hb.2.2⟩)
  rw [he] at this
  exact ⟨he, _, by rw [writeS_ok, if_pos this]⟩

set_option maxHeartbeats 8000000 in
set_option maxRecDepth 100000 in
theorem ref21_answer (A : Option Addr) (n c : Nat) (L : List Ob) (B : Option Addr) (m cb : Nat) (d : List Int) (w : World) (hO : Obs w A n L) (hn : n ≤ c) (hc : c ≤ 9223372036854775807) (hm140 : n ≤ 140)
    (hr : Rd w 1 B m (nums .u8 d)) (h8 : bytes8 d) (hmc : m ≤ cb) (hcb : cb ≤ 9223372036854775807) :
    Calls Try.prog 20 #[.slice A n c, .slice B m cb] w (bytesPost (answerS (L.map Ob.s) d).1 (answerS (L.map Ob.s) d).2 w) := by
  have hl := hr.numlen
  have HL := Lib.hid hl
  clear hl
  obtain ⟨S, hS⟩ : ∃ S, S = L.map Ob.s := ⟨_, rfl⟩
  have hright := ref20_right A n c L w hO hn hc
  rw [← hS] at hright
  rw [← hS]
  obtain ⟨an, han⟩ : ∃ an, an = answerS S d := ⟨_, rfl⟩
  rw [← han]
  have HAN := Lib.hid han
  have HS := Lib.hid hS
  clear han hS
  go_enter Try.func20, Try.ntmps20
  go_wp2_with fail
  refine hright.mono ?_
  rintro e w1 ⟨rfl, hf1⟩
  cases hrt : rightS S with
  | false =>
    have HRT := Lib.hid hrt
    clear hrt
    go_wp2_with fail
    go_ret2
    have ha : an = ([], 11) := by rw [HAN.out, answerS, if_pos HRT.out]
    rw [ha]
    exact nilPost hf1
  | true =>
    have HRT := Lib.hid hrt
    clear hrt
    have hin := right_in HRT.out
    by_cases hm0 : m = 0
    · have hd0 : d = [] := List.eq_nil_of_length_eq_zero (by rw [HL.out]; exact hm0)
      have ha : an = ([], 1) := by rw [HAN.out, answerS, if_neg (by rw [HRT.out]; simp), if_pos (.inl hd0)]
      have HA := Lib.hid ha
      subst hm0
      clear hd0 ha hin
      go_wp2_with fail
      go_ret2
      rw [HA.out]
      exact nilPost hf1
    obtain ⟨bB, oB, hB, hbB, _⟩ := hr.num (i := 0) (by omega)
    subst hB
    have c0 := num2 hr rfl 0 (by omega)
    rw [Nat.add_zero] at c0
    have hne0 : d ≠ [] := fun h => by have := HL.out; rw [h] at this; simp at this; omega
    obtain ⟨d0, hd0⟩ : ∃ x, x = d.getD 0 0 := ⟨_, rfl⟩
    rw [← hd0] at c0
    have HD0 := Lib.hid hd0
    clear hd0
    have p0 := (hf1.cell (p := ⟨bB, oB, none⟩) hbB (fun h => h)).trans c0
    have hmz : ((m : Int) == 0) = false := by rw [beq_eq_false_iff_ne]; omega
    have hmp : (0 : Int) < (m : Int) := by omega
    by_cases h14 : d0 = 14
    rotate_left
    · have e14 : (d0 != 14) = true := by rw [bne_iff_ne]; exact h14
      have ha : an = ([], 1) := by rw [HAN.out, answerS, if_neg (by rw [HRT.out]; simp), if_pos (.inr (by rw [← HD0.out]; exact h14))]
      have HA := Lib.hid ha
      clear h14 ha hin
      go_wp2_with fail
      go_ret2
      rw [HA.out]
      exact nilPost hf1
    have e14 : (d0 != 14) = false := by rw [bne_eq_false_iff_eq]; exact h14
    have H14 := Lib.hid h14
    clear h14
    by_cases hm3 : m = 3
    rotate_left
    · have e3 : ((m : Int) != 3) = true := by rw [bne_iff_ne]; omega
      have ha : an = ([], 3) := by rw [HAN.out, answerS, if_neg (by rw [HRT.out]; simp), if_neg (by rw [← HD0.out]; intro h; rcases h with h | h; exact hne0 h; exact h H14.out), if_pos (by rw [HL.out]; exact hm3)]
      have HA := Lib.hid ha
      clear hm3 ha hin hne0
      go_wp2_with fail
      go_ret2
      rw [HA.out]
      exact nilPost hf1
    subst hm3
    have c1 := num2 hr rfl 1 (by omega)
    have c2 := num2 hr rfl 2 (by omega)
    have b1 := h8.at_ 1
    have b2 := h8.at_ 2
    obtain ⟨d1, hd1⟩ : ∃ x, x = d.getD 1 0 := ⟨_, rfl⟩
    obtain ⟨d2, hd2⟩ : ∃ x, x = d.getD 2 0 := ⟨_, rfl⟩
    rw [← hd1] at c1 b1
    rw [← hd2] at c2 b2
    have hcl : ∀ V, Fr nob w V → V.cell? ⟨bB, oB + 1, none⟩ = some (.int .u8 d1) ∧ V.cell? ⟨bB, oB + 2, none⟩ = some (.int .u8 d2) := fun V h =>
      ⟨(h.cell (p := ⟨bB, oB + 1, none⟩) hbB (fun h => h)).trans c1, (h.cell (p := ⟨bB, oB + 2, none⟩) hbB (fun h => h)).trans c2⟩
    have HCL := Lib.hid hcl
    obtain ⟨p1, p2⟩ := HCL.out w1 hf1
    have ha3 : an = if d1 = 1 ∨ d1 = 2 ∨ d1 = 3 then told (writeS (streamP S d1 d2)) else if d1 = 4 then (match findS S d2 with | none => ([], 2) | some x => told (writeS (oneP S x))) else ([], 3) := by
      rw [HAN.out, answerS, if_neg (by rw [HRT.out]; simp), if_neg (by rw [← HD0.out]; intro h; rcases h with h | h; exact hne0 h; exact h H14.out), if_neg (by rw [HL.out]; simp), ← hd1, ← hd2]
      rfl
    have HA3 := Lib.hid ha3
    have hw1 : IntKind.i64.wrap d1 = d1 := IntWalk.i64_in _ (by omega)
    have hw2 : IntKind.i64.wrap d2 = d2 := IntWalk.i64_in _ (by omega)
    clear ha3 hd1 hd2 c0 c1 c2 hne0 hmz hmp hcl
    have HRW := Lib.hid hr
    clear hr
    by_cases hbad : d1 < 1 ∨ 4 < d1
    · have ha : an = ([], 3) := by rw [HA3.out, if_neg (by omega), if_neg (by omega)]
      have HA := Lib.hid ha
      have hb2 : d1 < 1 ∨ (1 ≤ d1 ∧ 4 < d1) := by omega
      clear ha hin hbad
      rcases hb2 with hb2 | ⟨hb2, hb3⟩
      all_goals
        go_wp2_with fail
        go_ret2
        rw [HA.out]
        exact nilPost hf1
    have hd14 : 1 ≤ d1 ∧ d1 ≤ 4 := by omega
    obtain ⟨hd1a, hd1b⟩ := hd14
    have hfrom := Lib.hid (fun V (hV : Fr nob w V) => ref20_from A n c L d1 d2 V (hO.nob hV) hn hc (by omega))
    have hfind := Lib.hid (fun V (hV : Fr nob w V) => ref20_find A n c L d2 V (hO.nob hV) hn hc)
    have hxl : ∀ x ∈ L, x.n ≤ 240 := fun x hx => by
      have h1 := hin x.s (by rw [HS.out]; exact List.mem_map.2 ⟨x, hx, rfl⟩)
      have h2 := (hO.ok x hx).len
      simp only [Ob.s] at h1
      omega
    clear hbad
    go_wp2_with fail
    refine wp_region_held_drew (S := fun w' => w'.cell? ⟨bB, oB + 1, none⟩ = some (.int .u8 d1) ∧ w'.cell? ⟨bB, oB + 2, none⟩ = some (.int .u8 d2)) (by kernel_rfl) (HCL.out _ hf1.drew) (fun hHeld => ?_)
    first
      | (refine mix_skip 0 rfl (by kernel_rfl) (by kernel_rfl) (by kernel_rfl) (by rfl) (by assumption) (fun _ _ _ h => h) ?_)
      | (refine mix_pure 0 (v := ?_) rfl (by kernel_rfl) (by kernel_rfl) (by kernel_rfl) (by rfl) (by assumption) (fun _ _ _ h => h) ?_ ?_; rotate_left; · (intro wS hSw; (try dsimp only at hSw); go_simp; try with_reducible rfl))
    simp only [Act.put, List.setIfInBounds_toArray, List.set_cons_zero, List.set_cons_succ]
    first
      | (refine mix_skip 1 rfl (by kernel_rfl) (by kernel_rfl) (by kernel_rfl) (by rfl) (by assumption) (fun _ _ _ h => h) ?_)
      | (refine mix_pure 1 (v := ?_) rfl (by kernel_rfl) (by kernel_rfl) (by kernel_rfl) (by rfl) (by assumption) (fun _ _ _ h => h) ?_ ?_; rotate_left; · (intro wS hSw; (try dsimp only at hSw); go_simp; try with_reducible rfl))
    simp only [Act.put, List.setIfInBounds_toArray, List.set_cons_zero, List.set_cons_succ]
    first
      | (refine mix_skip 2 rfl (by kernel_rfl) (by kernel_rfl) (by kernel_rfl) (by rfl) (by assumption) (fun _ _ _ h => h) ?_)
      | (refine mix_pure 2 (v := ?_) rfl (by kernel_rfl) (by kernel_rfl) (by kernel_rfl) (by rfl) (by assumption) (fun _ _ _ h => h) ?_ ?_; rotate_left; · (intro wS hSw; (try dsimp only at hSw); go_simp; try with_reducible rfl))
    simp only [Act.put, List.setIfInBounds_toArray, List.set_cons_zero, List.set_cons_succ]
    first
      | (refine mix_skip 3 rfl (by kernel_rfl) (by kernel_rfl) (by kernel_rfl) (by rfl) (by assumption) (fun _ _ _ h => h) ?_)
      | (refine mix_pure 3 (v := ?_) rfl (by kernel_rfl) (by kernel_rfl) (by kernel_rfl) (by rfl) (by assumption) (fun _ _ _ h => h) ?_ ?_; rotate_left; · (intro wS hSw; (try dsimp only at hSw); go_simp; try with_reducible rfl))
    simp only [Act.put, List.setIfInBounds_toArray, List.set_cons_zero, List.set_cons_succ]
    first
      | (refine mix_skip 4 rfl (by kernel_rfl) (by kernel_rfl) (by kernel_rfl) (by rfl) (by assumption) (fun _ _ _ h => h) ?_)
      | (refine mix_pure 4 (v := ?_) rfl (by kernel_rfl) (by kernel_rfl) (by kernel_rfl) (by rfl) (by assumption) (fun _ _ _ h => h) ?_ ?_; rotate_left; · (intro wS hSw; (try dsimp only at hSw); go_simp; try with_reducible rfl))
    simp only [Act.put, List.setIfInBounds_toArray, List.set_cons_zero, List.set_cons_succ]
    first
      | (refine mix_skip 5 rfl (by kernel_rfl) (by kernel_rfl) (by kernel_rfl) (by rfl) (by assumption) (fun _ _ _ h => h) ?_)
      | (refine mix_pure 5 (v := ?_) rfl (by kernel_rfl) (by kernel_rfl) (by kernel_rfl) (by rfl) (by assumption) (fun _ _ _ h => h) ?_ ?_; rotate_left; · (intro wS hSw; (try dsimp only at hSw); go_simp; try with_reducible rfl))
    simp only [Act.put, List.setIfInBounds_toArray, List.set_cons_zero, List.set_cons_succ]
    first
      | (refine mix_skip 6 rfl (by kernel_rfl) (by kernel_rfl) (by kernel_rfl) (by rfl) (by assumption) (fun _ _ _ h => h) ?_)
      | (refine mix_pure 6 (v := ?_) rfl (by kernel_rfl) (by kernel_rfl) (by kernel_rfl) (by rfl) (by assumption) (fun _ _ _ h => h) ?_ ?_; rotate_left; · (intro wS hSw; (try dsimp only at hSw); go_simp; try with_reducible rfl))
    simp only [Act.put, List.setIfInBounds_toArray, List.set_cons_zero, List.set_cons_succ]
    first
      | (refine mix_skip 7 rfl (by kernel_rfl) (by kernel_rfl) (by kernel_rfl) (by rfl) (by assumption) (fun _ _ _ h => h) ?_)
      | (refine mix_pure 7 (v := ?_) rfl (by kernel_rfl) (by kernel_rfl) (by kernel_rfl) (by rfl) (by assumption) (fun _ _ _ h => h) ?_ ?_; rotate_left; · (intro wS hSw; (try dsimp only at hSw); go_simp; try with_reducible rfl))
    simp only [Act.put, List.setIfInBounds_toArray, List.set_cons_zero, List.set_cons_succ]
    first
      | (refine mix_skip 8 rfl (by kernel_rfl) (by kernel_rfl) (by kernel_rfl) (by rfl) (by assumption) (fun _ _ _ h => h) ?_)
      | (refine mix_pure 8 (v := ?_) rfl (by kernel_rfl) (by kernel_rfl) (by kernel_rfl) (by rfl) (by assumption) (fun _ _ _ h => h) ?_ ?_; rotate_left; · (intro wS hSw; (try dsimp only at hSw); go_simp; try with_reducible rfl))
    simp only [Act.put, List.setIfInBounds_toArray, List.set_cons_zero, List.set_cons_succ]
    refine mix_one 9 rfl (by kernel_rfl) (fun K hK => ?_)
    go_simp
    refine (hfrom.out _ hf1.drew).mono ?_
    rintro e w2 ⟨hf2, A2, n2, c2, L2, rfl, hL2, hO2, hn2, hc2⟩
    have hf02 : Fr nob w w2 := hf1.drew.trans hf2 (fun _ _ h => h)
    have HL2 := Lib.hid hL2
    clear hL2
    refine hK.out _ _ (HCL.out _ hf02) (fun hHeld0 => ?_)
    clear hK K
    try simp only [Act.put, List.setIfInBounds_toArray, List.set_cons_zero, List.set_cons_succ]
    first
      | (refine mix_skip 10 rfl (by kernel_rfl) (by kernel_rfl) (by kernel_rfl) (by rfl) (by assumption) (fun _ _ _ h => h) ?_)
      | (refine mix_pure 10 (v := ?_) rfl (by kernel_rfl) (by kernel_rfl) (by kernel_rfl) (by rfl) (by assumption) (fun _ _ _ h => h) ?_ ?_; rotate_left; · (intro wS hSw; (try dsimp only at hSw); go_simp; try with_reducible rfl))
    simp only [Act.put, List.setIfInBounds_toArray, List.set_cons_zero, List.set_cons_succ]
    refine wpAnyH_done (by kernel_rfl) ?_ _
    clear hHeld hHeld0 p0 p1 p2
    obtain ⟨p1, p2⟩ := HCL.out w2 hf02
    by_cases h4 : d1 = 4
    · subst h4
      go_wp2_with fail
      refine (hfind.out _ hf02).mono ?_
      rintro e w3 ⟨x, rfl, hxs, hxok, hf3⟩
      rw [← HS.out] at hxs ⊢
      have hf03 := hf02.trans hf3 (fun _ _ h => h)
      obtain ⟨q1, q2⟩ := HCL.out w3 hf03
      cases hfd : findS S d2 with
      | none =>
        have ha : an = ([], 2) := by rw [HA3.out, if_neg (by omega), if_pos (by trivial), hfd]
        have HA := Lib.hid ha
        obtain ⟨xi, xA, xn, xc, xd⟩ := x
        rw [Ob.val]
        clear ha hfd hxs
        go_wp2_with fail
        go_ret2
        rw [HA.out]
        exact nilPost (hf03.alloc _)
      | some y =>
        have hxy := hxs y hfd
        obtain ⟨hyS, -⟩ := find_in hfd
        obtain ⟨hone, wb, hwb⟩ := one_told HRT.out hyS
        have ha : an = told (writeS (oneP S y)) := by rw [HA3.out, if_neg (by omega), if_pos (by trivial), hfd]
        have HA := Lib.hid ha
        have hyb := hin y hyS
        have hxn : x.n ≤ 240 := by
          have h1 := hxok.len
          have h2 := congrArg (fun p => p.2.length) hxy
          simp only [Ob.s] at h2
          omega
        have hO4 : Obs (((w3.alloc (.cells #[.int .i64 x.id, .slice x.A x.n x.c] 49)).alloc (.cells #[.int .i64 x.id, .slice x.A x.n x.c] 49))) (some ⟨w3.heap.size + 1, 0, none⟩) 1 [x] := by
          refine ⟨?_, fun z hz => ?_⟩
          · have hb := Blk.new (w3.alloc (.cells #[.int .i64 x.id, .slice x.A x.n x.c] 49)) 49 #[.int .i64 x.id, .slice x.A x.n x.c]
            rw [World.size_alloc] at hb
            exact Rd.of_blk hb rfl (fun j u hu => by rw [Nat.zero_add]; simpa [Ob.cs] using hu)
          · simp at hz
            subst hz
            exact (hxok.alloc _).alloc _
        have hpart := ref21_part A n c L 4 _ 1 1 [x] _ (hO.nob ((hf03.alloc (.cells #[.int .i64 x.id, .slice x.A x.n x.c] 49)).alloc (.cells #[.int .i64 x.id, .slice x.A x.n x.c] 49))) hn hc hO4 (by omega) (by omega) (fun z hz => by simp at hz; subst hz; exact hxn)
        rw [← HS.out, show ([x] : List Ob).map Ob.s = [y] by simp [hxy], hone] at hpart
        have hf04 := (hf03.alloc (.cells #[.int .i64 x.id, .slice x.A x.n x.c] 49)).alloc (.cells #[.int .i64 x.id, .slice x.A x.n x.c] 49)
        obtain ⟨q, hq⟩ : ∃ q, q = oneP S y := ⟨_, rfl⟩
        rw [← hq] at hpart hwb
        have HWB := Lib.hid hwb
        have HWB2 := Lib.hid (show writeS (oneP S y) = some wb by rw [← hq]; exact hwb)
        obtain ⟨xi, xA, xn, xc, xd⟩ := x
        rw [Ob.val]
        dsimp only at hpart hO4 hf04 hxn ⊢
        have HP := Lib.hid hpart
        have hb3 : bB < w3.heap.size := by have := hf03.size; omega
        clear ha hfd hxs hone hwb hq hpart hxok hxy
        go_wp2_with fail
        have hpart := HP.out
        refine hpart.mono ?_
        rintro e w5 ⟨rfl, hqS, hqle, hf5⟩
        have hf05 := hf04.trans hf5 (fun _ _ h => h)
        obtain ⟨qc, ql, qm, qn, qS⟩ := q
        rw [pval]
        dsimp only at hqS hqle ⊢
        obtain ⟨k5, hk5⟩ : ∃ k5, k5 = qS.length := ⟨_, rfl⟩
        rw [← hk5] at hqle hqS ⊢
        have hpk : (⟨qc, ql, qm, qn, some ⟨w3.heap.size + 1, 0, none⟩, k5, 1, ([⟨xi, xA, xn, xc, xd⟩]).take k5⟩ : Pt).ok w5 := ⟨(hO4.nob hf5).take_ (by have := hO4.len; (try dsimp only); omega), by have := hO4.len; dsimp only; omega, by dsimp only; omega⟩
        have hwc := ref21_write ⟨qc, ql, qm, qn, some ⟨w3.heap.size + 1, 0, none⟩, k5, 1, ([⟨xi, xA, xn, xc, xd⟩]).take k5⟩ w5 hpk
        rw [show (⟨qc, ql, qm, qn, some ⟨w3.heap.size + 1, 0, none⟩, k5, 1, ([⟨xi, xA, xn, xc, xd⟩]).take k5⟩ : Pt).s = ⟨qc, ql, qm, qn, qS⟩ from by rw [Pt.s, ← hqS]] at hwc
        simp only [Pt.val, Pt.cells] at hwc
        have HWC := Lib.hid hwc
        clear hqS hwc hpk hk5 hpart
        go_wp2_with fail
        refine HWC.out.mono ?_
        rintro e w6 hwp
        rw [refWritePost, HWB.out] at hwp
        obtain ⟨A6, k6, c6, rfl, hr6, hk6, hc6, hn6, hf6⟩ := hwp
        have hf06 := hf05.trans hf6 (fun _ _ h => h)
        go_wp2_with fail
        go_ret2
        have ha2 : an = (wb, 0) := by rw [HA.out, HWB2.out]; rfl
        rw [ha2]
        exact ⟨A6, k6, c6, rfl, hr6, hk6, hc6, (fun ad h => by have h1 := hn6 ad h; have h2 := hf05.size; omega), hf06⟩
    · have e4 : (d1 == 4) = false := by rw [beq_eq_false_iff_ne]; exact h4
      have ha : an = told (writeS (streamP S d1 d2)) := by rw [HA3.out, if_pos (by omega)]
      have HA := Lib.hid ha
      obtain ⟨wb, hwb⟩ := stream_told HRT.out (code := d1) (id := d2) (by omega)
      have hpart := ref21_part A n c L d1 A2 n2 c2 L2 w2 (hO.nob hf02) hn hc hO2 hn2 hc2 (fun x hx => by
        have h1 : x.s ∈ S := by
          rw [HS.out]
          refine from_sub (sort := d1) (id := d2) ?_
          rw [← HL2.out]
          exact List.mem_map.2 ⟨x, hx, rfl⟩
        have h2 := hin x.s h1
        have h3 := (hO2.ok x hx).len
        simp only [Ob.s] at h2
        omega)
      rw [HL2.out, ← HS.out] at hpart
      rw [show partS ⟨d1, levelS S, false, 0, []⟩ (fromS S d1 d2) = streamP S d1 d2 from rfl] at hpart
      obtain ⟨q, hq⟩ : ∃ q, q = streamP S d1 d2 := ⟨_, rfl⟩
      rw [← hq] at hpart hwb
      have HWB := Lib.hid hwb
      have HWB2 := Lib.hid (show writeS (streamP S d1 d2) = some wb by rw [← hq]; exact hwb)
      have HP := Lib.hid hpart
      clear h4 ha hwb hq hpart
      go_wp2_with fail
      have hpart := HP.out
      refine hpart.mono ?_
      rintro e w5 ⟨rfl, hqS, hqle, hf5⟩
      have hf05 := hf02.trans hf5 (fun _ _ h => h)
      obtain ⟨qc, ql, qm, qn, qS⟩ := q
      rw [pval]
      dsimp only at hqS hqle ⊢
      obtain ⟨k5, hk5⟩ : ∃ k5, k5 = qS.length := ⟨_, rfl⟩
      rw [← hk5] at hqle hqS ⊢
      have hpk : (⟨qc, ql, qm, qn, A2, k5, c2, (L2).take k5⟩ : Pt).ok w5 := ⟨(hO2.nob hf5).take_ (by have := hO2.len; (try dsimp only); omega), by have := hO2.len; dsimp only; omega, hc2⟩
      have hwc := ref21_write ⟨qc, ql, qm, qn, A2, k5, c2, (L2).take k5⟩ w5 hpk
      rw [show (⟨qc, ql, qm, qn, A2, k5, c2, (L2).take k5⟩ : Pt).s = ⟨qc, ql, qm, qn, qS⟩ from by rw [Pt.s, ← hqS]] at hwc
      simp only [Pt.val, Pt.cells] at hwc
      have HWC := Lib.hid hwc
      clear hqS hwc hpk hk5 hpart
      go_wp2_with fail
      refine HWC.out.mono ?_
      rintro e w6 hwp
      rw [refWritePost, HWB.out] at hwp
      obtain ⟨A6, k6, c6, rfl, hr6, hk6, hc6, hn6, hf6⟩ := hwp
      have hf06 := hf05.trans hf6 (fun _ _ h => h)
      go_wp2_with fail
      go_ret2
      have ha2 : an = (wb, 0) := by rw [HA.out, HWB2.out]; rfl
      rw [ha2]
      exact ⟨A6, k6, c6, rfl, hr6, hk6, hc6, (fun ad h => by have h1 := hn6 ad h; have h2 := hf05.size; omega), hf06⟩
end Go.Proofs.Ythdenkmmiadeiaa
