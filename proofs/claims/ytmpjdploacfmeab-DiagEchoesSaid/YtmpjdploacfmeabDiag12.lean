/- Layer 18's law DiagEchoes, walked. -/
import Derived.Test.YtmpjdploacfmeabDiag10
import Derived.Test.YtmpjdploacfmeabDiag11
import Derived.Deep.DeepCutAuto
import Derived.Deep.CutBlock
namespace Go.Proofs.Ytmpjdploacfmeab
set_option linter.unusedSimpArgs false
set_option linter.unusedVariables false
open Go.RowKit

set_option maxHeartbeats 8000000 in
set_option maxRecDepth 100000 in
theorem diagEchoes_any (A : Option Addr) (n cp : Nat) (L : List OpD) (B : Option Addr) (m c : Nat) (d : List Int) (w : World) (hl : Rd w 3 A n (L.flatMap OpD.cs)) (hok : ∀ x ∈ L, x.ok w) (hn : n ≤ 9223372036854775807)
    (hr : Rd w 1 B m (nums .u8 d)) (h8 : bytes8 d) (hm : m ≤ c) (hc : c ≤ 9223372036854775807) :
    Calls Try.prog 3 #[.slice A n cp, .slice B m c] w fun e w' => e = .returned (.bool true) ∧ Fr nob w w' := by
  by_cases hbig : 120 < n ∨ 600 < m
  · have hb2 : 120 < n ∨ (n ≤ 120 ∧ 600 < m) := by omega
    clear hbig
    rcases hb2 with h120 | ⟨h120, h600⟩
    all_goals
      go_enter Try.func3, Try.ntmps3
      go_wp2_with (go_at_call 5; refine (diag_sure _).mono ?_; rintro e w' ⟨rfl, hf⟩)
      go_ret
      exact ⟨rfl, hf⟩
  · have h120 : n ≤ 120 := by omega
    have h600 : m ≤ 600 := by omega
    clear hbig
    go_enter Try.func3, Try.ntmps3
    go_wp2_with fail
    refine (diag_new _).mono ?_
    rintro e w1 ⟨b, tb, rfl, hds, hf0, hlb, hltb⟩
    go_wp2_with fail
    go_loopw [6] (fun i wr => ∃ (j : Nat) (sd : Dg), j ≤ n ∧ i = .int .i64 j ∧ DgS wr b tb sd ∧ Fr nob w wr) (fun i _ => n - (intOf i).toNat)
    case atStart => exact ⟨0, ⟨_, _, _, _⟩, by omega, rfl, hds, hf0⟩
    case round =>
      clear hds hf0
      obtain ⟨j, sd, hj, rfl, hds, hfr⟩ := hrel
      by_cases hlt : j < n
      · obtain ⟨bl, o, x, rfl, hbl, hx, hc0, hc1, hc2⟩ := (hl.nob hfr).opd hlt
        obtain ⟨xk, xi, xA, xm, xc, xd⟩ := x
        obtain ⟨hxr, hx8, hxm, hxc, hxn⟩ := hok _ hx
        dsimp only at hc0 hc1 hc2 hxr hx8 hxm hxc hxn
        have hj0 : (0 : Int) ≤ (j : Int) ∧ (j : Int) < (n : Int) := ⟨by omega, by omega⟩
        clear hx hl hok
        have hcount : Hid (Calls Try.prog 8 #[.pointer (some ⟨b, 0, none⟩), .int .i64 xi] wr fun e w' => (∃ v, e = .returned v) ∧ ∃ sd', DgS w' b tb sd' ∧ Fr (fun k => k = tb) wr w') := Lib.hid ((diag_count b tb _ _ _ xi _ _ hds).mono fun e w' ⟨h1, h2, h3⟩ => ⟨⟨_, h1⟩, ⟨_, _, _, _⟩, h2, h3⟩)
        by_cases hk0 : xk = 0
        · have e0 : (xk == 0) = true := by rw [beq_iff_eq]; exact hk0
          clear hk0
          by_cases hx6 : xm ≤ 600
          · go_wp2_with fail
            refine (diag_do b tb sd xA xm xc xd _ hds (hxr.nob hfr) hx8 hxm hxc hx6).mono ?_
            rintro e w2 ⟨A2, k2, cp2, rfl, hr2, hk2, hc2', hn2, hds2, hf2⟩
            go_wp2_with fail
            go_roundw
            case rel => exact ⟨j + 1, _, by omega, by go_num, hds2, hfr.newer hf2 (fun i hi => by omega)⟩
            case measure => simp [intOf]; omega
          · go_wp2_with fail
            refine hcount.out.mono ?_
            rintro e w2 ⟨⟨v, rfl⟩, sd2, hds2, hf2⟩
            go_wp2_with fail
            go_roundw
            case rel => exact ⟨j + 1, _, by omega, by go_num, hds2, hfr.newer hf2 (fun i hi => by omega)⟩
            case measure => simp [intOf]; omega
        · have e0 : (xk == 0) = false := by rw [beq_eq_false_iff_ne]; exact hk0
          clear hk0
          go_wp2_with fail
          refine hcount.out.mono ?_
          rintro e w2 ⟨⟨v, rfl⟩, sd2, hds2, hf2⟩
          go_wp2_with fail
          go_roundw
          case rel => exact ⟨j + 1, _, by omega, by go_num, hds2, hfr.newer hf2 (fun i hi => by omega)⟩
          case measure => simp [intOf]; omega
      · clear hl hok
        go_wp2_with fail
        refine (diag_clone b tb _ _ _ _ _ hds).mono ?_
        rintro e w2 ⟨b2, tb2, rfl, hds2, hf2, hb2, htb2⟩
        have hds2' : DgS w2 b2 tb2 sd := hds2
        have hdsb : DgS w2 b tb sd := DS.nob hds hf2
        have hlb0 := hds.lt
        have hlt0 := hds.2.1.2.2.lt
        have hfw2 : Fr nob w w2 := hfr.trans hf2 (fun _ _ h => h)
        clear hds2 hds hf2
        go_wp2_with fail
        refine (diag_do b2 tb2 sd B m c d _ hds2' (hr.nob hfw2) h8 hm hc h600).mono ?_
        rintro e w3 ⟨A3, k3, cp3, rfl, hr3, hk3, hc3, hn3, hds3, hf3⟩
        have hdsb3 : DgS w3 b tb sd := DS.fr hdsb hf3 (by omega) (by omega)
        have hrz := hfr.size
        have hfw3 : Fr nob w w3 := hfw2.newer hf3 (fun i hi => by omega)
        clear hdsb hds2' hf3 hfw2
        have hcases := do_cases sd d h8
        obtain ⟨y, hy⟩ : ∃ y, y = doS sd d := ⟨_, rfl⟩
        rw [← hy] at hr3 hds3 hcases ⊢
        clear hy
        obtain ⟨y1, yo, yw, ye⟩ := y
        dsimp only at hr3 hds3 ⊢
        have HCS := Lib.hid hcases
        clear hcases
        have hko := hr3.numlen
        have HKO := Lib.hid hko
        clear hko
        go_upto_region 16 with fail
        go_cut [11] (fun v wc => ∃ bb : Bool, v = .bool bb ∧ Hid (y1 = sd → bb = true) ∧ Fr nob w3 wc)
        case first =>
          obtain ⟨yc, yr, yls, ydl⟩ := y1
          obtain ⟨sc, r, ls, dl⟩ := sd
          clear HCS HKO
          go_wp2_with fail
          refine (diag_all b2 tb2 yc yr ydl yls _ hds3).mono ?_
          rintro e w4 ⟨A4, cp4, rfl, hn4⟩
          go_wp2_with fail
          refine (diag_all b tb sc r dl ls _ (DS.nob hdsb3 hn4.2)).mono ?_
          rintro e w5 ⟨A5, cp5, rfl, hn5⟩
          go_wp2_with fail
          refine (words_any A4 A5 8 8 _ _ yc sc _ ((hn4.rd rfl hds3.len).nob hn5.2) (hn5.rd rfl hdsb3.len) (by omega) (by omega)).mono ?_
          rintro e w6 ⟨rfl, k6, rfl⟩
          have hf35 : Fr nob w3 (w5.drewN k6) := (hn4.2.trans hn5.2 (fun _ _ h => h)).drewN k6
          have D2 := DS.nob hds3 hf35
          have Db := DS.nob hdsb3 hf35
          clear hn4 hn5
          cases hB1 : sameInts yc sc with
          | false =>
            have HB1 := Lib.hid hB1
            clear hB1
            go_wp2_with fail
            go_meet
            exact ⟨false, rfl, Lib.hid (fun h => by have h1 := HB1.out; injection h with h2; rw [h2] at h1; simp [sameInts] at h1), hf35⟩
          | true =>
            have HB1 := Lib.hid hB1
            clear hB1
            go_wp2_with fail
            refine (diag_listening b2 tb2 _ _ _ yls _ D2).mono ?_
            rintro e w7 ⟨rfl, rfl⟩
            go_wp2_with fail
            refine (diag_listening b tb _ _ _ ls _ Db).mono ?_
            rintro e w8 ⟨rfl, rfl⟩
            by_cases hB2 : yls = ls
            rotate_left
            · have e2 : (yls == ls) = false := by rw [beq_eq_false_iff_ne]; exact hB2
              have HB2 := Lib.hid hB2
              clear hB2
              go_wp2_with fail
              go_meet
              exact ⟨false, rfl, Lib.hid (fun h => by injection h with _ _ h2; exact absurd h2 HB2.out), hf35⟩
            have e2 : (yls == ls) = true := by rw [hB2]; simp
            have HB2 := Lib.hid hB2
            clear hB2
            go_wp2_with fail
            refine (diag_register b2 tb2 _ _ _ _ _ D2).mono ?_
            rintro e w9 ⟨rfl, rfl⟩
            go_wp2_with fail
            refine (diag_register b tb _ _ _ _ _ Db).mono ?_
            rintro e wa ⟨rfl, rfl⟩
            by_cases hB3 : yr = r
            rotate_left
            · have e3 : (yr == r) = false := by rw [beq_eq_false_iff_ne]; exact hB3
              have HB3 := Lib.hid hB3
              clear hB3
              go_wp2_with fail
              go_meet
              exact ⟨false, rfl, Lib.hid (fun h => by injection h with _ h2; exact absurd h2 HB3.out), hf35⟩
            have e3 : (yr == r) = true := by rw [hB3]; simp
            have HB3 := Lib.hid hB3
            clear hB3
            go_wp2_with fail
            refine (diag_delim b2 tb2 _ _ _ _ _ D2).mono ?_
            rintro e wb ⟨rfl, rfl⟩
            go_wp2_with fail
            refine (diag_delim b tb _ _ _ _ _ Db).mono ?_
            rintro e wd ⟨rfl, rfl⟩
            by_cases hB4 : ydl = dl
            rotate_left
            · have e4 : (ydl == dl) = false := by rw [beq_eq_false_iff_ne]; exact hB4
              have HB4 := Lib.hid hB4
              clear hB4
              go_wp2_with fail
              go_meet
              exact ⟨false, rfl, Lib.hid (fun h => by injection h with _ _ _ h2; exact absurd h2 HB4.out), hf35⟩
            have e4 : (ydl == dl) = true := by rw [hB4]; simp
            have HB4 := Lib.hid hB4
            clear hB4
            go_wp2_with fail
            go_meet
            exact ⟨true, rfl, Lib.hid (fun _ => rfl), hf35⟩
        case rest =>
          obtain ⟨bb, rfl, HBB, hf4⟩ := hcut
          have hds4 : DgS wc b2 tb2 y1 := DS.nob hds3 hf4
          have hr4 := hr3.nob hf4
          have hfw4 : Fr nob w wc := hfw3.trans hf4 (fun _ _ h => h)
          have hrB := hr.nob hfw4
          have hmB := hr.numlen
          clear hds3 hr3 hf4 hfw3 hdsb3 hr
          rcases HCS.out with (h | h) | ⟨h2l, he0, hd0, hcase⟩
          · obtain ⟨e1, e2, e3, e4⟩ : y1 = sd ∧ yo = [] ∧ yw = 0 ∧ ye = 1 := by cases h; exact ⟨rfl, rfl, rfl, rfl⟩
            have hk0 : k3 = 0 := by rw [← HKO.out, e2]; rfl
            have hbb := HBB.out e1
            subst hbb
            subst hk0
            subst e3
            subst e4
            clear h e1 e2 HCS HKO HBB hmB hr4 hds4
            go_wp2_with (go_at_call 5; refine (diag_sure _).mono ?_; rintro e w' ⟨rfl, hf⟩)
            go_ret
            exact ⟨rfl, hfw4.trans hf (fun _ _ h => h)⟩
          · obtain ⟨e1, e2, e3, e4⟩ : y1 = sd ∧ yo = [] ∧ yw = 0 ∧ ye = 3 := by cases h; exact ⟨rfl, rfl, rfl, rfl⟩
            have hk0 : k3 = 0 := by rw [← HKO.out, e2]; rfl
            have hbb := HBB.out e1
            subst hbb
            subst hk0
            subst e3
            subst e4
            clear h e1 e2 HCS HKO HBB hmB hr4 hds4
            go_wp2_with (go_at_call 5; refine (diag_sure _).mono ?_; rintro e w' ⟨rfl, hf⟩)
            go_ret
            exact ⟨rfl, hfw4.trans hf (fun _ _ h => h)⟩
          · dsimp only at he0 hcase
            subst he0
            clear HCS
            obtain ⟨bB, oB, rfl, hbB, hcB1⟩ := hrB.num (i := 1) (by omega)
            obtain ⟨bB', oB', eB, _, hcB0⟩ := hrB.num (i := 0) (by omega)
            injection eB with eB
            injection eB with eB1 eB2
            subst eB1; subst eB2
            have h0b := h8.at_ 0
            have h1b := h8.at_ 1
            obtain ⟨n1, hn1⟩ : ∃ n1, n1 = d.getD 1 0 := ⟨_, rfl⟩
            obtain ⟨n0, hn0⟩ : ∃ n0, n0 = d.getD 0 0 := ⟨_, rfl⟩
            rw [← hn1] at hcB1 hcase h1b
            rw [← hn0] at hcB0 hcase h0b
            rw [Nat.add_zero] at hcB0
            have HN1 := Lib.hid hn1
            have HN0 := Lib.hid hn0
            have hm2 : 2 ≤ m := by omega
            clear hn1 hn0 hd0
            rcases hcase with ⟨hn4, e2, e3, hls⟩ | ⟨hn, e1, e3, hlen, ho0, ho1⟩ | ⟨hn, e2, e3⟩ | ⟨hn, e2, e3, hls⟩
            · have hk0 : k3 = 0 := by rw [← HKO.out, e2]; rfl
              subst hk0
              subst hn4
              subst e3
              obtain ⟨yc, yr, yls, ydl⟩ := y1
              dsimp only at hls
              subst hls
              clear e2 HKO hr4 HBB hmB
              go_wp2_with fail
              refine (diag_listening b2 tb2 _ _ _ true _ hds4).mono ?_
              rintro e w5 ⟨rfl, rfl⟩
              go_wp2_with (go_at_call 5; refine (diag_sure _).mono ?_; rintro e w' ⟨rfl, hf⟩)
              go_ret
              exact ⟨rfl, hfw4.trans hf (fun _ _ h => h)⟩
            · have hk3 : k3 = m := by rw [← HKO.out, hlen]; exact hmB
              subst hk3
              have hbb := HBB.out e1
              subst hbb
              subst e3
              obtain ⟨bO, oO, rfl, hbO, hcO1⟩ := hr4.num (i := 1) (by omega)
              obtain ⟨bO', oO', eO, _, hcO0⟩ := hr4.num (i := 0) (by omega)
              injection eO with eO
              injection eO with eO1 eO2
              subst eO1; subst eO2
              rw [Nat.add_zero] at hcO0
              rw [ho1] at hcO1
              rw [ho0] at hcO0
              have t1 : ((k3 : Int) != (k3 : Int)) = false := by rw [bne_self_eq_false]
              have t2 : (n0 != n0) = false := by rw [bne_self_eq_false]
              have t3 : (n1 != n1) = false := by rw [bne_self_eq_false]
              have t4 : (n1 == 4) = false := by rw [beq_eq_false_iff_ne]; omega
              clear e1 hlen ho0 ho1 HBB HKO hr4 hmB hrB
              by_cases hz0 : n1 = 0
              · have t5 : (n1 == 0) = true := by rw [beq_iff_eq]; exact hz0
                clear hz0 hn
                go_wp2_with fail
                go_quiet (fail)
                go_wp2_with (go_at_call 5; refine (diag_sure _).mono ?_; rintro e w' ⟨rfl, hf⟩)
                go_ret
                exact ⟨rfl, (hfw4.drewN _).trans hf (fun _ _ h => h)⟩
              have t5 : (n1 == 0) = false := by rw [beq_eq_false_iff_ne]; exact hz0
              by_cases hz2 : n1 = 2
              · have t6 : (n1 == 2) = true := by rw [beq_iff_eq]; exact hz2
                clear hz0 hz2 hn
                go_wp2_with fail
                go_quiet (fail)
                go_wp2_with (go_at_call 5; refine (diag_sure _).mono ?_; rintro e w' ⟨rfl, hf⟩)
                go_ret
                exact ⟨rfl, (hfw4.drewN _).trans hf (fun _ _ h => h)⟩
              · have t6 : (n1 == 2) = false := by rw [beq_eq_false_iff_ne]; exact hz2
                have t7 : decide (11 ≤ n1) = true := decide_eq_true (by omega)
                have t8 : decide (n1 ≤ 18) = true := decide_eq_true (by omega)
                clear hz0 hz2 hn
                go_wp2_with fail
                go_quiet (fail)
                go_wp2_with (go_at_call 5; refine (diag_sure _).mono ?_; rintro e w' ⟨rfl, hf⟩)
                go_ret
                exact ⟨rfl, (hfw4.drewN _).trans hf (fun _ _ h => h)⟩
            · have hk3 : k3 = m := by rw [← HKO.out, e2]; exact hmB
              subst hk3
              subst e3
              obtain ⟨bO, oO, rfl, hbO, hcO1⟩ := hr4.num (i := 1) (by omega)
              obtain ⟨bO', oO', eO, _, hcO0⟩ := hr4.num (i := 0) (by omega)
              injection eO with eO
              injection eO with eO1 eO2
              subst eO1; subst eO2
              rw [Nat.add_zero] at hcO0
              have hcO1' : wc.cell? ⟨bO, oO + 1, none⟩ = some (.int .u8 n1) := by rw [hcO1, e2, ← HN1.out]
              have hcO0' : wc.cell? ⟨bO, oO, none⟩ = some (.int .u8 n0) := by rw [hcO0, e2, ← HN0.out]
              have hrd := hr4
              rw [e2] at hrd
              have t1 : ((k3 : Int) != (k3 : Int)) = false := by rw [bne_self_eq_false]
              have t2 : (n0 != n0) = false := by rw [bne_self_eq_false]
              have hsame : sameInts d d = true := by simp [sameInts]
              have HSM := Lib.hid hsame
              have t3 : (n1 != n1) = false := by rw [bne_self_eq_false]
              have t4 : (n1 == 4) = false := by rw [beq_eq_false_iff_ne]; omega
              have t5 : (n1 == 0) = false := by rw [beq_eq_false_iff_ne]; omega
              have t6 : (n1 == 2) = false := by rw [beq_eq_false_iff_ne]; omega
              have t7 : (n1 == 1) = false := by rw [beq_eq_false_iff_ne]; omega
              have t8 : (n1 != 1) = true := by rw [bne_iff_ne]; omega
              have hord : n1 < 11 ∨ (11 ≤ n1 ∧ 18 < n1) := by omega
              clear e2 hcO1 hcO0 HBB HKO hr4 hmB hsame hn
              rcases hord with t9 | ⟨t9, ta⟩
              all_goals
                go_wp2_with fail
                go_quiet (fail)
                go_wp2_with fail
                refine (bytes_any _ _ k3 k3 cp3 c d d _ (hrd.drewN _) (hrB.drewN _) (by omega) (by omega)).mono ?_
                rintro e w5 ⟨rfl, k5, rfl⟩
                rw [HSM.out]
                go_wp2_with (go_at_call 5; refine (diag_sure _).mono ?_; rintro e w' ⟨rfl, hf⟩)
                go_ret
                exact ⟨rfl, (hfw4.drewN _).trans hf (fun _ _ h => h)⟩
            · have hk3 : k3 = m := by rw [← HKO.out, e2]; exact hmB
              subst hk3
              subst hn
              obtain ⟨yc, yr, yls, ydl⟩ := y1
              dsimp only at hls
              subst hls
              obtain ⟨bO, oO, rfl, hbO, hcO1⟩ := hr4.num (i := 1) (by omega)
              obtain ⟨bO', oO', eO, _, hcO0⟩ := hr4.num (i := 0) (by omega)
              injection eO with eO
              injection eO with eO1 eO2
              subst eO1; subst eO2
              rw [Nat.add_zero] at hcO0
              have hcO1' : wc.cell? ⟨bO, oO + 1, none⟩ = some (.int .u8 1) := by rw [hcO1, e2, ← HN1.out]
              have hcO0' : wc.cell? ⟨bO, oO, none⟩ = some (.int .u8 n0) := by rw [hcO0, e2, ← HN0.out]
              have hrd := hr4
              rw [e2] at hrd
              have t1 : ((k3 : Int) != (k3 : Int)) = false := by rw [bne_self_eq_false]
              have t2 : (n0 != n0) = false := by rw [bne_self_eq_false]
              have hsame : sameInts d d = true := by simp [sameInts]
              have HSM := Lib.hid hsame
              clear e2 hcO1 hcO0 HBB HKO hr4 hmB hsame
              rcases e3 with e3 | e3
              all_goals
                subst e3
                go_wp2_with fail
                go_quiet (fail)
                go_wp2_with fail
                refine (bytes_any _ _ k3 k3 cp3 c d d _ (hrd.drewN _) (hrB.drewN _) (by omega) (by omega)).mono ?_
                rintro e w5 ⟨rfl, k5, rfl⟩
                rw [HSM.out]
                go_wp2_with fail
                refine (diag_listening b2 tb2 _ _ _ false _ (DS.nob hds4 ((Fr.refl nob _).drewN _))).mono ?_
                rintro e w6 ⟨rfl, rfl⟩
                go_wp2_with (go_at_call 5; refine (diag_sure _).mono ?_; rintro e w' ⟨rfl, hf⟩)
                go_ret
                exact ⟨rfl, (hfw4.drewN _).trans hf (fun _ _ h => h)⟩
end Go.Proofs.Ytmpjdploacfmeab
