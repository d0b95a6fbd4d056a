/- Layer 21's law IdentParts, walked. -/
import Derived.Test.YthdenkmmiadeiaaId9
import Derived.Test.YthdenkmmiadeiaaIdR1
import Derived.Test.YthdenkmmiadeiaaIdRead
namespace Go.Proofs.Ythdenkmmiadeiaa
set_option linter.unusedSimpArgs false
set_option linter.unusedVariables false
open Go.RowKit

set_option maxHeartbeats 8000000 in
set_option maxRecDepth 100000 in
theorem identParts_any (p : Pt) (B : Option Addr) (m c : Nat) (d : List Int) (w : World) (hp : p.ok w) (hp8 : ∀ x ∈ p.L, bytes8 x.d) (hr : Rd w 1 B m (nums .u8 d)) (h8 : bytes8 d) (hm : m ≤ c) (hc : c ≤ 9223372036854775807) :
    Calls Try.prog 3 #[p.val, .slice B m c] w fun e w' => e = .returned (.bool true) ∧ Fr nob w w' := by
  have hwrite := fun V (hV : Fr nob w V) => ident_write p V (hp.nob hV)
  have hrefw := fun V (hV : Fr nob w V) => ref21_write p V (hp.nob hV)
  obtain ⟨ps, hps⟩ : ∃ ps, ps = p.s := ⟨_, rfl⟩
  rw [← hps] at hwrite hrefw
  obtain ⟨pc, pl, pm, px, pA, pn, pcp, pL⟩ := p
  obtain ⟨hO, hn, hcp⟩ := hp
  dsimp only at hO hn hcp
  rw [Pt.val, Pt.cells]
  simp only [Pt.val, Pt.cells] at hwrite hrefw
  dsimp only
  have HW := Lib.hid hwrite
  have HRW := Lib.hid hrefw
  have hcw : (errW (writeS ps) = 0 ∧ (writeS ps).isSome = true) ∨ (errW (writeS ps) = 11 ∧ (writeS ps).isSome = false) := by cases writeS ps <;> simp [errW]
  have hcr : (errR (readS d) = 0 ∧ (readS d).isSome = true) ∨ (errR (readS d) = 14 ∧ (readS d).isSome = false) := by cases readS d <;> simp [errR]
  have hb0 := Blk.new w 24 #[.int .i64 pc, .int .i64 pl, .bool pm, .int .i64 px, .slice pA pn pcp]
  have hf0 := (Fr.refl nob w).alloc (.cells #[.int .i64 pc, .int .i64 pl, .bool pm, .int .i64 px, .slice pA pn pcp] 24)
  have HCW := Lib.hid hcw
  have HCR := Lib.hid hcr
  have H8 := Lib.hid h8
  clear hps hwrite hrefw hcw hcr h8
  go_enter Try.func3, Try.ntmps3
  go_wp2_with fail
  refine (few_any pA pn pcp pL _ (hO.nob hf0) hn hcp).mono ?_
  rintro e w1 ⟨fb, rfl, hf1, hfew⟩
  have hf01 := hf0.trans hf1 (fun _ _ h => h)
  have hb1 := hb0.fr hf1 (fun h => h)
  cases fb with
  | false =>
    go_wp2_with (go_at_call 12; refine (ident_sure _).mono ?_; rintro e w' ⟨rfl, hf⟩)
    go_ret
    exact ⟨rfl, hf01.trans hf (fun _ _ h => h)⟩
  | true =>
    by_cases h600 : 600 < m
    · go_wp2_with (go_at_call 12; refine (ident_sure _).mono ?_; rintro e w' ⟨rfl, hf⟩)
      go_ret
      exact ⟨rfl, hf01.trans hf (fun _ _ h => h)⟩
    · have q1 := hb1.cell
      have z1 := hb1.lt
      clear hfew hb0 hf0 hf1
      go_wp2_with fail
      refine (HW.out _ hf01).mono ?_
      rintro e w2 hwp
      rw [writePost] at hwp
      obtain ⟨A2, k2, c2, rfl, hr2, hk2, hc2, -, hf2⟩ := hwp
      obtain ⟨wb, hwb⟩ : ∃ wb, wb = (writeS ps).getD [] := ⟨_, rfl⟩
      rw [← hwb] at hr2
      have hf02 := hf01.trans hf2 (fun _ _ h => h)
      have hb2 := hb1.fr hf2 (fun h => h)
      have q2 := hb2.cell
      have z2 := hb2.lt
      have HWB := Lib.hid hwb
      clear hwb q1 z1 hb1 hf01
      rcases HCW.out with ⟨e1, e2⟩ | ⟨e1, e2⟩
      all_goals
        rw [e1]
        have E2 := Lib.hid e2
        clear e1 e2
        go_wp2_with fail
        refine (HRW.out _ hf02).mono ?_
        rintro e w3 hrp
        rw [refWritePost, E2.out, ← HWB.out] at hrp
        obtain ⟨A3, k3, c3, rfl, hr3, hk3, hc3, -, hf3⟩ := hrp
        have hf03 := hf02.trans hf3 (fun _ _ h => h)
        have hr2' := hr2.nob hf3
        go_wp2_with fail
        refine (ident_read B m c d _ (hr.nob hf03) H8.out hm hc).mono ?_
        rintro e w4 hra
        rw [readPost] at hra
        obtain ⟨q, rfl, hqok, hqs, -, hf4, -⟩ := hra
        obtain ⟨qc, ql, qm, qx, qA, qn, qcp, qL⟩ := q
        have hf04 := hf03.trans hf4 (fun _ _ h => h)
        rcases HCR.out with ⟨e3, e4⟩ | ⟨e3, e4⟩
        all_goals
          rw [e3, Pt.val, Pt.cells]
          dsimp only
          have E4 := Lib.hid e4
          clear e3 e4
          have hfa := (Fr.refl nob w4).alloc (.cells #[.int .i64 qc, .int .i64 ql, .bool qm, .int .i64 qx, .slice qA qn qcp] 24)
          have hq5 := Blk.new w4 24 #[.int .i64 qc, .int .i64 ql, .bool qm, .int .i64 qx, .slice qA qn qcp]
          have hqok5 := hqok.nob hfa
          have hf05 := hf04.trans hfa (fun _ _ h => h)
          have hr2a := (hr2'.nob hf4).nob hfa
          have hr3a := (hr3.nob hf4).nob hfa
          have HQS := Lib.hid hqs
          go_wp2_with fail
          generalize hW5 : w4.alloc (.cells #[.int .i64 qc, .int .i64 ql, .bool qm, .int .i64 qx, .slice qA qn qcp] 24) = w5 at *
          refine (ref21_read B m c d _ (hr.nob hf05) H8.out (by omega) hm hc).mono ?_
          rintro e w6 hrf
          rw [refReadPost, refRead_eq H8.out, E4.out] at hrf
          obtain ⟨r, rfl, hrok, hrs, hf6⟩ := hrf
          obtain ⟨rc, rl, rm, rx, rA, rn, rcp, rL⟩ := r
          rw [Pt.val, Pt.cells]
          dsimp only
          have hf06 := hf05.trans hf6 (fun _ _ h => h)
          have hfb := (Fr.refl nob w6).alloc (.cells #[.int .i64 rc, .int .i64 rl, .bool rm, .int .i64 rx, .slice rA rn rcp] 33)
          have hr7 := Blk.new w6 33 #[.int .i64 rc, .int .i64 rl, .bool rm, .int .i64 rx, .slice rA rn rcp]
          have hq7 := (hq5.fr hf6 (fun h => h)).fr hfb (fun h => h)
          have hqok7 := (hqok5.nob hf6).nob hfb
          have hrok7 := hrok.nob hfb
          have hr2b := (hr2a.nob hf6).nob hfb
          have hr3b := (hr3a.nob hf6).nob hfb
          have hf07 := hf06.trans hfb (fun _ _ h => h)
          have HEQ := Lib.hid (hqs.trans hrs.symm)
          clear hqs hrs hW5
          go_wp2_with fail
          generalize hW7 : w6.alloc (.cells #[.int .i64 rc, .int .i64 rl, .bool rm, .int .i64 rx, .slice rA rn rcp] 33) = w7 at *
          refine (bytes_any A2 A3 k2 k3 c2 c3 wb wb _ hr2b hr3b (by omega) (by omega)).mono ?_
          rintro e w8 ⟨rfl, k8, rfl⟩
          rw [show sameInts wb wb = true by simp [sameInts]]
          have qq := (hq7.drewN k8).cell
          have qr := (hr7.drewN k8).cell
          have zq := hq7.lt
          have zr := hr7.lt
          have hsm := ref21_same ⟨qc, ql, qm, qx, qA, qn, qcp, qL⟩ ⟨rc, rl, rm, rx, rA, rn, rcp, rL⟩ (w7.drewN k8) (hqok7.nob ((Fr.refl nob w7).drewN k8)) (hrok7.nob ((Fr.refl nob w7).drewN k8)) HEQ.out
          simp only [Pt.val, Pt.cells] at hsm
          have HSM := Lib.hid hsm
          have hf08 := hf07.drewN k8
          clear hsm hW7 hq5 hr7 hq7
          go_wp2_with fail
          refine HSM.out.mono ?_
          rintro e w9 ⟨rfl, hf9⟩
          go_wp2_with (go_at_call 12; refine (ident_sure _).mono ?_; rintro e w' ⟨rfl, hf⟩)
          go_ret
          exact ⟨rfl, (hf08.trans hf9 (fun _ _ h => h)).trans hf (fun _ _ h => h)⟩
end Go.Proofs.Ythdenkmmiadeiaa
