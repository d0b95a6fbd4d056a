/- Layer 21's law IdentBack, walked. -/
import Derived.Test.YthdenkmmiadeiaaId9
import Derived.Test.YthdenkmmiadeiaaIdR1
namespace Go.Proofs.Ythdenkmmiadeiaa
set_option linter.unusedSimpArgs false
set_option linter.unusedVariables false
open Go.RowKit

set_option maxHeartbeats 8000000 in
set_option maxRecDepth 100000 in
theorem identBack_any (p : Pt) (B : Option Addr) (m c : Nat) (d : List Int) (w : World) (hp : p.ok w) (hp8 : ∀ x ∈ p.L, bytes8 x.d) (hr : Rd w 1 B m (nums .u8 d)) (h8 : bytes8 d) (hm : m ≤ c) (hc : c ≤ 9223372036854775807) :
    Calls Try.prog 5 #[p.val, .slice B m c] w fun e w' => e = .returned (.bool true) ∧ Fr nob w w' := by
  have hwrite := fun V (hV : Fr nob w V) => ident_write p V (hp.nob hV)
  have hS8 : ∀ x ∈ p.s.S, bytes8 x.2 := fun x hx => by
    obtain ⟨y, hy, rfl⟩ := List.mem_map.1 hx
    exact hp8 y hy
  obtain ⟨ps, hps⟩ : ∃ ps, ps = p.s := ⟨_, rfl⟩
  rw [← hps] at hwrite hS8
  have hsamec := fun V (q : Pt) (hV : Fr nob w V) (hq : q.ok V) (he : q.s = ps) => ref21_same p q V (hp.nob hV) hq (by rw [he, hps])
  have hp' := hp
  obtain ⟨pc, pl, pm, px, pA, pn, pcp, pL⟩ := p
  obtain ⟨hO, hn, hcp⟩ := hp
  dsimp only at hO hn hcp
  rw [Pt.val, Pt.cells]
  simp only [Pt.val, Pt.cells] at hwrite hsamec
  dsimp only
  have HW := Lib.hid hwrite
  have HSM := Lib.hid hsamec
  have hb0 := Blk.new w 24 #[.int .i64 pc, .int .i64 pl, .bool pm, .int .i64 px, .slice pA pn pcp]
  have hf0 := (Fr.refl nob w).alloc (.cells #[.int .i64 pc, .int .i64 pl, .bool pm, .int .i64 px, .slice pA pn pcp] 24)
  have HPS := Lib.hid hps
  clear hps hwrite hsamec hp'
  go_enter Try.func5, Try.ntmps5
  go_wp2_with fail
  refine (few_any pA pn pcp pL _ (hO.nob hf0) hn hcp).mono ?_
  rintro e w1 ⟨fb, rfl, hf1, hfew⟩
  have hf01 := hf0.trans hf1 (fun _ _ h => h)
  have hb1 := hb0.fr hf1 (fun h => h)
  cases fb with
  | false =>
    go_wp2_with (go_at_call 12; refine (ident_sure _).mono ?_; rintro e w' ⟨rfl, hf⟩)
    go_ret
    exact ⟨rfl, hf01.trans hf (fun _ _ h => h)⟩
  | true =>
    by_cases h600 : 600 < m
    · go_wp2_with (go_at_call 12; refine (ident_sure _).mono ?_; rintro e w' ⟨rfl, hf⟩)
      go_ret
      exact ⟨rfl, hf01.trans hf (fun _ _ h => h)⟩
    · have q1 := hb1.cell
      have z1 := hb1.lt
      clear hfew hb0 hf0 hf1
      go_wp2_with fail
      refine (HW.out _ hf01).mono ?_
      rintro e w2 hwp
      cases hw : writeS ps with
      | none =>
        rw [writePost, hw] at hwp
        obtain ⟨A2, k2, c2, rfl, hr2, hk2, hc2, -, hf2⟩ := hwp
        rw [show errW none = 11 from rfl]
        have hf02 := hf01.trans hf2 (fun _ _ h => h)
        clear hw hr2
        go_wp2_with fail
        refine (ident_read B m c d _ (hr.nob hf02) h8 hm hc).mono ?_
        rintro e wa hra
        rw [readPost] at hra
        obtain ⟨q, rfl, hqok, hqs, hqx, hfa, -⟩ := hra
        have hfwa := hf02.trans hfa (fun _ _ h => h)
        obtain ⟨qc, ql, qm, qx, qA, qn, qcp, qL⟩ := q
        rw [Pt.val, Pt.cells]
        dsimp only
        cases hrd : readS d with
        | none =>
          have hqn : qn = 0 := by
            have h1 := hqok.1.len
            have h2 := congrArg (fun p => p.S.length) hqs
            rw [hrd] at h2
            simp [Pt.s, ps0] at h2
            dsimp only at h1
            rw [h2] at h1
            simpa using h1.symm
          subst hqn
          rw [show errR none = 14 from rfl]
          clear hqs hrd
          go_wp2_with (go_at_call 12; refine (ident_sure _).mono ?_; rintro e w' ⟨rfl, hf⟩)
          go_ret
          exact ⟨rfl, (hfwa.alloc _).trans hf (fun _ _ h => h)⟩
        | some qs =>
          rw [hrd] at hqs
          have hqse : (⟨qc, ql, qm, qx, qA, qn, qcp, qL⟩ : Pt).s = qs := hqs
          have hwq := write_read h8 hrd
          rw [show errR (some qs) = 0 from rfl]
          have hqok2 := hqok.nob ((Fr.refl nob wa).alloc (.cells #[.int .i64 qc, .int .i64 ql, .bool qm, .int .i64 qx, .slice qA qn qcp] 24))
          have hwc := ident_write _ _ hqok2
          rw [hqse, writePost, hwq] at hwc
          simp only [Pt.val, Pt.cells] at hwc
          have HWC := Lib.hid hwc
          have hfwb := hfwa.alloc (.cells #[.int .i64 qc, .int .i64 ql, .bool qm, .int .i64 qx, .slice qA qn qcp] 24)
          clear hqs hrd hqse hwq hwc
          go_wp2_with fail
          refine HWC.out.mono ?_
          rintro e wb ⟨Ab, kb, cb, rfl, hrb, hkb, hcb, -, hfb⟩
          rw [show errW (some d) = 0 from rfl]
          have hfwc := hfwb.trans hfb (fun _ _ h => h)
          go_wp2_with fail
          refine (bytes_any Ab B kb m cb c d d _ hrb (hr.nob hfwc) (by omega) (by omega)).mono ?_
          rintro e wd ⟨rfl, kd, rfl⟩
          rw [show sameInts d d = true by simp [sameInts]]
          go_wp2_with (go_at_call 12; refine (ident_sure _).mono ?_; rintro e w' ⟨rfl, hf⟩)
          go_ret
          exact ⟨rfl, (hfwc.drewN _).trans hf (fun _ _ h => h)⟩
      | some b =>
        rw [writePost, hw] at hwp
        obtain ⟨A2, k2, c2, rfl, hr2, hk2, hc2, -, hf2⟩ := hwp
        rw [show errW (some b) = 0 from rfl]
        have hr2 : Rd w2 1 A2 k2 (nums .u8 b) := hr2
        have hf02 := hf01.trans hf2 (fun _ _ h => h)
        obtain ⟨hrb, hbl⟩ := read_write hw
        have hb8 := bytes_write hw hS8
        have hk2l : b.length = k2 := hr2.numlen
        have hk252 : k2 ≤ 252 := by omega
        have hb2 := hb1.fr hf2 (fun h => h)
        have HRB := Lib.hid hrb
        have q2 := hb2.cell
        have z2 := hb2.lt
        clear hw hrb hk2l q1
        go_wp2_with fail
        have hrdc := ident_read A2 k2 c2 b w2 hr2 hb8 hk2 hc2
        rw [readPost, HRB.out, show errR (some ps) = 0 from rfl] at hrdc
        refine hrdc.mono ?_
        clear hrdc
        rintro e w3 ⟨q, rfl, hqok, hqs, -, hf3, -⟩
        have hqs : q.s = ps := hqs
        have hf03 := hf02.trans hf3 (fun _ _ h => h)
        have hb3 := hb2.fr hf3 (fun h => h)
        have hsm := HSM.out (w3.alloc (.cells q.cells 24)) q (hf03.alloc _) (hqok.nob ((Fr.refl nob w3).alloc _)) hqs
        obtain ⟨qc, ql, qm, qx, qA, qn, qcp, qL⟩ := q
        rw [Pt.val, Pt.cells]
        simp only [Pt.cells] at hsm
        dsimp only
        have hf04 := hf03.alloc (.cells #[.int .i64 qc, .int .i64 ql, .bool qm, .int .i64 qx, .slice qA qn qcp] 24)
        have HSMC := Lib.hid hsm
        have q3 := hb3.cell
        have z3 := hb3.lt
        clear hqs hsm q2
        go_wp2_with fail
        refine HSMC.out.mono ?_
        rintro e w5 ⟨rfl, hf5⟩
        have hf05 := hf04.trans hf5 (fun _ _ h => h)
        go_wp2_with fail
        refine (ident_read B m c d _ (hr.nob hf05) h8 hm hc).mono ?_
        rintro e wa hra
        rw [readPost] at hra
        obtain ⟨q, rfl, hqok, hqs, hqx, hfa, -⟩ := hra
        have hfwa := hf05.trans hfa (fun _ _ h => h)
        obtain ⟨qc, ql, qm, qx, qA, qn, qcp, qL⟩ := q
        rw [Pt.val, Pt.cells]
        dsimp only
        cases hrd : readS d with
        | none =>
          have hqn : qn = 0 := by
            have h1 := hqok.1.len
            have h2 := congrArg (fun p => p.S.length) hqs
            rw [hrd] at h2
            simp [Pt.s, ps0] at h2
            dsimp only at h1
            rw [h2] at h1
            simpa using h1.symm
          subst hqn
          rw [show errR none = 14 from rfl]
          clear hqs hrd
          go_wp2_with (go_at_call 12; refine (ident_sure _).mono ?_; rintro e w' ⟨rfl, hf⟩)
          go_ret
          exact ⟨rfl, (hfwa.alloc _).trans hf (fun _ _ h => h)⟩
        | some qs =>
          rw [hrd] at hqs
          have hqse : (⟨qc, ql, qm, qx, qA, qn, qcp, qL⟩ : Pt).s = qs := hqs
          have hwq := write_read h8 hrd
          rw [show errR (some qs) = 0 from rfl]
          have hqok2 := hqok.nob ((Fr.refl nob wa).alloc (.cells #[.int .i64 qc, .int .i64 ql, .bool qm, .int .i64 qx, .slice qA qn qcp] 24))
          have hwc := ident_write _ _ hqok2
          rw [hqse, writePost, hwq] at hwc
          simp only [Pt.val, Pt.cells] at hwc
          have HWC := Lib.hid hwc
          have hfwb := hfwa.alloc (.cells #[.int .i64 qc, .int .i64 ql, .bool qm, .int .i64 qx, .slice qA qn qcp] 24)
          clear hqs hrd hqse hwq hwc
          go_wp2_with fail
          refine HWC.out.mono ?_
          rintro e wb ⟨Ab, kb, cb, rfl, hrb, hkb, hcb, -, hfb⟩
          rw [show errW (some d) = 0 from rfl]
          have hfwc := hfwb.trans hfb (fun _ _ h => h)
          go_wp2_with fail
          refine (bytes_any Ab B kb m cb c d d _ hrb (hr.nob hfwc) (by omega) (by omega)).mono ?_
          rintro e wd ⟨rfl, kd, rfl⟩
          rw [show sameInts d d = true by simp [sameInts]]
          go_wp2_with (go_at_call 12; refine (ident_sure _).mono ?_; rintro e w' ⟨rfl, hf⟩)
          go_ret
          exact ⟨rfl, (hfwc.drewN _).trans hf (fun _ _ h => h)⟩
end Go.Proofs.Ythdenkmmiadeiaa
