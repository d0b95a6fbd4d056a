/- Layer 6's law TimerDoes, walked. -/
import Derived.Test.YthdenkmmiadeiaaTop
namespace Go.Proofs.Ythdenkmmiadeiaa
set_option linter.unusedSimpArgs false
set_option linter.unusedVariables false
open Go.RowKit

/-- A call, as it lies. -/
def opc (x : Int × Int × Int) : List Value := [.int .i64 x.1, .int .i64 x.2.1, .int .i64 x.2.2]
theorem opc_len (x : Int × Int × Int) : (opc x).length = 3 := rfl
theorem ops_at {w : World} {A : Option Addr} {n : Nat} {lo : List (Int × Int × Int)} (h : Rd w 3 A n (lo.flatMap opc)) {k : Nat} (hk : k < n) : ∃ b o x, A = some ⟨b, o, none⟩ ∧ b < w.heap.size ∧ lo[k]? = some x ∧ w.cell? ⟨b, o + k * 3, none⟩ = some (.int .i64 x.1) ∧ w.cell? ⟨b, o + k * 3 + 1, none⟩ = some (.int .i64 x.2.1) ∧ w.cell? ⟨b, o + k * 3 + 2, none⟩ = some (.int .i64 x.2.2) := by
  obtain ⟨b, o, x, e, hb, hx, hc⟩ := Rd.row opc_len (by omega) h hk
  exact ⟨b, o, x, e, hb, hx, hc 0 _ rfl, hc 1 _ rfl, hc 2 _ rfl⟩

theorem St.keep {w w' : World} {base : Nat} {qv wv : Value} {L : List Tm} (h : St w base qv wv L) (hf : Fr nob w w') : St w' base qv wv L := by
  obtain ⟨g, mb, v, E, A, n, c, e1, e2, hq, ht, hnc, hc, hty, hl⟩ := h
  exact ⟨g, mb, v, E, A, n, c, e1, e2, hq.keep hf, ht.nob hf, hnc, hc, hty.fr hf, hl⟩
/-- What is told of a number. -/
theorem told_cases (L : List Tm) (hg : Good L) (id : Int) : (idxT L id = -1 ∧ hasS L id = false ∧ atS L id = 0) ∨ ∃ (j : Nat) (y : Tm), idxT L id = j ∧ hasS L id = true ∧ L[j]? = some y ∧ atS L id = y.2 := by
  rcases idxT_has L id with ⟨_, h2, j, y, h3, h4, h5⟩ | ⟨h1, h2⟩
  · refine .inr ⟨j, y, h3, h2, h4, ?_⟩
    rw [← h5]
    exact atS_some hg (List.mem_of_getElem? h4)
  · exact .inl ⟨h1, h2, atS_none h2⟩

set_option maxHeartbeats 8000000 in
set_option maxRecDepth 100000 in
theorem timerDoes_any (A : Option Addr) (n c : Nat) (lo : List (Int × Int × Int)) (w : World) (ha : Rd w 3 A n (lo.flatMap opc)) (hw : ∀ x ∈ lo, W64 x.2.1) (hnc : n ≤ 9223372036854775807) :
    Calls Try.prog 8 #[.slice A n c] w fun e w' => e = .returned (.bool true) ∧ Fr nob w w' := by
  have hSure := timer_sure
  have HSU := Lib.hid hSure
  clear hSure
  by_cases hbig : 300 < n
  · go_enter Try.func8, Try.ntmps8
    go_wp2_with fail
    refine (HSU.out _).mono ?_
    rintro e w1 ⟨rfl, hf⟩
    go_wp2_with fail
    go_ret
    exact ⟨rfl, hf⟩
  have HW := Lib.hid hw
  clear hw
  go_enter Try.func8, Try.ntmps8
  go_wp2_with fail
  refine (tnew_any w).mono ?_
  rintro e w1 ⟨rfl, hq1, hf1⟩
  have hst : St w1 w.heap.size (.pointer (some ⟨w.heap.size + 1, 0, none⟩)) (.slice none 0 0) [] := ⟨_, _, _, _, _, _, _, rfl, rfl, hq1, Rd.of_own (World.ownsRow_nil w1 0 69 2), by omega, by omega, TyA.nil _, legal_nil⟩
  have HST := Lib.hid hst
  have HF1 := Lib.hid hf1
  clear hst hq1 hf1
  go_wp2_with fail
  go_loopw [3, 4, 5] (fun qv wv iv wr => ∃ (k : Nat) (L : List Tm), iv = .int .i64 k ∧ k ≤ n ∧ Hid (St wr w.heap.size qv wv L) ∧ Hid (Fr nob w wr)) (fun _ _ iv _ => n - (intOf iv).toNat)
  case atStart => exact ⟨0, [], rfl, by omega, HST, HF1⟩
  case round =>
    clear HST HF1
    obtain ⟨k, L, rfl, hk, hst, hf⟩ := hrel
    obtain ⟨g, mb, v, E, Aw, nw, cw, rfl, rfl, -⟩ := hst.out
    by_cases hlt : k < n
    · obtain ⟨b, o, x, rfl, hb, hx, hc0, hc1, hc2⟩ := ops_at ha hlt
      have hi0 : (0 : Int) ≤ (k : Int) ∧ (k : Int) < (n : Int) := ⟨by omega, by omega⟩
      have hxw := HW.out x (List.mem_of_getElem? hx)
      obtain ⟨xk, xi, xa⟩ := x
      dsimp only at hc0 hc1 hc2 hxw
      have hcl : ∀ V, Fr nob w V → V.cell? ⟨b, o + k * 3, none⟩ = some (.int .i64 xk) ∧ V.cell? ⟨b, o + k * 3 + 1, none⟩ = some (.int .i64 xi) ∧ V.cell? ⟨b, o + k * 3 + 2, none⟩ = some (.int .i64 xa) := fun V h =>
        ⟨(h.cell (p := ⟨b, _, none⟩) hb (fun h => h)).trans hc0, (h.cell (p := ⟨b, _, none⟩) hb (fun h => h)).trans hc1, (h.cell (p := ⟨b, _, none⟩) hb (fun h => h)).trans hc2⟩
      have HCL := Lib.hid hcl
      have HOP := Lib.hid (op_any wr w.heap.size _ _ L xk xi xa hst.out hxw)
      unfold opPost at HOP
      obtain ⟨p0, p1, p2⟩ := HCL.out wr hf.out
      clear hx hcl hc0 hc1 hc2
      go_wp2_with fail
      refine HOP.out.mono ?_
      rintro e w2 ⟨L2, qv2, wv2, rfl, hst2, hf2⟩
      have HF2 := Lib.hid (hf.out.newer hf2 (fun i hi => hi))
      have HST2 := Lib.hid hst2
      obtain ⟨g2, mb2, v2, E2, A2, n2, c2, rfl, rfl, hq2, ht2, hnc2, hc2, -, -⟩ := hst2
      have HQ2 := Lib.hid hq2
      have HT2 := Lib.hid ht2
      have hn2 : n2 ≤ 256 := by rw [← ht2.len]; exact hq2.le
      have hle2 := ht2.len
      have hlen := qlen_any w2 _ g2 mb2 v2 E2 L2 hq2
      rw [hle2] at hlen
      have HLEN := Lib.hid hlen
      have hnn : ((n2 : Int) == (n2 : Int)) = true := by simp
      have hfst := Lib.hid (tfirst_any w2 _ g2 mb2 v2 E2 L2 hq2)
      have HLE2 := Lib.hid hle2
      obtain ⟨p0, p1, p2⟩ := HCL.out w2 HF2.out
      clear hf2 hq2 ht2 hle2 hlen HOP
      go_wp2_with fail
      refine HLEN.out.mono ?_
      rintro e w3 ⟨rfl, rfl⟩
      have hfind := fun V (hV : Fr nob w2 V) => ref06_find A2 n2 c2 L2 xi V (HT2.out.nob hV) (by omega)
      have hwhen := fun V (hV : Fr nob w2 V) => qwhen_any V _ g2 mb2 v2 E2 L2 xi (HQ2.out.keep hV) hxw
      have htold := told_cases L2 HQ2.out.good xi
      obtain ⟨ix, hix⟩ : ∃ ix, ix = idxT L2 xi := ⟨_, rfl⟩
      obtain ⟨hs, hhs⟩ : ∃ hs, hs = hasS L2 xi := ⟨_, rfl⟩
      obtain ⟨at_, hat⟩ : ∃ at_, at_ = atS L2 xi := ⟨_, rfl⟩
      rw [← hix] at hfind
      rw [← hhs, ← hat] at hwhen
      rw [← hix, ← hhs, ← hat] at htold
      have HFI := Lib.hid hfind
      have HWH := Lib.hid hwhen
      have HTO := Lib.hid htold
      have HAT := Lib.hid (fun V (hV : Fr nob w2 V) k (hk : k < n2) => (HT2.out.nob hV).at_ hk)
      have hfirst : (n2 = 0 ∧ firstS L2 = ((0, 0), false)) ∨ ∃ b0 o0 y0 y1, A2 = some ⟨b0, o0, none⟩ ∧ 0 < n2 ∧ firstS L2 = ((y0, y1), true) ∧ w2.cell? ⟨b0, o0, none⟩ = some (.int .i64 y0) ∧ w2.cell? ⟨b0, o0 + 1, none⟩ = some (.int .i64 y1) := by
        rcases Nat.eq_zero_or_pos n2 with h0 | h0
        · have : L2 = [] := List.eq_nil_of_length_eq_zero (by rw [HLE2.out]; exact h0)
          exact .inl ⟨h0, by rw [this]; rfl⟩
        · obtain ⟨b0, o0, ⟨y0, y1⟩, e1, _, hy, h1, h2⟩ := HT2.out.at_ h0
          refine .inr ⟨b0, o0, y0, y1, e1, h0, ?_, by simpa using h1, by simpa using h2⟩
          cases hL : L2 with
          | nil => rw [hL] at hy; cases hy
          | cons z r => rw [hL] at hy; simp at hy; rw [hy]; rfl
      clear hfind hwhen htold hix hhs hat
      rcases hfirst with ⟨rfl, hfe⟩ | ⟨b0, o0, y0, y1, rfl, hn0, hfe, r0, r1⟩
      · rw [hfe] at hfst
        dsimp only at hfst
        clear hfe
        go_wp2_with fail
        refine hfst.out.mono ?_
        rintro e w4 ⟨rfl, q, rfl⟩
        go_wp2_with fail
        refine (HFI.out _ ((Fr.refl nob w2).drewN q)).mono ?_
        rintro e w5 ⟨rfl, rfl⟩
        go_wp2_with fail
        refine (HWH.out _ ((Fr.refl nob w2).drewN q)).mono ?_
        rintro e w5 ⟨rfl, hf5⟩
        have HF5 := Lib.hid (((Fr.refl nob w2).drewN q).trans hf5 (fun _ _ h => h))
        rcases HTO.out with ⟨rfl, rfl, rfl⟩ | ⟨j, y, _, _, hj, _⟩
        · go_wp2_with fail
          go_roundw
          case rel => exact ⟨k + 1, L2, by go_num, by omega, Lib.hid (HST2.out.keep HF5.out), Lib.hid (HF2.out.trans HF5.out (fun _ _ h => h))⟩
          case measure => simp [intOf]; omega
        · have h1 := (List.getElem?_eq_some_iff.1 hj).1
          have h2 := HLE2.out
          omega
      · rw [hfe] at hfst
        dsimp only at hfst
        have hgt : decide ((0 : Int) < (n2 : Int)) = true := decide_eq_true (by omega)
        clear hfe
        go_wp2_with fail
        refine hfst.out.mono ?_
        rintro e w4 ⟨rfl, q, rfl⟩
        go_wp2_with fail
        refine (HFI.out _ ((Fr.refl nob w2).drewN q)).mono ?_
        rintro e w5 ⟨rfl, rfl⟩
        go_wp2_with fail
        refine (HWH.out _ ((Fr.refl nob w2).drewN q)).mono ?_
        rintro e w5 ⟨rfl, hf5⟩
        have HF5 := Lib.hid (((Fr.refl nob w2).drewN q).trans hf5 (fun _ _ h => h))
        rcases HTO.out with ⟨rfl, rfl, rfl⟩ | ⟨j, ⟨yi, ya⟩, rfl, rfl, hj, rfl⟩
        · go_wp2_with fail
          go_roundw
          case rel => exact ⟨k + 1, L2, by go_num, by omega, Lib.hid (HST2.out.keep HF5.out), Lib.hid (HF2.out.trans HF5.out (fun _ _ h => h))⟩
          case measure => simp [intOf]; omega
        · have hjn : j < n2 := by
            have h1 := (List.getElem?_eq_some_iff.1 hj).1
            have h2 := HLE2.out
            omega
          obtain ⟨b3, o3, y3, e3, _, hy3, s0, s1⟩ := HAT.out w5 HF5.out j hjn
          cases e3
          rw [hj] at hy3
          cases hy3
          dsimp only at s0 s1
          have hji : (0 : Int) ≤ (j : Int) ∧ (j : Int) < (n2 : Int) := ⟨by omega, by omega⟩
          clear hj
          go_wp2_with fail
          go_roundw
          case rel => exact ⟨k + 1, L2, by go_num, by omega, Lib.hid (HST2.out.keep HF5.out), Lib.hid (HF2.out.trans HF5.out (fun _ _ h => h))⟩
          case measure => simp [intOf]; omega
    · obtain rfl : k = n := by omega
      go_wp2_with fail
      refine (HSU.out _).mono ?_
      rintro e w10 ⟨rfl, hf10⟩
      go_wp2_with fail
      go_ret
      exact ⟨rfl, hf.out.trans hf10 (fun _ _ h => h)⟩
end Go.Proofs.Ythdenkmmiadeiaa
