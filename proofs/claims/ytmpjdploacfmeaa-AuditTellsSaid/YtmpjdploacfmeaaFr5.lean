/- audit.Frames, whole; contract of audit.Check. -/
import Derived.Test.YtmpjdploacfmeaaFr2
import Derived.WalkMore
import Derived.Test.YtmpjdploacfmeaaFr4
namespace Go.Proofs.Ytmpjdploacfmeaa
set_option linter.unusedSimpArgs false
set_option linter.unusedVariables false
open Go.RowKit

theorem audit_frames (A : Option Addr) (n c : Nat) (lo : List (Int × Int)) (tc ts tl tt : Int) (w : World) (h : Rd w 2 A n (lo.flatMap outc)) (hn : n ≤ 400) (hnc : n ≤ c) :
    Calls Try.prog 32 #[.slice A n c, .agg #[.int .i64 tc, .int .i64 ts, .int .i64 tl, .int .i64 tt]] w (frPost w tc ts tl tt lo) := by
  cases hr : rightT tc ts tl tt with
  | false => exact frames_refuse A n c lo tc ts tl tt w hr
  | true =>
    cases hf : framesF tc lo with
    | none => exact frames_near A n c lo tc ts tl tt w h hn hr hf
    | some r =>
      obtain ⟨fs, ats⟩ := r
      exact frames_tell A n c lo tc ts tl tt fs ats w h hn hnc hr hf

set_option maxHeartbeats 4000000 in
set_option maxRecDepth 100000 in
theorem audit_check (A : Option Addr) (n c : Nat) (lo : List (Int × Int)) (st tc ts tl tt : Int) (w : World) (h : Rd w 2 A n (lo.flatMap outc)) (h8 : ∀ y ∈ lo, 0 ≤ y.2 ∧ y.2 ≤ 255) (hn : n ≤ 400) (hnc : n ≤ c) :
    Calls Try.prog 36 #[.slice A n c, .int .i64 st, .agg #[.int .i64 tc, .int .i64 ts, .int .i64 tl, .int .i64 tt]] w fun e w' => e = .returned (.int .i64 (checkF (rightT tc ts tl tt) tc lo st)) ∧ Fr nob w w' := by
  have hf0 := (Fr.refl nob w).alloc (.cells #[.int .i64 tc, .int .i64 ts, .int .i64 tl, .int .i64 tt] 63)
  have hfr := audit_frames A n c lo tc ts tl tt _ (h.nob hf0) hn hnc
  unfold frPost at hfr
  obtain ⟨v, hv⟩ : ∃ v, v = checkF (rightT tc ts tl tt) tc lo st := ⟨_, rfl⟩
  rw [← hv]
  have HV := Lib.hid hv
  have HFR := Lib.hid hfr
  have HF0 := Lib.hid hf0
  have H8 := Lib.hid h8
  clear h hfr hv hf0 h8
  go_enter Try.func36, Try.ntmps36
  go_wp2_with fail
  go_step3
  go_wp2_with fail
  refine HFR.out.mono ?_
  rintro e w1 ⟨hf1, ⟨hr, rfl⟩ | ⟨hr, hfn, rfl⟩ | ⟨hr, fs, ats, ov, A2, c2, hfs, rfl, hcr, hown⟩⟩
  · have HV2 := Lib.hid (show v = 11 by rw [HV.out, checkF, if_pos hr])
    have HF1 := Lib.hid (HF0.out.trans hf1 (fun _ _ h => h))
    clear HFR HV hf1
    go_wp2_with fail
    (try rw [Exit.noGoto_ret])
    go_ret
    exact ⟨by rw [HV2.out]; rfl, HF1.out⟩
  · have HV2 := Lib.hid (show v = 14 by rw [HV.out, checkF, if_neg (by rw [hr]; simp), hfn])
    have HF1 := Lib.hid (HF0.out.trans hf1 (fun _ _ h => h))
    clear HFR HV hf1
    go_wp2_with fail
    (try rw [Exit.noGoto_ret])
    go_ret
    exact ⟨by rw [HV2.out]; rfl, HF1.out⟩
  · have HV2 := Lib.hid (show v = if st < 1 ∨ 247 < st then 11 else chkS st fs by rw [HV.out, checkF, if_neg (by rw [hr]; simp), hfs])
    have HF1 := Lib.hid (HF0.out.trans hf1 (fun _ _ h => h))
    obtain ⟨Ao, oc, rfl⟩ := hcr.form
    have HCR := Lib.hid hcr
    have HB := Lib.hid (framesF_bytes hfs (fun x => 0 ≤ x ∧ x ≤ 255) H8.out)
    have hfl : fs.length ≤ 9223372036854775807 := by
      obtain ⟨vs, _, h2, _⟩ := hcr
      exact own_max h2
    obtain ⟨m, hm⟩ : ∃ m, m = fs.length := ⟨_, rfl⟩
    have HM := Lib.hid hm
    rw [← hm] at hfl
    rw [← hm]
    clear HFR HV hf1 hcr hown hfs hr hm
    by_cases hst : st < 1 ∨ 247 < st
    · have HV3 := Lib.hid (show v = 11 by rw [HV2.out, if_pos hst])
      have hfi := fun V => filter_right st V
      rw [decide_eq_false (by omega)] at hfi
      clear hst
      go_wp2_with fail
      refine (hfi _).mono ?_
      rintro e w2 ⟨rfl, rfl⟩
      go_wp2_with fail
      (try rw [Exit.noGoto_ret])
      go_ret
      exact ⟨by rw [HV3.out]; rfl, HF1.out⟩
    · have HV3 := Lib.hid (show v = chkS st fs by rw [HV2.out, if_neg hst])
      have hfi := fun V => filter_right st V
      rw [decide_eq_true (by omega)] at hfi
      clear hst HV2
      go_wp2_with fail
      refine (hfi _).mono ?_
      rintro e w2 ⟨rfl, rfl⟩
      go_wp2_with fail
      go_step3
      go_wp2_with fail
      go_loopw [9, 32] (fun ev iv wr => ∃ k : Nat, ev = .int .i64 0 ∧ iv = .int .i64 k ∧ k ≤ m ∧ Hid (v = chkS st (fs.drop k)) ∧ Hid (Fr nob w1 wr)) (fun _ iv _ => m - (intOf iv).toNat)
      case atStart => exact ⟨0, rfl, rfl, by omega, HV3, Lib.hid (Fr.refl _ _)⟩
      case round =>
        obtain ⟨k, rfl, rfl, hk, hvk, hf⟩ := hrel
        by_cases hlt : k < m
        · have hcrk := HCR.out.nob hf.out
          obtain ⟨g, o, f, rfl, hg, hfk, Ai, ni, ci, hc, hni, hci, hrd⟩ := hcrk.at_ (k := k) (by rw [← HM.out]; exact hlt)
          have hi0 : (0 : Int) ≤ (k : Int) ∧ (k : Int) < (m : Int) := ⟨by omega, by omega⟩
          have hop := Lib.hid (adu_open Ai ni ci f wr hrd (HB.out f (List.mem_of_getElem? hfk)) hni hci)
          have hd : fs.drop k = f :: fs.drop (k + 1) := by
            obtain ⟨h1, h2⟩ := List.getElem?_eq_some_iff.1 hfk
            rw [List.drop_eq_getElem_cons h1, h2]
          have HVK := Lib.hid (show v = if openE f ≠ 0 then openE f else if openO f ≠ st then 15 else chkS st (fs.drop (k + 1)) by rw [hvk.out, hd, chkS])
          have hoc := openE_cases f
          obtain ⟨oe, hoe⟩ : ∃ x, x = openE f := ⟨_, rfl⟩
          obtain ⟨oo, hoo⟩ : ∃ x, x = openO f := ⟨_, rfl⟩
          rw [← hoe, ← hoo] at hop HVK
          rw [← hoe] at hoc
          clear hcrk hfk hrd hd hvk hoe hoo
          go_wp2_with fail
          refine hop.out.mono ?_
          rintro e w3 ⟨x3, rfl, hf3⟩
          have HF3 := Lib.hid (hf.out.trans hf3 (fun _ _ h => h))
          clear hop hf3
          rcases hoc with rfl | rfl | rfl | rfl
          · by_cases hos : oo = st
            · have e1 : (oo == st) = true := beq_iff_eq.2 hos
              have HVN := Lib.hid (show v = chkS st (fs.drop (k + 1)) by rw [HVK.out, if_neg (by simp), if_neg (by simp [hos])])
              clear hos HVK
              go_wp2_with fail
              go_roundw
              case rel => exact ⟨k + 1, rfl, by go_num, by omega, HVN, HF3⟩
              case measure => simp [intOf]; omega
            · have e1 : (oo == st) = false := beq_eq_false_iff_ne.2 hos
              have HVN := Lib.hid (show v = 15 by rw [HVK.out, if_neg (by simp), if_pos hos])
              clear hos HVK
              go_wp2_with fail
              (try rw [Exit.noGoto_ret])
              go_ret
              exact ⟨by rw [HVN.out]; rfl, HF1.out.trans HF3.out (fun _ _ h => h)⟩
          all_goals
            go_wp2_with fail
            (try rw [Exit.noGoto_ret])
            go_ret
            exact ⟨by rw [HVK.out, if_pos (by decide)]; rfl, HF1.out.trans HF3.out (fun _ _ h => h)⟩
        · obtain rfl : k = m := by omega
          have HVN := Lib.hid (show v = 0 by rw [hvk.out, List.drop_eq_nil_of_le (by rw [← HM.out]; exact Nat.le_refl _)]; rfl)
          go_wp2_with fail
          (try rw [Exit.noGoto_ret])
          go_ret
          exact ⟨by rw [HVN.out]; rfl, HF1.out.trans hf.out (fun _ _ h => h)⟩
end Go.Proofs.Ytmpjdploacfmeaa
