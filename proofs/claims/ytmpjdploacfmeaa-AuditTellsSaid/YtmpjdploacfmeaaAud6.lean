/- Contract of the document's Check (bilgeref31). -/
import Derived.Test.YtmpjdploacfmeaaAud5
import Derived.Test.YtmpjdploacfmeaaAdu2
namespace Go.Proofs.Ytmpjdploacfmeaa
set_option linter.unusedSimpArgs false
set_option linter.unusedVariables false
open Go.RowKit

theorem goF_bytes {tc : Int} : ∀ (r : List (Int × Int)) (p : Int) (done : List (List Int)) (cur ats : List Int) (fs : List (List Int)) (bs : List Int), goF tc p done cur ats r = some (fs, bs) → ∀ (P : Int → Prop), (∀ f ∈ done, ∀ x ∈ f, P x) → (∀ x ∈ cur, P x) → (∀ y ∈ r, P y.2) → ∀ f ∈ fs, ∀ x ∈ f, P x
  | [], p, done, cur, ats, fs, bs, h, P, h1, h2, h3 => by
    rw [goF] at h
    cases h
    intro f hf
    rcases List.mem_append.1 hf with hf | hf
    · exact h1 f hf
    · simp at hf; subst hf; exact h2
  | y :: r, p, done, cur, ats, fs, bs, h, P, h1, h2, h3 => by
    rw [goF] at h
    have hy := h3 y (List.mem_cons_self ..)
    have hr := fun z hz => h3 z (List.mem_cons_of_mem _ hz)
    split at h
    · cases h
    · split at h
      · refine goF_bytes r _ _ _ _ _ _ h P (fun f hf => ?_) (fun x hx => ?_) hr
        · rcases List.mem_append.1 hf with hf | hf
          · exact h1 f hf
          · simp at hf; subst hf; exact h2
        · simp at hx; subst hx; exact hy
      · refine goF_bytes r _ _ _ _ _ _ h P h1 (fun x hx => ?_) hr
        rcases List.mem_append.1 hx with hx | hx
        · exact h2 x hx
        · simp at hx; subst hx; exact hy
theorem framesF_bytes {tc : Int} {lo : List (Int × Int)} {fs : List (List Int)} {bs : List Int} (h : framesF tc lo = some (fs, bs)) (P : Int → Prop) (hP : ∀ y ∈ lo, P y.2) : ∀ f ∈ fs, ∀ x ∈ f, P x := by
  cases lo with
  | nil => rw [framesF] at h; cases h; intro f hf; cases hf
  | cons y r =>
    rw [framesF] at h
    split at h
    · cases h
    · exact goF_bytes r _ _ _ _ _ _ h P (fun f hf => by cases hf) (fun x hx => by simp at hx; subst hx; exact hP y (List.mem_cons_self ..)) (fun z hz => hP z (List.mem_cons_of_mem _ hz))
/-- What Check tells of frames. -/
def chkS (st : Int) : List (List Int) → Int
  | [] => 0
  | f :: r => if openE f ≠ 0 then openE f else if openO f ≠ st then 15 else chkS st r
def checkF (right : Bool) (tc : Int) (lo : List (Int × Int)) (st : Int) : Int := if right = false then 11 else match framesF tc lo with
  | none => 14
  | some (fs, _) => if st < 1 ∨ 247 < st then 11 else chkS st fs
theorem CR.form {w : World} {base : Nat} {ov : Value} {fs : List (List Int)} (h : CR w base ov fs) : ∃ A c, ov = .slice A fs.length c := by
  obtain ⟨vs, h1, h2, h3⟩ := h
  obtain ⟨A, c, e, _⟩ := own_form h2
  exact ⟨A, c, e⟩
theorem CR.at_ {w : World} {base c : Nat} {A : Option Addr} {fs : List (List Int)} (h : CR w base (.slice A fs.length c) fs) {k : Nat} (hk : k < fs.length) : ∃ g o f, A = some ⟨g, o, none⟩ ∧ g < w.heap.size ∧ fs[k]? = some f ∧ ∃ Ai ni ci, w.cell? ⟨g, o + k, none⟩ = some (.slice Ai ni ci) ∧ ni ≤ ci ∧ ci ≤ 9223372036854775807 ∧ Rd w 1 Ai ni (nums .u8 f) := by
  obtain ⟨vs, h1, h2, h3⟩ := h
  obtain ⟨g, o, e, hg, u, hu, hc⟩ := (Rd.of_own h2).at_ hk
  obtain ⟨f, hf, Ai, ni, ci, rfl, h4, h5, h6, _⟩ := h3 k u hu
  exact ⟨g, o, f, e, hg, hf, Ai, ni, ci, hc, h4, h5, h6⟩
theorem CR.nob {w w' : World} {base : Nat} {ov : Value} {fs : List (List Int)} (h : CR w base ov fs) (hf : Fr nob w w') : CR w' base ov fs := h.fr hf (fun _ _ _ _ _ h => h)
theorem openE_cases (l : List Int) : openE l = 0 ∨ openE l = 12 ∨ openE l = 13 ∨ openE l = 14 := by
  unfold openE
  split
  · exact .inr (.inl rfl)
  · split
    · exact .inr (.inr (.inl rfl))
    · split
      · exact .inl rfl
      · exact .inr (.inr (.inr rfl))

set_option maxHeartbeats 4000000 in
set_option maxRecDepth 100000 in
theorem ref31_check (A : Option Addr) (n c : Nat) (lo : List (Int × Int)) (st tc ts tl tt : Int) (w : World) (h : Rd w 2 A n (lo.flatMap outc)) (h8 : ∀ y ∈ lo, 0 ≤ y.2 ∧ y.2 ≤ 255) (hn : n ≤ 400) :
    Calls Try.prog 37 #[.slice A n c, .int .i64 st, .agg #[.int .i64 tc, .int .i64 ts, .int .i64 tl, .int .i64 tt]] w fun e w' => e = .returned (.int .i64 (checkF (rightT tc ts tl tt) tc lo st)) ∧ Fr nob w w' := by
  have hf0 := (Fr.refl nob w).alloc (.cells #[.int .i64 tc, .int .i64 ts, .int .i64 tl, .int .i64 tt] 63)
  have hfr := ref31_frames A n c lo tc ts tl tt _ (h.nob hf0) hn
  unfold frPost at hfr
  obtain ⟨v, hv⟩ : ∃ v, v = checkF (rightT tc ts tl tt) tc lo st := ⟨_, rfl⟩
  rw [← hv]
  have HV := Lib.hid hv
  have HFR := Lib.hid hfr
  have HF0 := Lib.hid hf0
  have H8 := Lib.hid h8
  clear h hfr hv hf0 h8
  go_enter Try.func37, Try.ntmps37
  go_wp2_with fail
  refine HFR.out.mono ?_
  rintro e w1 ⟨hf1, ⟨hr, rfl⟩ | ⟨hr, hfn, rfl⟩ | ⟨hr, fs, ats, ov, A2, c2, hfs, rfl, hcr, hown⟩⟩
  · have HV2 := Lib.hid (show v = 11 by rw [HV.out, checkF, if_pos hr])
    have HF1 := Lib.hid (HF0.out.trans hf1 (fun _ _ h => h))
    clear HFR HV hf1
    go_wp2_with fail
    go_ret
    exact ⟨by rw [HV2.out]; rfl, HF1.out⟩
  · have HV2 := Lib.hid (show v = 14 by rw [HV.out, checkF, if_neg (by rw [hr]; simp), hfn])
    have HF1 := Lib.hid (HF0.out.trans hf1 (fun _ _ h => h))
    clear HFR HV hf1
    go_wp2_with fail
    go_ret
    exact ⟨by rw [HV2.out]; rfl, HF1.out⟩
  · have HV2 := Lib.hid (show v = if st < 1 ∨ 247 < st then 11 else chkS st fs by rw [HV.out, checkF, if_neg (by rw [hr]; simp), hfs])
    have HF1 := Lib.hid (HF0.out.trans hf1 (fun _ _ h => h))
    obtain ⟨Ao, oc, rfl⟩ := hcr.form
    have HCR := Lib.hid hcr
    have HB := Lib.hid (framesF_bytes hfs (fun x => 0 ≤ x ∧ x ≤ 255) H8.out)
    have hfl : fs.length ≤ 9223372036854775807 := by
      obtain ⟨vs, _, h2, _⟩ := hcr
      exact own_max h2
    obtain ⟨m, hm⟩ : ∃ m, m = fs.length := ⟨_, rfl⟩
    have HM := Lib.hid hm
    rw [← hm] at hfl
    rw [← hm]
    clear HFR HV hf1 hcr hown hfs hr hm
    by_cases hst : st < 1 ∨ 247 < st
    · have HV3 := Lib.hid (show v = 11 by rw [HV2.out, if_pos hst])
      have hst2 : decide (st < 1) = true ∨ (decide (st < 1) = false ∧ decide (247 < st) = true) := by
        by_cases h1 : st < 1
        · exact .inl (decide_eq_true h1)
        · exact .inr ⟨decide_eq_false h1, decide_eq_true (by omega)⟩
      clear hst
      rcases hst2 with h1 | ⟨h1, h2⟩
      all_goals
        go_wp2_with fail
        go_ret
        exact ⟨by rw [HV3.out]; rfl, HF1.out⟩
    · have HV3 := Lib.hid (show v = chkS st fs by rw [HV2.out, if_neg hst])
      have h1 : decide (st < 1) = false := decide_eq_false (by omega)
      have h2 : decide (247 < st) = false := decide_eq_false (by omega)
      clear hst HV2
      go_wp2_with fail
      go_loopw [10] (fun iv wr => ∃ k : Nat, iv = .int .i64 k ∧ k ≤ m ∧ Hid (v = chkS st (fs.drop k)) ∧ Hid (Fr nob w1 wr)) (fun iv _ => m - (intOf iv).toNat)
      case atStart => exact ⟨0, rfl, by omega, HV3, Lib.hid (Fr.refl _ _)⟩
      case round =>
        obtain ⟨k, rfl, hk, hvk, hf⟩ := hrel
        by_cases hlt : k < m
        · have hcrk := HCR.out.nob hf.out
          obtain ⟨g, o, f, rfl, hg, hfk, Ai, ni, ci, hc, hni, hci, hrd⟩ := hcrk.at_ (k := k) (by rw [← HM.out]; exact hlt)
          have hi0 : (0 : Int) ≤ (k : Int) ∧ (k : Int) < (m : Int) := ⟨by omega, by omega⟩
          have hop := Lib.hid (ref11_open Ai ni ci f wr hrd (HB.out f (List.mem_of_getElem? hfk)) hni hci)
          have hd : fs.drop k = f :: fs.drop (k + 1) := by
            obtain ⟨h1, h2⟩ := List.getElem?_eq_some_iff.1 hfk
            rw [List.drop_eq_getElem_cons h1, h2]
          have HVK := Lib.hid (show v = if openE f ≠ 0 then openE f else if openO f ≠ st then 15 else chkS st (fs.drop (k + 1)) by rw [hvk.out, hd, chkS])
          have hoc := openE_cases f
          obtain ⟨oe, hoe⟩ : ∃ x, x = openE f := ⟨_, rfl⟩
          obtain ⟨oo, hoo⟩ : ∃ x, x = openO f := ⟨_, rfl⟩
          rw [← hoe, ← hoo] at hop HVK
          rw [← hoe] at hoc
          clear hcrk hfk hrd hd hvk hoe hoo
          go_wp2_with fail
          refine hop.out.mono ?_
          rintro e w3 ⟨x3, rfl, hf3⟩
          have HF3 := Lib.hid (hf.out.trans hf3 (fun _ _ h => h))
          clear hop hf3
          rcases hoc with rfl | rfl | rfl | rfl
          · by_cases hos : oo = st
            · have e1 : (oo == st) = true := beq_iff_eq.2 hos
              have HVN := Lib.hid (show v = chkS st (fs.drop (k + 1)) by rw [HVK.out, if_neg (by simp), if_neg (by simp [hos])])
              clear hos HVK
              go_wp2_with fail
              go_roundw
              case rel => exact ⟨k + 1, by go_num, by omega, HVN, HF3⟩
              case measure => simp [intOf]; omega
            · have e1 : (oo == st) = false := beq_eq_false_iff_ne.2 hos
              have HVN := Lib.hid (show v = 15 by rw [HVK.out, if_neg (by simp), if_pos hos])
              clear hos HVK
              go_wp2_with fail
              go_ret
              exact ⟨by rw [HVN.out]; rfl, HF1.out.trans HF3.out (fun _ _ h => h)⟩
          all_goals
            go_wp2_with fail
            go_ret
            exact ⟨by rw [HVK.out, if_pos (by decide)]; rfl, HF1.out.trans HF3.out (fun _ _ h => h)⟩
        · obtain rfl : k = m := by omega
          have HVN := Lib.hid (show v = 0 by rw [hvk.out, List.drop_eq_nil_of_le (by rw [← HM.out]; exact Nat.le_refl _)]; rfl)
          go_wp2_with fail
          go_ret
          exact ⟨by rw [HVN.out]; rfl, HF1.out.trans hf.out (fun _ _ h => h)⟩
end Go.Proofs.Ytmpjdploacfmeaa
