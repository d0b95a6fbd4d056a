/- Contract of the document's Asked (bilgeref31). -/
import Derived.Test.YtmpjdploacfmeaaAud6
namespace Go.Proofs.Ytmpjdploacfmeaa
set_option linter.unusedSimpArgs false
set_option linter.unusedVariables false
open Go.RowKit

theorem ordH_range : ∀ (l : List Hd) (f : Int), 0 ≤ f → ordH f l = true → ∀ x ∈ l, 0 ≤ x.at_ ∧ x.at_ ≤ 1099511627776
  | [], _, _, _, x, hx => by cases hx
  | y :: r, f, hf, h, x, hx => by
    rw [ordH] at h
    simp at h
    rcases List.mem_cons.1 hx with rfl | hx
    · omega
    · exact ordH_range r y.at_ (by omega) h.2 x hx
theorem rightH_range {l : List Hd} (h : rightH 0 l = true) : ∀ x ∈ l, 0 ≤ x.at_ ∧ x.at_ ≤ 1099511627776 := by
  rw [rightH] at h
  simp at h
  exact ordH_range l 0 (by omega) h
def hits (tl tt a : Int) (h : Hd) : Bool := h.at_ + tl + tt == a
/-- Whether each frame answers a byte that came. -/
def askS (tl tt : Int) (l : List Hd) : List Int → Int
  | [] => 0
  | a :: r => if l.any (hits tl tt a) then askS tl tt l r else 18
def askF (right : Bool) (tc tl tt : Int) (lo : List (Int × Int)) (l : List Hd) (st : Int) : Int :=
  if checkF right tc lo st ≠ 0 then checkF right tc lo st else if rightH 0 l = false then 11 else match framesF tc lo with
  | none => 0
  | some (_, ats) => askS tl tt l ats
theorem checkF_zero {right : Bool} {tc : Int} {lo : List (Int × Int)} {st : Int} (h : checkF right tc lo st = 0) : right = true ∧ ∃ fs ats, framesF tc lo = some (fs, ats) := by
  rw [checkF] at h
  split at h
  · cases h
  · rename_i hr
    split at h
    · cases h
    · rename_i fs ats he
      exact ⟨by simpa using hr, fs, ats, he⟩
theorem any_take {l : List Hd} {k : Nat} {x : Hd} (hx : l[k]? = some x) (p : Hd → Bool) : (l.take (k + 1)).any p = ((l.take k).any p || p x) := by
  rw [List.take_add_one, hx, List.any_append]
  simp

set_option maxHeartbeats 4000000 in
set_option maxRecDepth 100000 in
theorem ref31_asked (A : Option Addr) (n c : Nat) (lo : List (Int × Int)) (H : Option Addr) (nh ch : Nat) (lh : List Hd) (st tc ts tl tt : Int) (w : World) (h : Rd w 2 A n (lo.flatMap outc)) (h8 : ∀ y ∈ lo, 0 ≤ y.2 ∧ y.2 ≤ 255) (hn : n ≤ 400) (hh : Rd w 3 H nh (lh.flatMap hdc)) (hnh : nh ≤ 400) :
    Calls Try.prog 39 #[.slice A n c, .slice H nh ch, .int .i64 st, .agg #[.int .i64 tc, .int .i64 ts, .int .i64 tl, .int .i64 tt]] w fun e w' => e = .returned (.int .i64 (askF (rightT tc ts tl tt) tc tl tt lo lh st)) ∧ Fr nob w w' := by
  have hb0 := Blk.new w 63 #[.int .i64 tc, .int .i64 ts, .int .i64 tl, .int .i64 tt]
  have hf0 := (Fr.refl nob w).alloc (.cells #[.int .i64 tc, .int .i64 ts, .int .i64 tl, .int .i64 tt] 63)
  have hck := Lib.hid (ref31_check A n c lo st tc ts tl tt _ (h.nob hf0) h8 hn)
  have hrg := Lib.hid (fun V (hV : Fr nob w V) => ref09_right H nh ch lh 0 V (hh.nob hV) (by omega) (by omega))
  have hfr := fun V (hV : Fr nob w V) => ref31_frames A n c lo tc ts tl tt V (h.nob hV) hn
  have HFR := Lib.hid hfr
  obtain ⟨v, hv⟩ : ∃ v, v = askF (rightT tc ts tl tt) tc tl tt lo lh st := ⟨_, rfl⟩
  rw [← hv]
  have HV := Lib.hid hv
  have HF0 := Lib.hid hf0
  have HB0 := Lib.hid hb0
  have HH := Lib.hid hh
  have hlh : lh.length = nh := by
    have := hh.1
    rw [flat_len hdc 3 lh hdc_len] at this
    omega
  have HLH := Lib.hid hlh
  obtain ⟨ck, hck2⟩ : ∃ x, x = checkF (rightT tc ts tl tt) tc lo st := ⟨_, rfl⟩
  rw [← hck2] at hck
  have HCK := Lib.hid hck2
  clear h hfr hv hf0 h8 hb0 hh hck2 hlh
  go_enter Try.func39, Try.ntmps39
  go_wp2_with fail
  refine hck.out.mono ?_
  rintro e w1 ⟨rfl, hf1⟩
  have HF1 := Lib.hid (HF0.out.trans hf1 (fun _ _ h => h))
  have HB1 := Lib.hid (HB0.out.fr hf1 (fun h => h))
  clear hf1 hck
  by_cases hz : ck = 0
  · have hz1 : (ck == 0) = true := beq_iff_eq.2 hz
    obtain ⟨hrt, fs, ats, hfs⟩ := checkF_zero (HCK.out.symm.trans hz)
    have hbt := of_decide_eq_true hrt
    have HRT := Lib.hid hrt
    have HFS := Lib.hid hfs
    have hrg1 := hrg.out w1 HF1.out
    obtain ⟨rr, hrr⟩ : ∃ r, r = rightH 0 lh := ⟨_, rfl⟩
    have HRR := Lib.hid hrr
    rw [← hrr] at hrg1
    have HRG := Lib.hid hrg1
    have HV2 := Lib.hid (show v = if rightH 0 lh = false then 11 else askS tl tt lh ats by rw [HV.out, askF, if_neg (by rw [← HCK.out, hz]; simp), hfs])
    have hbt2 : 0 ≤ tl ∧ tl ≤ 16777216 ∧ 0 ≤ tt ∧ tt ≤ 16777216 := by omega
    clear hrt hfs hrg1 hrr HV HCK hbt
    subst hz
    go_wp2_with fail
    refine HRG.out.mono ?_
    rintro e w2 ⟨rfl, rfl⟩
    cases rr with
    | false =>
      have HV3 := Lib.hid (show v = 11 by rw [HV2.out, if_pos HRR.out.symm])
      go_wp2_with fail
      go_ret
      exact ⟨by rw [HV3.out]; rfl, HF1.out⟩
    | true =>
      have HV3 := Lib.hid (show v = askS tl tt lh ats by rw [HV2.out, if_neg (by rw [← HRR.out]; simp)])
      have HRNG := Lib.hid (rightH_range HRR.out.symm)
      have hfr1 := HFR.out w1 HF1.out
      unfold frPost at hfr1
      have HFR1 := Lib.hid hfr1
      have q1 := HB1.out.cell
      clear HV2 HRR hfr1 HRG
      go_wp2_with fail
      refine HFR1.out.mono ?_
      clear q1
      rintro e w3 ⟨hf3, ⟨hr, rfl⟩ | ⟨hr, hfn, rfl⟩ | ⟨hr, fs', ats', ov, A2, c2, hfs', rfl, hcr, hown⟩⟩
      · rw [HRT.out] at hr; cases hr
      · rw [HFS.out] at hfn; cases hfn
      · rw [HFS.out] at hfs'
        cases hfs'
        have HF3 := Lib.hid (HF1.out.trans hf3 (fun _ _ h => h))
        have HB3 := Lib.hid (HB1.out.fr hf3 (fun h => h))
        have HO3 := Lib.hid hown
        obtain ⟨m, hm⟩ : ∃ m, m = ats.length := ⟨_, rfl⟩
        have hml : m ≤ 9223372036854775807 := by rw [hm]; exact own_max hown
        have HM := Lib.hid hm
        rw [← hm] at HO3 ⊢
        clear hf3 hr hcr hown hm HFR1
        go_wp2_with fail
        go_loopw [13] (fun iv wr => ∃ k : Nat, iv = .int .i64 k ∧ k ≤ m ∧ Hid (v = askS tl tt lh (ats.drop k)) ∧ Hid (Fr nob w3 wr)) (fun iv _ => m - (intOf iv).toNat)
        case atStart => exact ⟨0, rfl, by omega, HV3, Lib.hid (Fr.refl _ _)⟩
        case round =>
          obtain ⟨k, rfl, hk, hvk, hf⟩ := hrel
          by_cases hlt : k < m
          · have hi0 : (0 : Int) ≤ (k : Int) ∧ (k : Int) < (m : Int) := ⟨by omega, by omega⟩
            obtain ⟨g, o, rfl, hg, hc⟩ := (Rd.of_own HO3.out).num (i := k) hlt
            have hka : ats[k]? = some (ats.getD k 0) := by
              rw [List.getD_eq_getElem?_getD, List.getElem?_eq_getElem (by rw [← HM.out]; exact hlt)]
              rfl
            obtain ⟨a, ha⟩ : ∃ a, a = ats.getD k 0 := ⟨_, rfl⟩
            rw [← ha] at hc hka
            have hd : ats.drop k = a :: ats.drop (k + 1) := by
              obtain ⟨h1, h2⟩ := List.getElem?_eq_some_iff.1 hka
              rw [List.drop_eq_getElem_cons h1, h2]
            have HVK := Lib.hid (show v = if lh.any (hits tl tt a) then askS tl tt lh (ats.drop (k + 1)) else 18 by rw [hvk.out, hd, askS])
            clear hka hd ha hvk
            go_wp2_with fail
            go_loopw [14, 15] (fun bv jv wq => ∃ (j : Nat) (p : Bool), jv = .int .i64 j ∧ j ≤ nh ∧ bv = .bool p ∧ Hid (p = (lh.take j).any (hits tl tt a)) ∧ Hid (Fr nob w3 wq)) (fun _ jv _ => nh - (intOf jv).toNat)
            case atStart => exact ⟨0, false, rfl, by omega, rfl, Lib.hid rfl, hf⟩
            case round =>
              clear hf
              obtain ⟨j, p, rfl, hj, rfl, hp, hf⟩ := hrel
              by_cases hjl : j < nh
              · obtain ⟨b, o2, x, rfl, hb, hx, hd0, _, _⟩ := hd_at HH.out hjl
                have hj0 : (0 : Int) ≤ (j : Int) ∧ (j : Int) < (nh : Int) := ⟨by omega, by omega⟩
                have hxr := HRNG.out x (List.mem_of_getElem? hx)
                have HPN := Lib.hid (show (lh.take (j + 1)).any (hits tl tt a) = (p || (x.at_ + tl + tt == a)) by rw [any_take hx, ← hp.out]; rfl)
                obtain ⟨xa, hxa⟩ : ∃ y, y = x.at_ := ⟨_, rfl⟩
                rw [← hxa] at hd0 hxr HPN
                have hcl : ∀ V, Fr nob w3 V → V.cell? ⟨w.heap.size, 2, none⟩ = some (.int .i64 tl) ∧ V.cell? ⟨w.heap.size, 3, none⟩ = some (.int .i64 tt) ∧ V.cell? ⟨b, o2 + j * 3, none⟩ = some (.int .i64 xa) ∧ V.cell? ⟨g, o + k, none⟩ = some (.int .i64 a) := fun V hV =>
                  ⟨((HB3.out.fr hV (fun h => h)).cell 2).trans rfl, ((HB3.out.fr hV (fun h => h)).cell 3).trans rfl, ((HF3.out.trans hV (fun _ _ h => h)).cell (p := ⟨b, _, none⟩) hb (fun h => h)).trans hd0, (hV.cell (p := ⟨g, _, none⟩) hg (fun h => h)).trans hc⟩
                have HCL := Lib.hid hcl
                have w1' : IntKind.i64.wrap (xa + tl) = xa + tl := IntWalk.i64_in _ (by omega)
                have w2' : IntKind.i64.wrap (xa + tl + tt) = xa + tl + tt := IntWalk.i64_in _ (by omega)
                clear hx hxa hcl hd0 hp
                cases p
                all_goals
                  go_wp2_with fail
                  refine wp_region_held_drew (S := fun w' => w'.cell? ⟨w.heap.size, 2, none⟩ = some (.int .i64 tl) ∧ w'.cell? ⟨w.heap.size, 3, none⟩ = some (.int .i64 tt) ∧ w'.cell? ⟨b, o2 + j * 3, none⟩ = some (.int .i64 xa) ∧ w'.cell? ⟨g, o + k, none⟩ = some (.int .i64 a)) (by kernel_rfl) (HCL.out _ hf.out.drew) (fun hHeld => ?_)
                  first
                    | (refine mix_skip 0 rfl (by kernel_rfl) (by kernel_rfl) (by kernel_rfl) (by rfl) (by assumption) (fun _ _ _ h => h) ?_)
                    | (refine mix_pure 0 (v := ?_) rfl (by kernel_rfl) (by kernel_rfl) (by kernel_rfl) (by rfl) (by assumption) (fun _ _ _ h => h) ?_ ?_; rotate_left; · (intro wS hSw; (try dsimp only at hSw); go_simp; try with_reducible rfl))
                  simp only [Act.put, List.setIfInBounds_toArray, List.set_cons_zero, List.set_cons_succ]
                  first
                    | (refine mix_skip 1 rfl (by kernel_rfl) (by kernel_rfl) (by kernel_rfl) (by rfl) (by assumption) (fun _ _ _ h => h) ?_)
                    | (refine mix_pure 1 (v := ?_) rfl (by kernel_rfl) (by kernel_rfl) (by kernel_rfl) (by rfl) (by assumption) (fun _ _ _ h => h) ?_ ?_; rotate_left; · (intro wS hSw; (try dsimp only at hSw); go_simp; try with_reducible rfl))
                  simp only [Act.put, List.setIfInBounds_toArray, List.set_cons_zero, List.set_cons_succ]
                  first
                    | (refine mix_skip 2 rfl (by kernel_rfl) (by kernel_rfl) (by kernel_rfl) (by rfl) (by assumption) (fun _ _ _ h => h) ?_)
                    | (refine mix_pure 2 (v := ?_) rfl (by kernel_rfl) (by kernel_rfl) (by kernel_rfl) (by rfl) (by assumption) (fun _ _ _ h => h) ?_ ?_; rotate_left; · (intro wS hSw; (try dsimp only at hSw); go_simp; try with_reducible rfl))
                  simp only [Act.put, List.setIfInBounds_toArray, List.set_cons_zero, List.set_cons_succ]
                  first
                    | (refine mix_skip 3 rfl (by kernel_rfl) (by kernel_rfl) (by kernel_rfl) (by rfl) (by assumption) (fun _ _ _ h => h) ?_)
                    | (refine mix_pure 3 (v := ?_) rfl (by kernel_rfl) (by kernel_rfl) (by kernel_rfl) (by rfl) (by assumption) (fun _ _ _ h => h) ?_ ?_; rotate_left; · (intro wS hSw; (try dsimp only at hSw); go_simp; try with_reducible rfl))
                  simp only [Act.put, List.setIfInBounds_toArray, List.set_cons_zero, List.set_cons_succ]
                  first
                    | (refine mix_skip 4 rfl (by kernel_rfl) (by kernel_rfl) (by kernel_rfl) (by rfl) (by assumption) (fun _ _ _ h => h) ?_)
                    | (refine mix_pure 4 (v := ?_) rfl (by kernel_rfl) (by kernel_rfl) (by kernel_rfl) (by rfl) (by assumption) (fun _ _ _ h => h) ?_ ?_; rotate_left; · (intro wS hSw; (try dsimp only at hSw); go_simp; try with_reducible rfl))
                  simp only [Act.put, List.setIfInBounds_toArray, List.set_cons_zero, List.set_cons_succ]
                  first
                    | (refine mix_skip 5 rfl (by kernel_rfl) (by kernel_rfl) (by kernel_rfl) (by rfl) (by assumption) (fun _ _ _ h => h) ?_)
                    | (refine mix_pure 5 (v := ?_) rfl (by kernel_rfl) (by kernel_rfl) (by kernel_rfl) (by rfl) (by assumption) (fun _ _ _ h => h) ?_ ?_; rotate_left; · (intro wS hSw; (try dsimp only at hSw); go_simp; try with_reducible rfl))
                  simp only [Act.put, List.setIfInBounds_toArray, List.set_cons_zero, List.set_cons_succ]
                  first
                    | (refine mix_skip 6 rfl (by kernel_rfl) (by kernel_rfl) (by kernel_rfl) (by rfl) (by assumption) (fun _ _ _ h => h) ?_)
                    | (refine mix_pure 6 (v := ?_) rfl (by kernel_rfl) (by kernel_rfl) (by kernel_rfl) (by rfl) (by assumption) (fun _ _ _ h => h) ?_ ?_; rotate_left; · (intro wS hSw; (try dsimp only at hSw); go_simp; try with_reducible rfl))
                  simp only [Act.put, List.setIfInBounds_toArray, List.set_cons_zero, List.set_cons_succ]
                  first
                    | (refine mix_skip 7 rfl (by kernel_rfl) (by kernel_rfl) (by kernel_rfl) (by rfl) (by assumption) (fun _ _ _ h => h) ?_)
                    | (refine mix_pure 7 (v := ?_) rfl (by kernel_rfl) (by kernel_rfl) (by kernel_rfl) (by rfl) (by assumption) (fun _ _ _ h => h) ?_ ?_; rotate_left; · (intro wS hSw; (try dsimp only at hSw); go_simp; try with_reducible rfl))
                  simp only [Act.put, List.setIfInBounds_toArray, List.set_cons_zero, List.set_cons_succ]
                  first
                    | (refine mix_skip 8 rfl (by kernel_rfl) (by kernel_rfl) (by kernel_rfl) (by rfl) (by assumption) (fun _ _ _ h => h) ?_)
                    | (refine mix_pure 8 (v := ?_) rfl (by kernel_rfl) (by kernel_rfl) (by kernel_rfl) (by rfl) (by assumption) (fun _ _ _ h => h) ?_ ?_; rotate_left; · (intro wS hSw; (try dsimp only at hSw); go_simp; try with_reducible rfl))
                  simp only [Act.put, List.setIfInBounds_toArray, List.set_cons_zero, List.set_cons_succ]
                  first
                    | (refine mix_skip 9 rfl (by kernel_rfl) (by kernel_rfl) (by kernel_rfl) (by rfl) (by assumption) (fun _ _ _ h => h) ?_)
                    | (refine mix_pure 9 (v := ?_) rfl (by kernel_rfl) (by kernel_rfl) (by kernel_rfl) (by rfl) (by assumption) (fun _ _ _ h => h) ?_ ?_; rotate_left; · (intro wS hSw; (try dsimp only at hSw); go_simp; try with_reducible rfl))
                  simp only [Act.put, List.setIfInBounds_toArray, List.set_cons_zero, List.set_cons_succ]
                  first
                    | (refine mix_skip 10 rfl (by kernel_rfl) (by kernel_rfl) (by kernel_rfl) (by rfl) (by assumption) (fun _ _ _ h => h) ?_)
                    | (refine mix_pure 10 (v := ?_) rfl (by kernel_rfl) (by kernel_rfl) (by kernel_rfl) (by rfl) (by assumption) (fun _ _ _ h => h) ?_ ?_; rotate_left; · (intro wS hSw; (try dsimp only at hSw); go_simp; try with_reducible rfl))
                  simp only [Act.put, List.setIfInBounds_toArray, List.set_cons_zero, List.set_cons_succ]
                  first
                    | (refine mix_skip 11 rfl (by kernel_rfl) (by kernel_rfl) (by kernel_rfl) (by rfl) (by assumption) (fun _ _ _ h => h) ?_)
                    | (refine mix_pure 11 (v := ?_) rfl (by kernel_rfl) (by kernel_rfl) (by kernel_rfl) (by rfl) (by assumption) (fun _ _ _ h => h) ?_ ?_; rotate_left; · (intro wS hSw; (try dsimp only at hSw); go_simp; try with_reducible rfl))
                  simp only [Act.put, List.setIfInBounds_toArray, List.set_cons_zero, List.set_cons_succ]
                  first
                    | (refine mix_skip 12 rfl (by kernel_rfl) (by kernel_rfl) (by kernel_rfl) (by rfl) (by assumption) (fun _ _ _ h => h) ?_)
                    | (refine mix_pure 12 (v := ?_) rfl (by kernel_rfl) (by kernel_rfl) (by kernel_rfl) (by rfl) (by assumption) (fun _ _ _ h => h) ?_ ?_; rotate_left; · (intro wS hSw; (try dsimp only at hSw); go_simp; try with_reducible rfl))
                  simp only [Act.put, List.setIfInBounds_toArray, List.set_cons_zero, List.set_cons_succ]
                  first
                    | (refine mix_skip 13 rfl (by kernel_rfl) (by kernel_rfl) (by kernel_rfl) (by rfl) (by assumption) (fun _ _ _ h => h) ?_)
                    | (refine mix_pure 13 (v := ?_) rfl (by kernel_rfl) (by kernel_rfl) (by kernel_rfl) (by rfl) (by assumption) (fun _ _ _ h => h) ?_ ?_; rotate_left; · (intro wS hSw; (try dsimp only at hSw); go_simp; try with_reducible rfl))
                  simp only [Act.put, List.setIfInBounds_toArray, List.set_cons_zero, List.set_cons_succ]
                  first
                    | (refine mix_skip 14 rfl (by kernel_rfl) (by kernel_rfl) (by kernel_rfl) (by rfl) (by assumption) (fun _ _ _ h => h) ?_)
                    | (refine mix_pure 14 (v := ?_) rfl (by kernel_rfl) (by kernel_rfl) (by kernel_rfl) (by rfl) (by assumption) (fun _ _ _ h => h) ?_ ?_; rotate_left; · (intro wS hSw; (try dsimp only at hSw); go_simp; try with_reducible rfl))
                  simp only [Act.put, List.setIfInBounds_toArray, List.set_cons_zero, List.set_cons_succ]
                  first
                    | (refine mix_skip 15 rfl (by kernel_rfl) (by kernel_rfl) (by kernel_rfl) (by rfl) (by assumption) (fun _ _ _ h => h) ?_)
                    | (refine mix_pure 15 (v := ?_) rfl (by kernel_rfl) (by kernel_rfl) (by kernel_rfl) (by rfl) (by assumption) (fun _ _ _ h => h) ?_ ?_; rotate_left; · (intro wS hSw; (try dsimp only at hSw); go_simp; try with_reducible rfl))
                  simp only [Act.put, List.setIfInBounds_toArray, List.set_cons_zero, List.set_cons_succ]
                  first
                    | (refine mix_skip 16 rfl (by kernel_rfl) (by kernel_rfl) (by kernel_rfl) (by rfl) (by assumption) (fun _ _ _ h => h) ?_)
                    | (refine mix_pure 16 (v := ?_) rfl (by kernel_rfl) (by kernel_rfl) (by kernel_rfl) (by rfl) (by assumption) (fun _ _ _ h => h) ?_ ?_; rotate_left; · (intro wS hSw; (try dsimp only at hSw); go_simp; try with_reducible rfl))
                  simp only [Act.put, List.setIfInBounds_toArray, List.set_cons_zero, List.set_cons_succ]
                  first
                    | (refine mix_skip 17 rfl (by kernel_rfl) (by kernel_rfl) (by kernel_rfl) (by rfl) (by assumption) (fun _ _ _ h => h) ?_)
                    | (refine mix_pure 17 (v := ?_) rfl (by kernel_rfl) (by kernel_rfl) (by kernel_rfl) (by rfl) (by assumption) (fun _ _ _ h => h) ?_ ?_; rotate_left; · (intro wS hSw; (try dsimp only at hSw); go_simp; try with_reducible rfl))
                  simp only [Act.put, List.setIfInBounds_toArray, List.set_cons_zero, List.set_cons_succ]
                  first
                    | (refine mix_skip 18 rfl (by kernel_rfl) (by kernel_rfl) (by kernel_rfl) (by rfl) (by assumption) (fun _ _ _ h => h) ?_)
                    | (refine mix_pure 18 (v := ?_) rfl (by kernel_rfl) (by kernel_rfl) (by kernel_rfl) (by rfl) (by assumption) (fun _ _ _ h => h) ?_ ?_; rotate_left; · (intro wS hSw; (try dsimp only at hSw); go_simp; try with_reducible rfl))
                  simp only [Act.put, List.setIfInBounds_toArray, List.set_cons_zero, List.set_cons_succ]
                  first
                    | (refine mix_skip 19 rfl (by kernel_rfl) (by kernel_rfl) (by kernel_rfl) (by rfl) (by assumption) (fun _ _ _ h => h) ?_)
                    | (refine mix_pure 19 (v := ?_) rfl (by kernel_rfl) (by kernel_rfl) (by kernel_rfl) (by rfl) (by assumption) (fun _ _ _ h => h) ?_ ?_; rotate_left; · (intro wS hSw; (try dsimp only at hSw); go_simp; try with_reducible rfl))
                  simp only [Act.put, List.setIfInBounds_toArray, List.set_cons_zero, List.set_cons_succ]
                  refine wpAnyH_done (by kernel_rfl) ?_ _
                  go_wp2_with fail
                  go_roundw
                  case rel => exact ⟨j + 1, _, by go_num, by omega, rfl, Lib.hid (by rw [HPN.out]; rfl), Lib.hid hf.out.drew⟩
                  case measure => simp [intOf]; omega
              · obtain rfl : j = nh := by omega
                have hpa : p = lh.any (hits tl tt a) := by rw [hp.out, List.take_of_length_le (by rw [HLH.out]; omega)]
                rw [← hpa] at HVK
                clear hpa hp
                cases p with
                | true =>
                  have HVN := Lib.hid (show v = askS tl tt lh (ats.drop (k + 1)) by rw [HVK.out, if_pos rfl])
                  go_wp2_with fail
                  go_roundw
                  case rel => exact ⟨k + 1, by go_num, by omega, HVN, hf⟩
                  case measure => simp [intOf]; omega
                | false =>
                  have HVN := Lib.hid (show v = 18 by rw [HVK.out, if_neg (by simp)])
                  go_wp2_with fail
                  go_ret
                  exact ⟨by rw [HVN.out]; rfl, HF3.out.trans hf.out (fun _ _ h => h)⟩
          · obtain rfl : k = m := by omega
            have HVN := Lib.hid (show v = 0 by rw [hvk.out, List.drop_eq_nil_of_le (by rw [← HM.out]; exact Nat.le_refl _)]; rfl)
            go_wp2_with fail
            go_ret
            exact ⟨by rw [HVN.out]; rfl, HF3.out.trans hf.out (fun _ _ h => h)⟩
  · have hz1 : (ck == 0) = false := beq_eq_false_iff_ne.2 hz
    have HVN := Lib.hid (show v = ck by rw [HV.out, askF, ← HCK.out, if_pos hz])
    clear hz HV HCK
    go_wp2_with fail
    go_ret
    exact ⟨by rw [HVN.out]; rfl, HF1.out⟩
end Go.Proofs.Ytmpjdploacfmeaa
