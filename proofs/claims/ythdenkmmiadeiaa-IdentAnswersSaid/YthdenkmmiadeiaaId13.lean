/- Contracts of the document's Right and Level (bilgeref20). -/
import Derived.Test.YthdenkmmiadeiaaObj5
import Derived.Test.YthdenkmmiadeiaaMix
namespace Go.Proofs.Ythdenkmmiadeiaa
set_option linter.unusedSimpArgs false
set_option linter.unusedVariables false
open Go.RowKit

/-- What the document's loop looks for: badOb without the first three ids. -/
def badR (last : Int) (x : Int × List Int) : Bool :=
  decide (x.1 ≤ last) || decide (256 ≤ x.1) || (decide (7 ≤ x.1) && decide (x.1 < 128)) || decide (240 < x.2.length)
theorem badR_iff {last : Int} {x : Int × List Int} : badR last x = true ↔ x.1 ≤ last ∨ 256 ≤ x.1 ∨ (7 ≤ x.1 ∧ x.1 < 128) ∨ 240 < x.2.length := by
  simp only [badR, Bool.or_eq_true, Bool.and_eq_true, decide_eq_true_eq, or_assoc]
theorem badOb_R (last : Int) (i : Nat) (x : Int × List Int) : badOb last i x = (badR last x || (decide (i < 3) && decide (x.1 ≠ (i : Int)))) := rfl
/-- The whole test, when no object is bad. -/
theorem rightS_R {L : List Ob} (hb : ∀ (j : Nat) (y : Ob), j < L.length → L[j]? = some y → badR (lastId (-1) L j) y.s = false) :
    rightS (L.map Ob.s) = true ↔ 3 ≤ L.length ∧ ∀ (j : Nat) (y : Ob), j < 3 → L[j]? = some y → y.id = (j : Int) := by
  constructor
  · intro h
    have h3 : 3 ≤ L.length := by
      simp only [rightS, Bool.and_eq_true, decide_eq_true_eq, List.length_map] at h
      exact h.2
    refine ⟨h3, ?_⟩
    intro j
    induction j using Nat.strongRecOn with
    | _ j ih =>
      intro y hj hy
      refine Decidable.byContradiction fun hne => ?_
      have hbad : badOb (lastId (-1) L j) j y.s = true := by
        rw [badOb_R, decide_eq_true hj, decide_eq_true (p := y.s.1 ≠ (j : Int)) hne]
        simp
      have := right_bad hy rfl (fun i z hi hz => by
        rw [badOb_R, hb i z (by omega) hz, Nat.zero_add, decide_eq_false (p := z.s.1 ≠ (i : Int)) (fun hc => hc (ih i hi z (by omega) hz))]
        simp) hbad
      rw [this] at h
      cases h
  · rintro ⟨h3, h⟩
    rw [rightS, rightFrom_all (-1) 0 L (fun j y hj hy => by
      rw [badOb_R, hb j y hj hy, Nat.zero_add]
      by_cases hj3 : j < 3
      · rw [decide_eq_false (p := y.s.1 ≠ (j : Int)) (fun hc => hc (h j y hj3 hy))]
        simp
      · rw [decide_eq_false hj3]
        rfl), List.length_map, decide_eq_true h3]
    rfl


/-- One bad object is enough. -/
theorem rightS_bad {L : List Ob} {k : Nat} {x : Ob} (hx : L[k]? = some x) (hb : badR (lastId (-1) L k) x.s = true) : rightS (L.map Ob.s) = false := by
  refine Bool.eq_false_iff.2 fun h => ?_
  have hall : ∀ (j : Nat) (y : Ob), L[j]? = some y → badOb (lastId (-1) L j) j y.s = false := by
    intro j
    induction j using Nat.strongRecOn with
    | _ j ih =>
      intro y hy
      refine Bool.eq_false_iff.2 fun hbad => ?_
      rw [right_bad hy rfl (fun i z hi hz => by rw [Nat.zero_add]; exact ih i hi z hz) hbad] at h
      cases h
  have := hall k x hx
  rw [badOb_R, hb] at this
  cases this

theorem last_ge {L : List Ob} : ∀ (k : Nat), (∀ (j : Nat) (y : Ob), j < k → L[j]? = some y → badR (lastId (-1) L j) y.s = false) → -1 ≤ lastId (-1) L k := by
  intro k
  induction k with
  | zero => intro _; simp [lastId]
  | succ k ih =>
    intro h
    have h1 := ih (fun j y hj hy => h j y (by omega) hy)
    rw [lastId]
    cases hx : L[k]? with
    | none => simp
    | some x =>
      have h2 := h k x (by omega) hx
      have h3 : ¬ (badR (lastId (-1) L k) x.s = true) := by rw [h2]; simp
      rw [badR_iff] at h3
      simp only [Ob.s] at h3
      show -1 ≤ x.id
      omega
set_option maxHeartbeats 2000000 in
set_option maxRecDepth 100000 in
theorem ref20_right (A : Option Addr) (n c : Nat) (L : List Ob) (w : World) (h : Obs w A n L) (hn : n ≤ c) (hc : c ≤ 9223372036854775807) :
    Calls Try.prog 58 #[.slice A n c] w fun e w' => e = .returned (.bool (rightS (L.map Ob.s))) ∧ Fr nob w w' := by
  have hl := h.len
  have HLN := Lib.hid hl
  clear hl
  go_enter Try.func58, Try.ntmps58
  go_wp2_with fail
  go_loopw [3] (fun i wr => ∃ k : Nat, k ≤ n ∧ i = .int .i64 k ∧ Fr nob w wr ∧ Hid (∀ (j : Nat) (y : Ob), j < k → L[j]? = some y → badR (lastId (-1) L j) y.s = false)) (fun i _ => n - (intOf i).toNat)
  case atStart => exact ⟨0, by omega, rfl, Fr.refl _ _, Lib.hid fun j y hj => absurd hj (by omega)⟩
  case round =>
    obtain ⟨k, hk, rfl, hf, hbad⟩ := hrel
    by_cases hlt : k < n
    · obtain ⟨b, o, x, rfl, hb, hx, hc0, hc1, hok⟩ := (h.nob hf).at_ hlt
      have hi0 : (0 : Int) ≤ (k : Int) ∧ (k : Int) < (n : Int) := ⟨by omega, by omega⟩
      have HXL := Lib.hid hok.len
      obtain ⟨xi, xA, xn, xc, xd⟩ := x
      dsimp only at hc0 hc1
      have HX := Lib.hid hx
      clear hx hok
      rcases k with _ | k
      · have hla : lastId (-1) L 0 = -1 := rfl
        rw [Nat.zero_mul, Nat.add_zero] at hc0 hc1
        have HLA := Lib.hid hla
        have hB : badR (-1) (xi, xd) = true → rightS (L.map Ob.s) = false := fun hh => rightS_bad HX.out (by rw [HLA.out]; exact hh)
        have HB := Lib.hid hB
        clear hB
        have hcase : xi < 0 ∨ (0 ≤ xi ∧ 255 < xi) ∨ ((0 ≤ xi ∧ xi ≤ 255) ∧ 6 < xi ∧ xi < 128) ∨ ((0 ≤ xi ∧ xi ≤ 255) ∧ xi ≤ 6) ∨ ((0 ≤ xi ∧ xi ≤ 255) ∧ 6 < xi ∧ 128 ≤ xi) := by omega
        rcases hcase with h1 | ⟨h1, h2⟩ | ⟨⟨h1, h2⟩, h3, h4⟩ | ⟨⟨h1, h2⟩, h3⟩ | ⟨⟨h1, h2⟩, h3, h4⟩
        rotate_left 3
        all_goals try rcases Nat.lt_or_ge 240 xn with h5 | h5
        all_goals
          go_wp2_with fail
          first
            | (go_ret
               exact ⟨congrArg (fun b => Ending.returned (Value.bool b)) (HB.out (badR_iff.2 (by have := HXL.out; dsimp only at this ⊢; omega))).symm, hf⟩)
            | (go_roundw
               case rel =>
                 refine ⟨0 + 1, by omega, by go_num, hf, Lib.hid fun j y hj hy => ?_⟩
                 rcases Nat.lt_or_ge j 0 with hjk | hjk
                 · exact hbad.out j y hjk hy
                 · obtain rfl : j = 0 := by omega
                   have e1 := hy.symm.trans HX.out
                   cases e1
                   rw [HLA.out]
                   refine Bool.eq_false_iff.2 fun hh => ?_
                   have h7 := badR_iff.1 hh
                   have := HXL.out
                   dsimp only [Ob.s] at this h7
                   omega
               case measure => simp [intOf]; omega)
      · obtain ⟨b', o', y, e0, hb', hy, hd0, hd1, hoky⟩ := (h.nob hf).at_ (k := k) (by omega)
        cases e0
        have hla : lastId (-1) L (k + 1) = y.id := by rw [lastId, hy]
        have hy0 : 0 ≤ y.id := by
          have h1 := last_ge k (fun j z hj hz => hbad.out j z (by omega) hz)
          have h2 := hbad.out k y (by omega) hy
          have h3 : ¬ (badR (lastId (-1) L k) y.s = true) := by rw [h2]; simp
          rw [badR_iff] at h3
          simp only [Ob.s] at h3
          omega
        have HLA := Lib.hid hla
        have hB : badR y.id (xi, xd) = true → rightS (L.map Ob.s) = false := fun hh => rightS_bad HX.out (by rw [HLA.out]; exact hh)
        have HB := Lib.hid hB
        clear hB hla hy hoky hd1
        obtain ⟨yi, yA, yn, yc, yd⟩ := y
        dsimp only at hd0 HB HLA hy0
        have hp0 : (0 : Int) < ((k + 1 : Nat) : Int) := by omega
        have hcase : xi < 0 ∨ (0 ≤ xi ∧ 255 < xi) ∨ ((0 ≤ xi ∧ xi ≤ 255) ∧ 6 < xi ∧ xi < 128) ∨ ((0 ≤ xi ∧ xi ≤ 255) ∧ xi ≤ 6) ∨ ((0 ≤ xi ∧ xi ≤ 255) ∧ 6 < xi ∧ 128 ≤ xi) := by omega
        rcases hcase with h1 | ⟨h1, h2⟩ | ⟨⟨h1, h2⟩, h3, h4⟩ | ⟨⟨h1, h2⟩, h3⟩ | ⟨⟨h1, h2⟩, h3, h4⟩
        rotate_left 3
        all_goals try rcases Nat.lt_or_ge 240 xn with h5 | h5
        all_goals
          go_wp2_with fail
        all_goals first
          | (go_ret
             exact ⟨congrArg (fun b => Ending.returned (Value.bool b)) (HB.out (badR_iff.2 (by have := HXL.out; dsimp only at this ⊢; omega))).symm, hf⟩)
          | (go_roundw
             case rel =>
               refine ⟨k + 1 + 1, by omega, by go_num, hf, Lib.hid fun j y hj hy => ?_⟩
               rcases Nat.lt_or_ge j (k + 1) with hjk | hjk
               · exact hbad.out j y hjk hy
               · obtain rfl : j = k + 1 := by omega
                 have e1 := hy.symm.trans HX.out
                 cases e1
                 rw [HLA.out]
                 refine Bool.eq_false_iff.2 fun hh => ?_
                 have h7 := badR_iff.1 hh
                 have := HXL.out
                 dsimp only [Ob.s] at this h7
                 omega
             case measure => simp [intOf]; omega)
    · obtain rfl : k = n := by omega
      have hR := rightS_R (L := L) (fun j y hj hy => hbad.out j y (by rw [← HLN.out]; exact hj) hy)
      have HR := Lib.hid hR
      clear hR hbad
      by_cases h3 : k < 3
      · have hs : rightS (L.map Ob.s) = false := Bool.eq_false_iff.2 fun hh => by have := (HR.out.1 hh).1; rw [HLN.out] at this; omega
        have HS := Lib.hid hs
        clear hs
        go_wp2_with fail
        go_ret
        exact ⟨by rw [HS.out]; rfl, hf⟩
      · obtain ⟨b, o, x0, rfl, hb, hx0, hc0, -, -⟩ := (h.nob hf).at_ (k := 0) (by omega)
        obtain ⟨b1, o1, x1, e1, -, hx1, hc1, -, -⟩ := (h.nob hf).at_ (k := 1) (by omega)
        cases e1
        obtain ⟨b2, o2, x2, e2, -, hx2, hc2, -, -⟩ := (h.nob hf).at_ (k := 2) (by omega)
        cases e2
        have hall : rightS (L.map Ob.s) = true ↔ (x0.id = 0 ∧ x1.id = 1 ∧ x2.id = 2) := by
          rw [HR.out]
          constructor
          · intro hh
            exact ⟨hh.2 0 _ (by omega) hx0, hh.2 1 _ (by omega) hx1, hh.2 2 _ (by omega) hx2⟩
          · rintro ⟨h0, h1, h2⟩
            refine ⟨by rw [HLN.out]; omega, fun j y hj hy => ?_⟩
            have hj3 : j = 0 ∨ j = 1 ∨ j = 2 := by omega
            rcases hj3 with rfl | rfl | rfl
            · rw [hx0] at hy; cases hy; exact h0
            · rw [hx1] at hy; cases hy; exact h1
            · rw [hx2] at hy; cases hy; exact h2
        obtain ⟨i0, _, _, _, _⟩ := x0
        obtain ⟨i1, _, _, _, _⟩ := x1
        obtain ⟨i2, _, _, _, _⟩ := x2
        dsimp only at hc0 hc1 hc2 hall
        have HALL := Lib.hid hall
        rw [Nat.zero_mul, Nat.add_zero] at hc0
        rw [Nat.one_mul] at hc1
        rw [show 2 * 2 = 4 from rfl] at hc2
        clear hall hx0 hx1 hx2 h
        have hcase : (i0 ≠ 0) ∨ (i0 = 0 ∧ i1 ≠ 1) ∨ (i0 = 0 ∧ i1 = 1 ∧ i2 ≠ 2) ∨ (i0 = 0 ∧ i1 = 1 ∧ i2 = 2) := by omega
        have hq0 : (0 : Int) < (k : Int) ∧ (1 : Int) < (k : Int) ∧ (2 : Int) < (k : Int) := by omega
        obtain ⟨q0, q1, q2⟩ := hq0
        rcases hcase with c0 | ⟨rfl, c1⟩ | ⟨rfl, rfl, c2⟩ | ⟨rfl, rfl, rfl⟩
        · have hs : rightS (L.map Ob.s) = false := Bool.eq_false_iff.2 fun hh => c0 (HALL.out.1 hh).1
          have HS := Lib.hid hs
          have e0 : (i0 == 0) = false := by rw [beq_eq_false_iff_ne]; exact c0
          clear hs c0
          go_wp2_with fail
          go_ret
          exact ⟨by rw [HS.out]; rfl, hf⟩
        · have hs : rightS (L.map Ob.s) = false := Bool.eq_false_iff.2 fun hh => c1 (HALL.out.1 hh).2.1
          have HS := Lib.hid hs
          have e1 : (i1 == 1) = false := by rw [beq_eq_false_iff_ne]; exact c1
          clear hs c1
          go_wp2_with fail
          go_ret
          exact ⟨by rw [HS.out]; rfl, hf⟩
        · have hs : rightS (L.map Ob.s) = false := Bool.eq_false_iff.2 fun hh => c2 (HALL.out.1 hh).2.2
          have HS := Lib.hid hs
          have e2 : (i2 == 2) = false := by rw [beq_eq_false_iff_ne]; exact c2
          clear hs c2
          go_wp2_with fail
          go_ret
          exact ⟨by rw [HS.out]; rfl, hf⟩
        · have hs : rightS (L.map Ob.s) = true := HALL.out.2 ⟨rfl, rfl, rfl⟩
          have HS := Lib.hid hs
          clear hs
          go_wp2_with fail
          go_ret
          exact ⟨by rw [HS.out]; rfl, hf⟩
end Go.Proofs.Ythdenkmmiadeiaa
