/- Contracts of the document's timers (bilgeref06): Set and Due. -/
import Derived.Test.YthdenkmmiadeiaaTref
import Derived.Test.YthdenkmmiadeiaaTimLaw
namespace Go.Proofs.Ythdenkmmiadeiaa
set_option linter.unusedSimpArgs false
set_option linter.unusedVariables false
open Go.RowKit

/-- What Set tells: the list and the error. -/
def tmsE (L : List Tm) (err : Int) (w : World) (e : Ending) (w' : World) : Prop := Fr nob w w' ∧ ∃ A n c, e = .returned (.tuple #[.slice A n c, .int .i64 err]) ∧ Tms w' A n L ∧ n ≤ c ∧ c ≤ 9223372036854775807 ∧ TyA w' A
/-- What is to come of an insertion, so far. -/
def Ins (t : Tm) (R : List Tm) (k : Nat) (done : Bool) (out : List Tm) : Prop := insS t R = out ++ (if done then R.drop k else insS t (R.drop k))
theorem drop_at {R : List Tm} {k : Nat} {x : Tm} (hx : R[k]? = some x) : R.drop k = x :: R.drop (k + 1) := by
  obtain ⟨h1, h2⟩ := List.getElem?_eq_some_iff.1 hx
  rw [List.drop_eq_getElem_cons h1, h2]
theorem ins_start (t : Tm) (R : List Tm) : Ins t R 0 false [] := by simp [Ins]
theorem ins_done {t : Tm} {R : List Tm} {k : Nat} {out : List Tm} {x : Tm} (h : Ins t R k true out) (hx : R[k]? = some x) : Ins t R (k + 1) true (out ++ [x]) := by
  unfold Ins at *
  rw [h, drop_at hx]
  simp
theorem ins_now {t : Tm} {R : List Tm} {k : Nat} {out : List Tm} {x : Tm} (h : Ins t R k false out) (hx : R[k]? = some x) (hlt : ltK t x) : Ins t R (k + 1) true (out ++ [t] ++ [x]) := by
  unfold Ins at *
  rw [h, drop_at hx]
  simp [insS, hlt]
theorem ins_later {t : Tm} {R : List Tm} {k : Nat} {out : List Tm} {x : Tm} (h : Ins t R k false out) (hx : R[k]? = some x) (hlt : ¬ ltK t x) : Ins t R (k + 1) false (out ++ [x]) := by
  unfold Ins at *
  rw [h, drop_at hx]
  simp [insS, hlt]

set_option maxHeartbeats 8000000 in
set_option maxRecDepth 100000 in
theorem ref06_set (A : Option Addr) (n c : Nat) (L : List Tm) (id a : Int) (w : World) (h : Tms w A n L) (hn : n ≤ 10000) (hnc : n ≤ c) (hc : c ≤ 9223372036854775807) (hty : TyA w A) :
    Calls Try.prog 70 #[.slice A n c, .int .i64 id, .int .i64 a] w (tmsE (setS L id a) (setErr L id a) w) := by
  have HLN := Lib.hid h.len
  by_cases hbad : id < 0 ∨ a < 0 ∨ 1099511627776 < a
  · have he : setErr L id a = 11 := by rw [setErr, if_pos hbad]
    have hs : setS L id a = L := by rw [setS, he]; rfl
    rw [he, hs]
    have hb2 : id < 0 ∨ (0 ≤ id ∧ a < 0) ∨ (0 ≤ id ∧ 0 ≤ a ∧ 1099511627776 < a) := by omega
    clear he hs hbad
    rcases hb2 with hb2 | ⟨hb2, hb3⟩ | ⟨hb2, hb3, hb4⟩
    all_goals
      go_enter Try.func70, Try.ntmps70
      go_wp2_with fail
      go_ret2
      exact ⟨Fr.refl _ _, A, n, c, rfl, h, hnc, hc, hty⟩
  have hok : 0 ≤ id ∧ 0 ≤ a ∧ a ≤ 1099511627776 := by omega
  obtain ⟨o1, o2, o3⟩ := hok
  have hfind := Lib.hid (ref06_find A n c L id w h (by omega))
  have hcase := idxT_has L id
  by_cases hfull : hasS L id = false ∧ 256 ≤ L.length
  · have he : setErr L id a = 17 := by rw [setErr, if_neg hbad, if_pos hfull]
    have hs : setS L id a = L := by rw [setS, he]; rfl
    have hix : idxT L id = -1 := by
      rcases hcase with ⟨_, h1, _⟩ | ⟨h1, _⟩
      · rw [hfull.1] at h1; cases h1
      · exact h1
    rw [he, hs]
    rw [hix] at hfind
    have hge : decide ((256 : Int) ≤ (n : Int)) = true := decide_eq_true (by have := HLN.out; omega)
    clear he hs hbad hfull hcase hix
    go_enter Try.func70, Try.ntmps70
    go_wp2_with fail
    refine hfind.out.mono ?_
    rintro e w1 ⟨rfl, rfl⟩
    go_wp2_with fail
    go_ret2
    exact ⟨Fr.refl _ _, A, n, c, rfl, h, hnc, hc, hty⟩
  have he : setErr L id a = 0 := by rw [setErr, if_neg hbad, if_neg hfull]
  have hs : setS L id a = insS (id, a) (dropS L id) := by rw [setS, he]; rfl
  rw [he, hs]
  obtain ⟨ix, hix, hgo⟩ : ∃ ix, idxT L id = ix ∧ (decide (ix < 0) = false ∨ (decide (ix < 0) = true ∧ decide ((256 : Int) ≤ (n : Int)) = false)) := by
    refine ⟨_, rfl, ?_⟩
    rcases hcase with ⟨h1, _⟩ | ⟨h1, h2⟩
    · exact .inl (decide_eq_false (by omega))
    · exact .inr ⟨by rw [h1]; decide, decide_eq_false (by have := HLN.out; have : ¬ 256 ≤ L.length := fun hh => hfull ⟨h2, hh⟩; omega)⟩
  rw [hix] at hfind
  obtain ⟨R, hR⟩ : ∃ R, R = dropS L id := ⟨_, rfl⟩
  have hRl : R.length ≤ n := by rw [hR, ← HLN.out]; exact List.length_filter_le _ _
  rw [← hR]
  have hdrop := fun V (hV : Fr nob w V) => ref06_drop A n c L id V (h.nob hV) (by omega)
  rw [← hR] at hdrop
  have HDR := Lib.hid hdrop
  have hb0 := Blk.new w 69 #[.int .i64 id, .int .i64 a]
  have hf0 := (Fr.refl nob w).alloc (.cells #[.int .i64 id, .int .i64 a] 69)
  clear he hs hbad hfull hcase hix hdrop hR
  rcases hgo with hgo | ⟨hgo, hgo2⟩
  all_goals
    go_enter Try.func70, Try.ntmps70
    go_wp2_with fail
    refine hfind.out.mono ?_
    rintro e w1 ⟨rfl, rfl⟩
    go_wp2_with fail
    refine (HDR.out _ hf0).mono ?_
    rintro e w2 ⟨hf2, A2, n2, c2, rfl, hR2, hn2, hc2, -⟩
    have hb2 := hb0.fr hf2 (fun h => h)
    have hf02 := hf0.trans hf2 (fun _ _ h => h)
    have hRn := hR2.len
    have hn2n : n2 ≤ n := by omega
    have HRN := Lib.hid hRn
    have hsz2 : w.heap.size < w2.heap.size := hb2.lt
    clear hb0 hf0 hRl hRn hf2
    go_wp2_with fail
    go_loopw [9, 10, 12] (fun v dv i wr => ∃ (k m : Nat) (done : Bool) (M : List Tm), k ≤ n2 ∧ i = .int .i64 k ∧ dv = .bool done ∧ m ≤ k + 1 ∧ Hid (done = false → m ≤ k) ∧ Hid (Ins (id, a) R k done M) ∧ wr.ownsRow w2.heap.size 69 2 v m (M.flatMap tmc) ∧ Fr nob w2 wr) (fun _ _ i _ => n2 - (intOf i).toNat)
    case atStart => exact ⟨0, 0, false, [], by omega, rfl, rfl, by omega, Lib.hid (fun _ => by omega), Lib.hid (ins_start _ _), World.ownsRow_nil _ _ _ _, Fr.refl _ _⟩
    case round =>
      obtain ⟨k, m, done, M, hk, rfl, rfl, hmk, hmk2, hins, hown, hf⟩ := hrel
      have hblk := hb2.fr hf (fun h => h)
      have q1 := hblk.cell
      have hzf := hf.size
      have hbl := hblk.lt
      by_cases hlt : k < n2
      · obtain ⟨b, o, x, rfl, hb2', hx, hc0, hc1⟩ := (hR2.nob hf).at_ hlt
        have hb2' : b < w2.heap.size := by
          obtain ⟨_, _, _, e', h', _⟩ := hR2.at_ hlt
          cases e'
          exact h'
        have hb : b < wr.heap.size := by omega
        have hi0 : (0 : Int) ≤ (k : Int) ∧ (k : Int) < (n2 : Int) := ⟨by omega, by omega⟩
        have HX := Lib.hid hx
        obtain ⟨xi, xa⟩ := x
        dsimp only at hc0 hc1
        clear hx
        cases done with
        | true =>
          go_wp2_with fail
          refine wp_region_held_drew (S := fun _ => True) (by kernel_rfl) trivial (fun hHeld => ?_)
          first
            | (refine mix_skip 0 rfl (by kernel_rfl) (by kernel_rfl) (by kernel_rfl) (by rfl) (by assumption) (fun _ _ _ h => h) ?_)
            | (refine mix_pure 0 (v := ?_) rfl (by kernel_rfl) (by kernel_rfl) (by kernel_rfl) (by rfl) (by assumption) (fun _ _ _ h => h) ?_ ?_; rotate_left; · (intro wS hSw; (try dsimp only at hSw); go_simp; try with_reducible rfl))
          simp only [Act.put, List.setIfInBounds_toArray, List.set_cons_zero, List.set_cons_succ]
          first
            | (refine mix_skip 1 rfl (by kernel_rfl) (by kernel_rfl) (by kernel_rfl) (by rfl) (by assumption) (fun _ _ _ h => h) ?_)
            | (refine mix_pure 1 (v := ?_) rfl (by kernel_rfl) (by kernel_rfl) (by kernel_rfl) (by rfl) (by assumption) (fun _ _ _ h => h) ?_ ?_; rotate_left; · (intro wS hSw; (try dsimp only at hSw); go_simp; try with_reducible rfl))
          simp only [Act.put, List.setIfInBounds_toArray, List.set_cons_zero, List.set_cons_succ]
          first
            | (refine mix_skip 2 rfl (by kernel_rfl) (by kernel_rfl) (by kernel_rfl) (by rfl) (by assumption) (fun _ _ _ h => h) ?_)
            | (refine mix_pure 2 (v := ?_) rfl (by kernel_rfl) (by kernel_rfl) (by kernel_rfl) (by rfl) (by assumption) (fun _ _ _ h => h) ?_ ?_; rotate_left; · (intro wS hSw; (try dsimp only at hSw); go_simp; try with_reducible rfl))
          simp only [Act.put, List.setIfInBounds_toArray, List.set_cons_zero, List.set_cons_succ]
          first
            | (refine mix_skip 3 rfl (by kernel_rfl) (by kernel_rfl) (by kernel_rfl) (by rfl) (by assumption) (fun _ _ _ h => h) ?_)
            | (refine mix_pure 3 (v := ?_) rfl (by kernel_rfl) (by kernel_rfl) (by kernel_rfl) (by rfl) (by assumption) (fun _ _ _ h => h) ?_ ?_; rotate_left; · (intro wS hSw; (try dsimp only at hSw); go_simp; try with_reducible rfl))
          simp only [Act.put, List.setIfInBounds_toArray, List.set_cons_zero, List.set_cons_succ]
          first
            | (refine mix_skip 4 rfl (by kernel_rfl) (by kernel_rfl) (by kernel_rfl) (by rfl) (by assumption) (fun _ _ _ h => h) ?_)
            | (refine mix_pure 4 (v := ?_) rfl (by kernel_rfl) (by kernel_rfl) (by kernel_rfl) (by rfl) (by assumption) (fun _ _ _ h => h) ?_ ?_; rotate_left; · (intro wS hSw; (try dsimp only at hSw); go_simp; try with_reducible rfl))
          simp only [Act.put, List.setIfInBounds_toArray, List.set_cons_zero, List.set_cons_succ]
          first
            | (refine mix_skip 5 rfl (by kernel_rfl) (by kernel_rfl) (by kernel_rfl) (by rfl) (by assumption) (fun _ _ _ h => h) ?_)
            | (refine mix_pure 5 (v := ?_) rfl (by kernel_rfl) (by kernel_rfl) (by kernel_rfl) (by rfl) (by assumption) (fun _ _ _ h => h) ?_ ?_; rotate_left; · (intro wS hSw; (try dsimp only at hSw); go_simp; try with_reducible rfl))
          simp only [Act.put, List.setIfInBounds_toArray, List.set_cons_zero, List.set_cons_succ]
          first
            | (refine mix_skip 6 rfl (by kernel_rfl) (by kernel_rfl) (by kernel_rfl) (by rfl) (by assumption) (fun _ _ _ h => h) ?_)
            | (refine mix_pure 6 (v := ?_) rfl (by kernel_rfl) (by kernel_rfl) (by kernel_rfl) (by rfl) (by assumption) (fun _ _ _ h => h) ?_ ?_; rotate_left; · (intro wS hSw; (try dsimp only at hSw); go_simp; try with_reducible rfl))
          simp only [Act.put, List.setIfInBounds_toArray, List.set_cons_zero, List.set_cons_succ]
          first
            | (refine mix_skip 7 rfl (by kernel_rfl) (by kernel_rfl) (by kernel_rfl) (by rfl) (by assumption) (fun _ _ _ h => h) ?_)
            | (refine mix_pure 7 (v := ?_) rfl (by kernel_rfl) (by kernel_rfl) (by kernel_rfl) (by rfl) (by assumption) (fun _ _ _ h => h) ?_ ?_; rotate_left; · (intro wS hSw; (try dsimp only at hSw); go_simp; try with_reducible rfl))
          simp only [Act.put, List.setIfInBounds_toArray, List.set_cons_zero, List.set_cons_succ]
          first
            | (refine mix_skip 8 rfl (by kernel_rfl) (by kernel_rfl) (by kernel_rfl) (by rfl) (by assumption) (fun _ _ _ h => h) ?_)
            | (refine mix_pure 8 (v := ?_) rfl (by kernel_rfl) (by kernel_rfl) (by kernel_rfl) (by rfl) (by assumption) (fun _ _ _ h => h) ?_ ?_; rotate_left; · (intro wS hSw; (try dsimp only at hSw); go_simp; try with_reducible rfl))
          simp only [Act.put, List.setIfInBounds_toArray, List.set_cons_zero, List.set_cons_succ]
          first
            | (refine mix_skip 9 rfl (by kernel_rfl) (by kernel_rfl) (by kernel_rfl) (by rfl) (by assumption) (fun _ _ _ h => h) ?_)
            | (refine mix_pure 9 (v := ?_) rfl (by kernel_rfl) (by kernel_rfl) (by kernel_rfl) (by rfl) (by assumption) (fun _ _ _ h => h) ?_ ?_; rotate_left; · (intro wS hSw; (try dsimp only at hSw); go_simp; try with_reducible rfl))
          simp only [Act.put, List.setIfInBounds_toArray, List.set_cons_zero, List.set_cons_succ]
          refine wpAnyH_done (by kernel_rfl) ?_ _
          clear hHeld
          have hown1 : wr.drew.ownsRow w2.heap.size 69 2 u9 m (M.flatMap tmc) := hown
          go_wp2_with (at_builtin; (refine app_one (P := Try.prog) (W := wr.drew) w2.heap.size rfl _ _ _ 69 (.agg #[.int .i64 0, .int .i64 0]) 2 16 rfl Try.underlying60 tm_info rfl (by omega) u9 m (M.flatMap tmc) _ rfl rfl rfl (by simp [Value.oneCell']) hown1 (by exact hzf) (by omega) (by omega) ?_); intro v1 w5 hown5 hg5 hat5)
          go_roundw
          case rel =>
            refine ⟨k + 1, m + 1, true, M ++ [(xi, xa)], by omega, by go_num, rfl, by omega, Lib.hid (fun h => by cases h), Lib.hid (ins_done hins.out HX.out), ?_, hf.drew.grown hg5 (fun k hk => .inr (own_at hown k hk))⟩
            simpa [List.flatMap_append, tmc] using hown5
          case measure => simp [intOf]; omega
        | false =>
          have q10 := q1 0
          have q11 := q1 1
          simp at q10 q11
          have hcl : ∀ V, Fr nob wr V → V.cell? ⟨w.heap.size, 0, none⟩ = some (.int .i64 id) ∧ V.cell? ⟨w.heap.size, 1, none⟩ = some (.int .i64 a) ∧ V.cell? ⟨b, o + k * 2, none⟩ = some (.int .i64 xi) ∧ V.cell? ⟨b, o + k * 2 + 1, none⟩ = some (.int .i64 xa) := fun V h =>
            ⟨(h.cell (p := ⟨_, 0, none⟩) hbl (fun h => h)).trans q10, (h.cell (p := ⟨_, 1, none⟩) hbl (fun h => h)).trans q11, (h.cell (p := ⟨b, _, none⟩) hb (fun h => h)).trans hc0, (h.cell (p := ⟨b, _, none⟩) hb (fun h => h)).trans hc1⟩
          have HCL := Lib.hid hcl
          clear hcl
          go_wp2_with fail
          refine wp_region_held_drew (S := fun w' => w'.cell? ⟨w.heap.size, 0, none⟩ = some (.int .i64 id) ∧ w'.cell? ⟨w.heap.size, 1, none⟩ = some (.int .i64 a) ∧ w'.cell? ⟨b, o + k * 2, none⟩ = some (.int .i64 xi) ∧ w'.cell? ⟨b, o + k * 2 + 1, none⟩ = some (.int .i64 xa)) (by kernel_rfl) (HCL.out _ (Fr.refl nob wr).drew) (fun hHeld => ?_)
          first
            | (refine mix_skip 0 rfl (by kernel_rfl) (by kernel_rfl) (by kernel_rfl) (by rfl) (by assumption) (fun _ _ _ h => h) ?_)
            | (refine mix_pure 0 (v := ?_) rfl (by kernel_rfl) (by kernel_rfl) (by kernel_rfl) (by rfl) (by assumption) (fun _ _ _ h => h) ?_ ?_; rotate_left; · (intro wS hSw; (try dsimp only at hSw); go_simp; try with_reducible rfl))
          simp only [Act.put, List.setIfInBounds_toArray, List.set_cons_zero, List.set_cons_succ]
          first
            | (refine mix_skip 1 rfl (by kernel_rfl) (by kernel_rfl) (by kernel_rfl) (by rfl) (by assumption) (fun _ _ _ h => h) ?_)
            | (refine mix_pure 1 (v := ?_) rfl (by kernel_rfl) (by kernel_rfl) (by kernel_rfl) (by rfl) (by assumption) (fun _ _ _ h => h) ?_ ?_; rotate_left; · (intro wS hSw; (try dsimp only at hSw); go_simp; try with_reducible rfl))
          simp only [Act.put, List.setIfInBounds_toArray, List.set_cons_zero, List.set_cons_succ]
          first
            | (refine mix_skip 2 rfl (by kernel_rfl) (by kernel_rfl) (by kernel_rfl) (by rfl) (by assumption) (fun _ _ _ h => h) ?_)
            | (refine mix_pure 2 (v := ?_) rfl (by kernel_rfl) (by kernel_rfl) (by kernel_rfl) (by rfl) (by assumption) (fun _ _ _ h => h) ?_ ?_; rotate_left; · (intro wS hSw; (try dsimp only at hSw); go_simp; try with_reducible rfl))
          simp only [Act.put, List.setIfInBounds_toArray, List.set_cons_zero, List.set_cons_succ]
          first
            | (refine mix_skip 3 rfl (by kernel_rfl) (by kernel_rfl) (by kernel_rfl) (by rfl) (by assumption) (fun _ _ _ h => h) ?_)
            | (refine mix_pure 3 (v := ?_) rfl (by kernel_rfl) (by kernel_rfl) (by kernel_rfl) (by rfl) (by assumption) (fun _ _ _ h => h) ?_ ?_; rotate_left; · (intro wS hSw; (try dsimp only at hSw); go_simp; try with_reducible rfl))
          simp only [Act.put, List.setIfInBounds_toArray, List.set_cons_zero, List.set_cons_succ]
          first
            | (refine mix_skip 4 rfl (by kernel_rfl) (by kernel_rfl) (by kernel_rfl) (by rfl) (by assumption) (fun _ _ _ h => h) ?_)
            | (refine mix_pure 4 (v := ?_) rfl (by kernel_rfl) (by kernel_rfl) (by kernel_rfl) (by rfl) (by assumption) (fun _ _ _ h => h) ?_ ?_; rotate_left; · (intro wS hSw; (try dsimp only at hSw); go_simp; try with_reducible rfl))
          simp only [Act.put, List.setIfInBounds_toArray, List.set_cons_zero, List.set_cons_succ]
          first
            | (refine mix_skip 5 rfl (by kernel_rfl) (by kernel_rfl) (by kernel_rfl) (by rfl) (by assumption) (fun _ _ _ h => h) ?_)
            | (refine mix_pure 5 (v := ?_) rfl (by kernel_rfl) (by kernel_rfl) (by kernel_rfl) (by rfl) (by assumption) (fun _ _ _ h => h) ?_ ?_; rotate_left; · (intro wS hSw; (try dsimp only at hSw); go_simp; try with_reducible rfl))
          simp only [Act.put, List.setIfInBounds_toArray, List.set_cons_zero, List.set_cons_succ]
          first
            | (refine mix_skip 6 rfl (by kernel_rfl) (by kernel_rfl) (by kernel_rfl) (by rfl) (by assumption) (fun _ _ _ h => h) ?_)
            | (refine mix_pure 6 (v := ?_) rfl (by kernel_rfl) (by kernel_rfl) (by kernel_rfl) (by rfl) (by assumption) (fun _ _ _ h => h) ?_ ?_; rotate_left; · (intro wS hSw; (try dsimp only at hSw); go_simp; try with_reducible rfl))
          simp only [Act.put, List.setIfInBounds_toArray, List.set_cons_zero, List.set_cons_succ]
          first
            | (refine mix_skip 7 rfl (by kernel_rfl) (by kernel_rfl) (by kernel_rfl) (by rfl) (by assumption) (fun _ _ _ h => h) ?_)
            | (refine mix_pure 7 (v := ?_) rfl (by kernel_rfl) (by kernel_rfl) (by kernel_rfl) (by rfl) (by assumption) (fun _ _ _ h => h) ?_ ?_; rotate_left; · (intro wS hSw; (try dsimp only at hSw); go_simp; try with_reducible rfl))
          simp only [Act.put, List.setIfInBounds_toArray, List.set_cons_zero, List.set_cons_succ]
          refine mix_one 8 rfl (by kernel_rfl) (fun K hK => ?_)
          go_simp
          refine (ref06_before id a xi xa _).mono ?_
          rintro e w5 ⟨rfl, hf5⟩
          have hf05 : Fr nob wr w5 := (Fr.refl nob wr).drew.trans hf5 (fun _ _ h => h)
          refine hK.out _ _ (HCL.out _ hf05) (fun hHeld0 => ?_)
          clear hK K
          try simp only [Act.put, List.setIfInBounds_toArray, List.set_cons_zero, List.set_cons_succ]
          first
            | (refine mix_skip 9 rfl (by kernel_rfl) (by kernel_rfl) (by kernel_rfl) (by rfl) (by assumption) (fun _ _ _ h => h) ?_)
            | (refine mix_pure 9 (v := ?_) rfl (by kernel_rfl) (by kernel_rfl) (by kernel_rfl) (by rfl) (by assumption) (fun _ _ _ h => h) ?_ ?_; rotate_left; · (intro wS hSw; (try dsimp only at hSw); go_simp; try with_reducible rfl))
          simp only [Act.put, List.setIfInBounds_toArray, List.set_cons_zero, List.set_cons_succ]
          refine wpAnyH_done (by kernel_rfl) ?_ _
          clear hHeld hHeld0 q1 q10 q11 hc0 hc1
          obtain ⟨p0, p1, p2, p3⟩ := HCL.out w5 hf05
          have hown5 := own_fr hown hf05 (fun _ _ h => h)
          have hf25 := hf.trans hf05 (fun _ _ h => h)
          have hz5 := hf25.size
          cases hbf : decide (ltK (id, a) (xi, xa)) with
          | false =>
            go_wp2_with (at_builtin; (refine app_one (P := Try.prog) (W := w5) w2.heap.size rfl _ _ _ 69 (.agg #[.int .i64 0, .int .i64 0]) 2 16 rfl Try.underlying60 tm_info rfl (by omega) u9 m (M.flatMap tmc) _ rfl rfl rfl (by simp [Value.oneCell']) hown5 hz5 (by omega) (by omega) ?_); intro v1 w6 hown6 hg6 hat6)
            go_roundw
            case rel =>
              refine ⟨k + 1, m + 1, false, M ++ [(xi, xa)], by omega, by go_num, rfl, by omega, Lib.hid (fun h => by have := hmk2.out (by simp); omega), Lib.hid (ins_later hins.out HX.out (of_decide_eq_false hbf)), ?_, hf25.grown hg6 (fun k hk => .inr (own_at hown5 k hk))⟩
              simpa [List.flatMap_append, tmc] using hown6
            case measure => simp [intOf]; omega
          | true =>
            go_wp2_with (at_builtin; (first
              | ((refine app_one (P := Try.prog) (W := w5) w2.heap.size rfl _ _ _ 69 (.agg #[.int .i64 0, .int .i64 0]) 2 16 rfl Try.underlying60 tm_info rfl (by omega) u9 m (M.flatMap tmc) _ rfl rfl rfl (by simp [Value.oneCell']) hown5 hz5 (by omega) (by omega) ?_); intro v1 w6 hown6 hg6 hat6; have hf26 := hf25.grown hg6 (fun k hk => .inr (own_at hown5 k hk)); have hz6 := hf26.size; have hxx := (hg6.block b (by exact Nat.lt_of_lt_of_le hb hf05.size) (fun e => absurd (own_at hown5 b e.symm) (by omega))); obtain ⟨r2, r3⟩ := (And.intro (((show w6.cell? ⟨b, o + k * 2, none⟩ = w5.cell? ⟨b, o + k * 2, none⟩ from World.cell?_of_block hxx)).trans p2) (((show w6.cell? ⟨b, o + k * 2 + 1, none⟩ = w5.cell? ⟨b, o + k * 2 + 1, none⟩ from World.cell?_of_block hxx)).trans p3)); clear hxx)
              | ((refine app_one (P := Try.prog) (W := w6) w2.heap.size rfl _ _ _ 69 (.agg #[.int .i64 0, .int .i64 0]) 2 16 rfl Try.underlying60 tm_info rfl (by omega) v1 (m + 1) (M.flatMap tmc ++ [.int .i64 id, .int .i64 a]) _ rfl rfl rfl (by simp [Value.oneCell']) hown6 hz6 (by omega) (by omega) ?_); intro v2 w7 hown7 hg7 hat7)))
            go_roundw
            case rel =>
              refine ⟨k + 1, m + 2, true, M ++ [(id, a)] ++ [(xi, xa)], by omega, by go_num, rfl, by have := hmk2.out (by simp); omega, Lib.hid (fun h => by cases h), Lib.hid (ins_now hins.out HX.out (of_decide_eq_true hbf)), ?_, hf26.grown hg7 (fun k hk => .inr (own_at hown6 k hk))⟩
              simpa [List.flatMap_append, tmc] using hown7
            case measure => simp [intOf]; omega
      · obtain rfl : k = n2 := by omega
        have hd0 : R.drop k = [] := List.drop_eq_nil_of_le (by rw [HRN.out]; omega)
        cases done with
        | true =>
          have HM := Lib.hid (show M = insS (id, a) R by have := hins.out; unfold Ins at this; rw [hd0] at this; simpa using this.symm)
          obtain ⟨Av, cv, rfl, hle, _⟩ := own_form hown
          have hcap := own_cap hown
          clear hd0 q1
          go_wp2_with fail
          go_ret2
          refine ⟨hf02.trans hf (fun _ _ h => h), Av, m, cv, rfl, ?_, hle, hcap, TyA.of_own hown⟩
          rw [← HM.out]
          exact Tms.of_own hown
        | false =>
          have HM := Lib.hid (show M ++ [(id, a)] = insS (id, a) R by have := hins.out; unfold Ins at this; rw [hd0] at this; simpa [insS] using this.symm)
          have q10 := q1 0
          have q11 := q1 1
          simp at q10 q11
          clear hd0 q1
          go_wp2_with (at_builtin; (refine app_one (P := Try.prog) (W := wr) w2.heap.size rfl _ _ _ 69 (.agg #[.int .i64 0, .int .i64 0]) 2 16 rfl Try.underlying60 tm_info rfl (by omega) u9 m (M.flatMap tmc) _ rfl rfl rfl (by simp [Value.oneCell']) hown hzf (by omega) (by omega) ?_); intro v1 w6 hown6 hg6 hat6; obtain ⟨Av, cv, rfl, hle, _⟩ := own_form hown6; have hcap := own_cap hown6)
          go_ret2
          refine ⟨hf02.trans (hf.grown hg6 (fun k hk => .inr (own_at hown k hk))) (fun _ _ h => h), Av, m + 1, cv, rfl, ?_, hle, hcap, TyA.of_own hown6⟩
          rw [← HM.out]
          exact Tms.of_own (by simpa [List.flatMap_append, tmc] using hown6)
end Go.Proofs.Ythdenkmmiadeiaa
