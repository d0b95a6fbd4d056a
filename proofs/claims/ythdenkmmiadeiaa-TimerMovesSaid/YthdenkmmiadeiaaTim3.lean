/- Contracts of Swap of timers, and of container/heap's up and down over them. -/
import Derived.Test.YthdenkmmiadeiaaTim2
namespace Go.Proofs.Ythdenkmmiadeiaa
set_option linter.unusedSimpArgs false
set_option linter.unusedVariables false
open Go.RowKit

set_option maxHeartbeats 2000000 in
set_option maxRecDepth 100000 in
theorem swap_any (A : Option Addr) (n c base i k : Nat) (iv kv : Int) (E : List Ent) (w : World) (h : TH w base (.slice A n c) E) (hn : E.length = n) (hn2 : n ≤ 1000000) (hiv : iv = (i : Int)) (hkv : kv = (k : Int)) (hi : i < n) (hk : k < n) (hne : i ≠ k) :
    Calls Try.prog 179 #[.slice A n c, .int .i64 iv, .int .i64 kv] w fun e w' => e = .returned (.tuple #[]) ∧ Moved w base (.slice A n c) E (swapE E i k) w' := by
  subst hiv hkv
  obtain ⟨g, rfl, hg, hgl, hci⟩ := h.ptr_ hn hi
  obtain ⟨g', e', _, _, hck⟩ := h.ptr_ hn hk
  cases e'
  have hmv := Lib.hid (moved_swap h hn hi hk hne)
  have hap := h.apart (i := i) (k := k) (by omega) (by omega) hne
  have hbi := h.blk' (i := i) (by omega)
  have hbk := h.blk' (i := k) (by omega)
  have hgt : ∀ j, j < E.length → (at' E j).b ≠ g := fun j hj he => by
    have h1 := h.blk' hj
    obtain ⟨cs, hcs⟩ := own_block h.own g rfl
    rw [he] at h1
    unfold Blk at h1
    rw [h1] at hcs
    cases hcs
  have hgi := hgt i (by omega)
  have hgk := hgt k (by omega)
  have hfz : w.frozen? ⟨g, i, none⟩ = false ∧ w.frozen? ⟨g, k, none⟩ = false := by
    obtain ⟨cs, hcs⟩ := own_block h.own g rfl
    exact ⟨Blk.frozen hcs i, Blk.frozen hcs k⟩
  obtain ⟨hz1, hz2⟩ := hfz
  obtain ⟨x, hx⟩ : ∃ x, x = at' E i := ⟨_, rfl⟩
  obtain ⟨y, hy⟩ : ∃ y, y = at' E k := ⟨_, rfl⟩
  rw [← hx] at hci hmv hap hbi hgi
  rw [← hy] at hck hmv hap hbk hgk
  have hi0 : (0 : Int) ≤ (i : Int) ∧ (i : Int) < (n : Int) := ⟨by omega, by omega⟩
  have hk0 : (0 : Int) ≤ (k : Int) ∧ (k : Int) < (n : Int) := ⟨by omega, by omega⟩
  have HTH := Lib.hid h
  have HN := Lib.hid hn
  unfold ptr at hci hck hmv
  clear hx hy h hn hgt
  go_enter Try.func179, Try.ntmps179
  go_wp2_with fail
  refine late_start (fun w' => w'.cell? ⟨g, i, none⟩ = some (.pointer (some ⟨x.b, 0, none⟩)) ∧ w'.cell? ⟨g, k, none⟩ = some (.pointer (some ⟨y.b, 0, none⟩))) (fun j => j == 13 || j == 15) (by kernel_rfl) ⟨hci, hck⟩ (fun hHeld => ?_)
  first
    | (refine late_skip 0 rfl (by kernel_rfl) (by kernel_rfl) (by kernel_rfl) (by kernel_rfl) (by rfl) (by (first | exact Or.inr (by assumption) | exact Or.inl (by kernel_rfl))) (fun _ _ _ h => h) ?_)
    | (refine late_free 0 (v := ?_) rfl (by kernel_rfl) (by kernel_rfl) (by kernel_rfl) (by kernel_rfl) (by rfl) (by (first | exact Or.inr (by assumption) | exact Or.inl (by kernel_rfl))) (fun _ _ _ h => h) ?_ ?_; rotate_left; · (intro wS; go_simp; try with_reducible rfl))
    | (refine late_pure 0 (v := ?_) rfl (by kernel_rfl) (by kernel_rfl) (by kernel_rfl) (by kernel_rfl) (by rfl) (by assumption) (fun _ _ _ h => h) (by kernel_rfl) (by kernel_rfl) ?_ ?_; rotate_left; · (intro wS hSw; (try dsimp only at hSw); go_simp; try with_reducible rfl))
  simp only [Act.put, List.setIfInBounds_toArray, List.set_cons_zero, List.set_cons_succ]
  first
    | (refine late_skip 1 rfl (by kernel_rfl) (by kernel_rfl) (by kernel_rfl) (by kernel_rfl) (by rfl) (by (first | exact Or.inr (by assumption) | exact Or.inl (by kernel_rfl))) (fun _ _ _ h => h) ?_)
    | (refine late_free 1 (v := ?_) rfl (by kernel_rfl) (by kernel_rfl) (by kernel_rfl) (by kernel_rfl) (by rfl) (by (first | exact Or.inr (by assumption) | exact Or.inl (by kernel_rfl))) (fun _ _ _ h => h) ?_ ?_; rotate_left; · (intro wS; go_simp; try with_reducible rfl))
    | (refine late_pure 1 (v := ?_) rfl (by kernel_rfl) (by kernel_rfl) (by kernel_rfl) (by kernel_rfl) (by rfl) (by assumption) (fun _ _ _ h => h) (by kernel_rfl) (by kernel_rfl) ?_ ?_; rotate_left; · (intro wS hSw; (try dsimp only at hSw); go_simp; try with_reducible rfl))
  simp only [Act.put, List.setIfInBounds_toArray, List.set_cons_zero, List.set_cons_succ]
  first
    | (refine late_skip 2 rfl (by kernel_rfl) (by kernel_rfl) (by kernel_rfl) (by kernel_rfl) (by rfl) (by (first | exact Or.inr (by assumption) | exact Or.inl (by kernel_rfl))) (fun _ _ _ h => h) ?_)
    | (refine late_free 2 (v := ?_) rfl (by kernel_rfl) (by kernel_rfl) (by kernel_rfl) (by kernel_rfl) (by rfl) (by (first | exact Or.inr (by assumption) | exact Or.inl (by kernel_rfl))) (fun _ _ _ h => h) ?_ ?_; rotate_left; · (intro wS; go_simp; try with_reducible rfl))
    | (refine late_pure 2 (v := ?_) rfl (by kernel_rfl) (by kernel_rfl) (by kernel_rfl) (by kernel_rfl) (by rfl) (by assumption) (fun _ _ _ h => h) (by kernel_rfl) (by kernel_rfl) ?_ ?_; rotate_left; · (intro wS hSw; (try dsimp only at hSw); go_simp; try with_reducible rfl))
  simp only [Act.put, List.setIfInBounds_toArray, List.set_cons_zero, List.set_cons_succ]
  first
    | (refine late_skip 3 rfl (by kernel_rfl) (by kernel_rfl) (by kernel_rfl) (by kernel_rfl) (by rfl) (by (first | exact Or.inr (by assumption) | exact Or.inl (by kernel_rfl))) (fun _ _ _ h => h) ?_)
    | (refine late_free 3 (v := ?_) rfl (by kernel_rfl) (by kernel_rfl) (by kernel_rfl) (by kernel_rfl) (by rfl) (by (first | exact Or.inr (by assumption) | exact Or.inl (by kernel_rfl))) (fun _ _ _ h => h) ?_ ?_; rotate_left; · (intro wS; go_simp; try with_reducible rfl))
    | (refine late_pure 3 (v := ?_) rfl (by kernel_rfl) (by kernel_rfl) (by kernel_rfl) (by kernel_rfl) (by rfl) (by assumption) (fun _ _ _ h => h) (by kernel_rfl) (by kernel_rfl) ?_ ?_; rotate_left; · (intro wS hSw; (try dsimp only at hSw); go_simp; try with_reducible rfl))
  simp only [Act.put, List.setIfInBounds_toArray, List.set_cons_zero, List.set_cons_succ]
  first
    | (refine late_skip 4 rfl (by kernel_rfl) (by kernel_rfl) (by kernel_rfl) (by kernel_rfl) (by rfl) (by (first | exact Or.inr (by assumption) | exact Or.inl (by kernel_rfl))) (fun _ _ _ h => h) ?_)
    | (refine late_free 4 (v := ?_) rfl (by kernel_rfl) (by kernel_rfl) (by kernel_rfl) (by kernel_rfl) (by rfl) (by (first | exact Or.inr (by assumption) | exact Or.inl (by kernel_rfl))) (fun _ _ _ h => h) ?_ ?_; rotate_left; · (intro wS; go_simp; try with_reducible rfl))
    | (refine late_pure 4 (v := ?_) rfl (by kernel_rfl) (by kernel_rfl) (by kernel_rfl) (by kernel_rfl) (by rfl) (by assumption) (fun _ _ _ h => h) (by kernel_rfl) (by kernel_rfl) ?_ ?_; rotate_left; · (intro wS hSw; (try dsimp only at hSw); go_simp; try with_reducible rfl))
  simp only [Act.put, List.setIfInBounds_toArray, List.set_cons_zero, List.set_cons_succ]
  first
    | (refine late_skip 5 rfl (by kernel_rfl) (by kernel_rfl) (by kernel_rfl) (by kernel_rfl) (by rfl) (by (first | exact Or.inr (by assumption) | exact Or.inl (by kernel_rfl))) (fun _ _ _ h => h) ?_)
    | (refine late_free 5 (v := ?_) rfl (by kernel_rfl) (by kernel_rfl) (by kernel_rfl) (by kernel_rfl) (by rfl) (by (first | exact Or.inr (by assumption) | exact Or.inl (by kernel_rfl))) (fun _ _ _ h => h) ?_ ?_; rotate_left; · (intro wS; go_simp; try with_reducible rfl))
    | (refine late_pure 5 (v := ?_) rfl (by kernel_rfl) (by kernel_rfl) (by kernel_rfl) (by kernel_rfl) (by rfl) (by assumption) (fun _ _ _ h => h) (by kernel_rfl) (by kernel_rfl) ?_ ?_; rotate_left; · (intro wS hSw; (try dsimp only at hSw); go_simp; try with_reducible rfl))
  simp only [Act.put, List.setIfInBounds_toArray, List.set_cons_zero, List.set_cons_succ]
  first
    | (refine late_skip 6 rfl (by kernel_rfl) (by kernel_rfl) (by kernel_rfl) (by kernel_rfl) (by rfl) (by (first | exact Or.inr (by assumption) | exact Or.inl (by kernel_rfl))) (fun _ _ _ h => h) ?_)
    | (refine late_free 6 (v := ?_) rfl (by kernel_rfl) (by kernel_rfl) (by kernel_rfl) (by kernel_rfl) (by rfl) (by (first | exact Or.inr (by assumption) | exact Or.inl (by kernel_rfl))) (fun _ _ _ h => h) ?_ ?_; rotate_left; · (intro wS; go_simp; try with_reducible rfl))
    | (refine late_pure 6 (v := ?_) rfl (by kernel_rfl) (by kernel_rfl) (by kernel_rfl) (by kernel_rfl) (by rfl) (by assumption) (fun _ _ _ h => h) (by kernel_rfl) (by kernel_rfl) ?_ ?_; rotate_left; · (intro wS hSw; (try dsimp only at hSw); go_simp; try with_reducible rfl))
  simp only [Act.put, List.setIfInBounds_toArray, List.set_cons_zero, List.set_cons_succ]
  first
    | (refine late_skip 7 rfl (by kernel_rfl) (by kernel_rfl) (by kernel_rfl) (by kernel_rfl) (by rfl) (by (first | exact Or.inr (by assumption) | exact Or.inl (by kernel_rfl))) (fun _ _ _ h => h) ?_)
    | (refine late_free 7 (v := ?_) rfl (by kernel_rfl) (by kernel_rfl) (by kernel_rfl) (by kernel_rfl) (by rfl) (by (first | exact Or.inr (by assumption) | exact Or.inl (by kernel_rfl))) (fun _ _ _ h => h) ?_ ?_; rotate_left; · (intro wS; go_simp; try with_reducible rfl))
    | (refine late_pure 7 (v := ?_) rfl (by kernel_rfl) (by kernel_rfl) (by kernel_rfl) (by kernel_rfl) (by rfl) (by assumption) (fun _ _ _ h => h) (by kernel_rfl) (by kernel_rfl) ?_ ?_; rotate_left; · (intro wS hSw; (try dsimp only at hSw); go_simp; try with_reducible rfl))
  simp only [Act.put, List.setIfInBounds_toArray, List.set_cons_zero, List.set_cons_succ]
  first
    | (refine late_skip 8 rfl (by kernel_rfl) (by kernel_rfl) (by kernel_rfl) (by kernel_rfl) (by rfl) (by (first | exact Or.inr (by assumption) | exact Or.inl (by kernel_rfl))) (fun _ _ _ h => h) ?_)
    | (refine late_free 8 (v := ?_) rfl (by kernel_rfl) (by kernel_rfl) (by kernel_rfl) (by kernel_rfl) (by rfl) (by (first | exact Or.inr (by assumption) | exact Or.inl (by kernel_rfl))) (fun _ _ _ h => h) ?_ ?_; rotate_left; · (intro wS; go_simp; try with_reducible rfl))
    | (refine late_pure 8 (v := ?_) rfl (by kernel_rfl) (by kernel_rfl) (by kernel_rfl) (by kernel_rfl) (by rfl) (by assumption) (fun _ _ _ h => h) (by kernel_rfl) (by kernel_rfl) ?_ ?_; rotate_left; · (intro wS hSw; (try dsimp only at hSw); go_simp; try with_reducible rfl))
  simp only [Act.put, List.setIfInBounds_toArray, List.set_cons_zero, List.set_cons_succ]
  first
    | (refine late_skip 9 rfl (by kernel_rfl) (by kernel_rfl) (by kernel_rfl) (by kernel_rfl) (by rfl) (by (first | exact Or.inr (by assumption) | exact Or.inl (by kernel_rfl))) (fun _ _ _ h => h) ?_)
    | (refine late_free 9 (v := ?_) rfl (by kernel_rfl) (by kernel_rfl) (by kernel_rfl) (by kernel_rfl) (by rfl) (by (first | exact Or.inr (by assumption) | exact Or.inl (by kernel_rfl))) (fun _ _ _ h => h) ?_ ?_; rotate_left; · (intro wS; go_simp; try with_reducible rfl))
    | (refine late_pure 9 (v := ?_) rfl (by kernel_rfl) (by kernel_rfl) (by kernel_rfl) (by kernel_rfl) (by rfl) (by assumption) (fun _ _ _ h => h) (by kernel_rfl) (by kernel_rfl) ?_ ?_; rotate_left; · (intro wS hSw; (try dsimp only at hSw); go_simp; try with_reducible rfl))
  simp only [Act.put, List.setIfInBounds_toArray, List.set_cons_zero, List.set_cons_succ]
  first
    | (refine late_skip 10 rfl (by kernel_rfl) (by kernel_rfl) (by kernel_rfl) (by kernel_rfl) (by rfl) (by (first | exact Or.inr (by assumption) | exact Or.inl (by kernel_rfl))) (fun _ _ _ h => h) ?_)
    | (refine late_free 10 (v := ?_) rfl (by kernel_rfl) (by kernel_rfl) (by kernel_rfl) (by kernel_rfl) (by rfl) (by (first | exact Or.inr (by assumption) | exact Or.inl (by kernel_rfl))) (fun _ _ _ h => h) ?_ ?_; rotate_left; · (intro wS; go_simp; try with_reducible rfl))
    | (refine late_pure 10 (v := ?_) rfl (by kernel_rfl) (by kernel_rfl) (by kernel_rfl) (by kernel_rfl) (by rfl) (by assumption) (fun _ _ _ h => h) (by kernel_rfl) (by kernel_rfl) ?_ ?_; rotate_left; · (intro wS hSw; (try dsimp only at hSw); go_simp; try with_reducible rfl))
  simp only [Act.put, List.setIfInBounds_toArray, List.set_cons_zero, List.set_cons_succ]
  first
    | (refine late_skip 11 rfl (by kernel_rfl) (by kernel_rfl) (by kernel_rfl) (by kernel_rfl) (by rfl) (by (first | exact Or.inr (by assumption) | exact Or.inl (by kernel_rfl))) (fun _ _ _ h => h) ?_)
    | (refine late_free 11 (v := ?_) rfl (by kernel_rfl) (by kernel_rfl) (by kernel_rfl) (by kernel_rfl) (by rfl) (by (first | exact Or.inr (by assumption) | exact Or.inl (by kernel_rfl))) (fun _ _ _ h => h) ?_ ?_; rotate_left; · (intro wS; go_simp; try with_reducible rfl))
    | (refine late_pure 11 (v := ?_) rfl (by kernel_rfl) (by kernel_rfl) (by kernel_rfl) (by kernel_rfl) (by rfl) (by assumption) (fun _ _ _ h => h) (by kernel_rfl) (by kernel_rfl) ?_ ?_; rotate_left; · (intro wS hSw; (try dsimp only at hSw); go_simp; try with_reducible rfl))
  simp only [Act.put, List.setIfInBounds_toArray, List.set_cons_zero, List.set_cons_succ]
  first
    | (refine late_skip 12 rfl (by kernel_rfl) (by kernel_rfl) (by kernel_rfl) (by kernel_rfl) (by rfl) (by (first | exact Or.inr (by assumption) | exact Or.inl (by kernel_rfl))) (fun _ _ _ h => h) ?_)
    | (refine late_free 12 (v := ?_) rfl (by kernel_rfl) (by kernel_rfl) (by kernel_rfl) (by kernel_rfl) (by rfl) (by (first | exact Or.inr (by assumption) | exact Or.inl (by kernel_rfl))) (fun _ _ _ h => h) ?_ ?_; rotate_left; · (intro wS; go_simp; try with_reducible rfl))
    | (refine late_pure 12 (v := ?_) rfl (by kernel_rfl) (by kernel_rfl) (by kernel_rfl) (by kernel_rfl) (by rfl) (by assumption) (fun _ _ _ h => h) (by kernel_rfl) (by kernel_rfl) ?_ ?_; rotate_left; · (intro wS hSw; (try dsimp only at hSw); go_simp; try with_reducible rfl))
  simp only [Act.put, List.setIfInBounds_toArray, List.set_cons_zero, List.set_cons_succ]
  refine late_last 13 rfl (by kernel_rfl) (by kernel_rfl) (fun K hK => ?_)
  go_simp
  refine hK.out _ _ ?_
  clear hK K
  try simp only [Act.put, List.setIfInBounds_toArray, List.set_cons_zero, List.set_cons_succ]
  first
    | (refine late_skip 14 rfl (by kernel_rfl) (by kernel_rfl) (by kernel_rfl) (by kernel_rfl) (by rfl) (by (first | exact Or.inr (by assumption) | exact Or.inl (by kernel_rfl))) (fun _ _ _ h => h) ?_)
    | (refine late_free 14 (v := ?_) rfl (by kernel_rfl) (by kernel_rfl) (by kernel_rfl) (by kernel_rfl) (by rfl) (by (first | exact Or.inr (by assumption) | exact Or.inl (by kernel_rfl))) (fun _ _ _ h => h) ?_ ?_; rotate_left; · (intro wS; go_simp; try with_reducible rfl))
    | (refine late_pure 14 (v := ?_) rfl (by kernel_rfl) (by kernel_rfl) (by kernel_rfl) (by kernel_rfl) (by rfl) (by assumption) (fun _ _ _ h => h) (by kernel_rfl) (by kernel_rfl) ?_ ?_; rotate_left; · (intro wS hSw; (try dsimp only at hSw); go_simp; try with_reducible rfl))
  simp only [Act.put, List.setIfInBounds_toArray, List.set_cons_zero, List.set_cons_succ]
  refine late_last 15 rfl (by kernel_rfl) (by kernel_rfl) (fun K hK => ?_)
  go_simp
  refine hK.out _ _ ?_
  clear hK K
  try simp only [Act.put, List.setIfInBounds_toArray, List.set_cons_zero, List.set_cons_succ]
  refine late_done (by kernel_rfl) ?_
  clear hHeld
  have hik : (⟨g, k, none⟩ : Addr) ≠ ⟨g, i, none⟩ := fun e => hne (by injection e with _ e; exact e.symm)
  obtain ⟨W1, hW1⟩ : ∃ W1, W1 = (((w.setCell ⟨g, i, none⟩ (.pointer (some ⟨y.b, 0, none⟩))).setCell ⟨g, k, none⟩ (.pointer (some ⟨x.b, 0, none⟩))).drew) := ⟨_, rfl⟩
  have d1 : W1.cell? ⟨g, i, none⟩ = some (.pointer (some ⟨y.b, 0, none⟩)) := by
    rw [hW1]
    show ((w.setCell _ _).setCell _ _).cell? _ = _
    rw [World.cell?_setCell_other _ _ _ _ hik]
    exact World.cell?_setCell_same w _ _ hci
  have d2 : W1.cell? ⟨g, k, none⟩ = some (.pointer (some ⟨x.b, 0, none⟩)) := by
    rw [hW1]
    show ((w.setCell _ _).setCell _ _).cell? _ = _
    exact World.cell?_setCell_same _ _ _ ((World.cell?_setCell_other w _ _ _ (fun e => hik e.symm)).trans hck)
  have hbx : Blk W1 x.b 132 (tcs x i) := by rw [hW1]; exact ((hbi.far (p := ⟨g, i, none⟩) hgi _).far (p := ⟨g, k, none⟩) hgi _).drew
  have hby : Blk W1 y.b 132 (tcs y k) := by rw [hW1]; exact ((hbk.far (p := ⟨g, i, none⟩) hgk _).far (p := ⟨g, k, none⟩) hgk _).drew
  rw [← hW1]
  have HW1 := Lib.hid hW1
  clear hW1 hci hck hbi hbk hz1 hz2
  have y1 := hby.cell
  have y2 := hby.frozen
  have x1 := hbx.cell
  have x2 := hbx.frozen
  simp only [tcs] at x1 y1
  go_wp2_with fail
  refine late_start (fun w' => w'.cell? ⟨g, i, none⟩ = some (.pointer (some ⟨y.b, 0, none⟩)) ∧ w'.cell? ⟨g, k, none⟩ = some (.pointer (some ⟨x.b, 0, none⟩))) (fun j => j == 12 || j == 15) (by kernel_rfl) ⟨d1, d2⟩ (fun hHeld => ?_)
  first
    | (refine late_skip 0 rfl (by kernel_rfl) (by kernel_rfl) (by kernel_rfl) (by kernel_rfl) (by rfl) (by (first | exact Or.inr (by assumption) | exact Or.inl (by kernel_rfl))) (fun _ _ _ h => h) ?_)
    | (refine late_free 0 (v := ?_) rfl (by kernel_rfl) (by kernel_rfl) (by kernel_rfl) (by kernel_rfl) (by rfl) (by (first | exact Or.inr (by assumption) | exact Or.inl (by kernel_rfl))) (fun _ _ _ h => h) ?_ ?_; rotate_left; · (intro wS; go_simp; try with_reducible rfl))
    | (refine late_pure 0 (v := ?_) rfl (by kernel_rfl) (by kernel_rfl) (by kernel_rfl) (by kernel_rfl) (by rfl) (by assumption) (fun _ _ _ h => h) (by kernel_rfl) (by kernel_rfl) ?_ ?_; rotate_left; · (intro wS hSw; (try dsimp only at hSw); go_simp; try with_reducible rfl))
  simp only [Act.put, List.setIfInBounds_toArray, List.set_cons_zero, List.set_cons_succ]
  first
    | (refine late_skip 1 rfl (by kernel_rfl) (by kernel_rfl) (by kernel_rfl) (by kernel_rfl) (by rfl) (by (first | exact Or.inr (by assumption) | exact Or.inl (by kernel_rfl))) (fun _ _ _ h => h) ?_)
    | (refine late_free 1 (v := ?_) rfl (by kernel_rfl) (by kernel_rfl) (by kernel_rfl) (by kernel_rfl) (by rfl) (by (first | exact Or.inr (by assumption) | exact Or.inl (by kernel_rfl))) (fun _ _ _ h => h) ?_ ?_; rotate_left; · (intro wS; go_simp; try with_reducible rfl))
    | (refine late_pure 1 (v := ?_) rfl (by kernel_rfl) (by kernel_rfl) (by kernel_rfl) (by kernel_rfl) (by rfl) (by assumption) (fun _ _ _ h => h) (by kernel_rfl) (by kernel_rfl) ?_ ?_; rotate_left; · (intro wS hSw; (try dsimp only at hSw); go_simp; try with_reducible rfl))
  simp only [Act.put, List.setIfInBounds_toArray, List.set_cons_zero, List.set_cons_succ]
  first
    | (refine late_skip 2 rfl (by kernel_rfl) (by kernel_rfl) (by kernel_rfl) (by kernel_rfl) (by rfl) (by (first | exact Or.inr (by assumption) | exact Or.inl (by kernel_rfl))) (fun _ _ _ h => h) ?_)
    | (refine late_free 2 (v := ?_) rfl (by kernel_rfl) (by kernel_rfl) (by kernel_rfl) (by kernel_rfl) (by rfl) (by (first | exact Or.inr (by assumption) | exact Or.inl (by kernel_rfl))) (fun _ _ _ h => h) ?_ ?_; rotate_left; · (intro wS; go_simp; try with_reducible rfl))
    | (refine late_pure 2 (v := ?_) rfl (by kernel_rfl) (by kernel_rfl) (by kernel_rfl) (by kernel_rfl) (by rfl) (by assumption) (fun _ _ _ h => h) (by kernel_rfl) (by kernel_rfl) ?_ ?_; rotate_left; · (intro wS hSw; (try dsimp only at hSw); go_simp; try with_reducible rfl))
  simp only [Act.put, List.setIfInBounds_toArray, List.set_cons_zero, List.set_cons_succ]
  first
    | (refine late_skip 3 rfl (by kernel_rfl) (by kernel_rfl) (by kernel_rfl) (by kernel_rfl) (by rfl) (by (first | exact Or.inr (by assumption) | exact Or.inl (by kernel_rfl))) (fun _ _ _ h => h) ?_)
    | (refine late_free 3 (v := ?_) rfl (by kernel_rfl) (by kernel_rfl) (by kernel_rfl) (by kernel_rfl) (by rfl) (by (first | exact Or.inr (by assumption) | exact Or.inl (by kernel_rfl))) (fun _ _ _ h => h) ?_ ?_; rotate_left; · (intro wS; go_simp; try with_reducible rfl))
    | (refine late_pure 3 (v := ?_) rfl (by kernel_rfl) (by kernel_rfl) (by kernel_rfl) (by kernel_rfl) (by rfl) (by assumption) (fun _ _ _ h => h) (by kernel_rfl) (by kernel_rfl) ?_ ?_; rotate_left; · (intro wS hSw; (try dsimp only at hSw); go_simp; try with_reducible rfl))
  simp only [Act.put, List.setIfInBounds_toArray, List.set_cons_zero, List.set_cons_succ]
  first
    | (refine late_skip 4 rfl (by kernel_rfl) (by kernel_rfl) (by kernel_rfl) (by kernel_rfl) (by rfl) (by (first | exact Or.inr (by assumption) | exact Or.inl (by kernel_rfl))) (fun _ _ _ h => h) ?_)
    | (refine late_free 4 (v := ?_) rfl (by kernel_rfl) (by kernel_rfl) (by kernel_rfl) (by kernel_rfl) (by rfl) (by (first | exact Or.inr (by assumption) | exact Or.inl (by kernel_rfl))) (fun _ _ _ h => h) ?_ ?_; rotate_left; · (intro wS; go_simp; try with_reducible rfl))
    | (refine late_pure 4 (v := ?_) rfl (by kernel_rfl) (by kernel_rfl) (by kernel_rfl) (by kernel_rfl) (by rfl) (by assumption) (fun _ _ _ h => h) (by kernel_rfl) (by kernel_rfl) ?_ ?_; rotate_left; · (intro wS hSw; (try dsimp only at hSw); go_simp; try with_reducible rfl))
  simp only [Act.put, List.setIfInBounds_toArray, List.set_cons_zero, List.set_cons_succ]
  first
    | (refine late_skip 5 rfl (by kernel_rfl) (by kernel_rfl) (by kernel_rfl) (by kernel_rfl) (by rfl) (by (first | exact Or.inr (by assumption) | exact Or.inl (by kernel_rfl))) (fun _ _ _ h => h) ?_)
    | (refine late_free 5 (v := ?_) rfl (by kernel_rfl) (by kernel_rfl) (by kernel_rfl) (by kernel_rfl) (by rfl) (by (first | exact Or.inr (by assumption) | exact Or.inl (by kernel_rfl))) (fun _ _ _ h => h) ?_ ?_; rotate_left; · (intro wS; go_simp; try with_reducible rfl))
    | (refine late_pure 5 (v := ?_) rfl (by kernel_rfl) (by kernel_rfl) (by kernel_rfl) (by kernel_rfl) (by rfl) (by assumption) (fun _ _ _ h => h) (by kernel_rfl) (by kernel_rfl) ?_ ?_; rotate_left; · (intro wS hSw; (try dsimp only at hSw); go_simp; try with_reducible rfl))
  simp only [Act.put, List.setIfInBounds_toArray, List.set_cons_zero, List.set_cons_succ]
  first
    | (refine late_skip 6 rfl (by kernel_rfl) (by kernel_rfl) (by kernel_rfl) (by kernel_rfl) (by rfl) (by (first | exact Or.inr (by assumption) | exact Or.inl (by kernel_rfl))) (fun _ _ _ h => h) ?_)
    | (refine late_free 6 (v := ?_) rfl (by kernel_rfl) (by kernel_rfl) (by kernel_rfl) (by kernel_rfl) (by rfl) (by (first | exact Or.inr (by assumption) | exact Or.inl (by kernel_rfl))) (fun _ _ _ h => h) ?_ ?_; rotate_left; · (intro wS; go_simp; try with_reducible rfl))
    | (refine late_pure 6 (v := ?_) rfl (by kernel_rfl) (by kernel_rfl) (by kernel_rfl) (by kernel_rfl) (by rfl) (by assumption) (fun _ _ _ h => h) (by kernel_rfl) (by kernel_rfl) ?_ ?_; rotate_left; · (intro wS hSw; (try dsimp only at hSw); go_simp; try with_reducible rfl))
  simp only [Act.put, List.setIfInBounds_toArray, List.set_cons_zero, List.set_cons_succ]
  first
    | (refine late_skip 7 rfl (by kernel_rfl) (by kernel_rfl) (by kernel_rfl) (by kernel_rfl) (by rfl) (by (first | exact Or.inr (by assumption) | exact Or.inl (by kernel_rfl))) (fun _ _ _ h => h) ?_)
    | (refine late_free 7 (v := ?_) rfl (by kernel_rfl) (by kernel_rfl) (by kernel_rfl) (by kernel_rfl) (by rfl) (by (first | exact Or.inr (by assumption) | exact Or.inl (by kernel_rfl))) (fun _ _ _ h => h) ?_ ?_; rotate_left; · (intro wS; go_simp; try with_reducible rfl))
    | (refine late_pure 7 (v := ?_) rfl (by kernel_rfl) (by kernel_rfl) (by kernel_rfl) (by kernel_rfl) (by rfl) (by assumption) (fun _ _ _ h => h) (by kernel_rfl) (by kernel_rfl) ?_ ?_; rotate_left; · (intro wS hSw; (try dsimp only at hSw); go_simp; try with_reducible rfl))
  simp only [Act.put, List.setIfInBounds_toArray, List.set_cons_zero, List.set_cons_succ]
  first
    | (refine late_skip 8 rfl (by kernel_rfl) (by kernel_rfl) (by kernel_rfl) (by kernel_rfl) (by rfl) (by (first | exact Or.inr (by assumption) | exact Or.inl (by kernel_rfl))) (fun _ _ _ h => h) ?_)
    | (refine late_free 8 (v := ?_) rfl (by kernel_rfl) (by kernel_rfl) (by kernel_rfl) (by kernel_rfl) (by rfl) (by (first | exact Or.inr (by assumption) | exact Or.inl (by kernel_rfl))) (fun _ _ _ h => h) ?_ ?_; rotate_left; · (intro wS; go_simp; try with_reducible rfl))
    | (refine late_pure 8 (v := ?_) rfl (by kernel_rfl) (by kernel_rfl) (by kernel_rfl) (by kernel_rfl) (by rfl) (by assumption) (fun _ _ _ h => h) (by kernel_rfl) (by kernel_rfl) ?_ ?_; rotate_left; · (intro wS hSw; (try dsimp only at hSw); go_simp; try with_reducible rfl))
  simp only [Act.put, List.setIfInBounds_toArray, List.set_cons_zero, List.set_cons_succ]
  first
    | (refine late_skip 9 rfl (by kernel_rfl) (by kernel_rfl) (by kernel_rfl) (by kernel_rfl) (by rfl) (by (first | exact Or.inr (by assumption) | exact Or.inl (by kernel_rfl))) (fun _ _ _ h => h) ?_)
    | (refine late_free 9 (v := ?_) rfl (by kernel_rfl) (by kernel_rfl) (by kernel_rfl) (by kernel_rfl) (by rfl) (by (first | exact Or.inr (by assumption) | exact Or.inl (by kernel_rfl))) (fun _ _ _ h => h) ?_ ?_; rotate_left; · (intro wS; go_simp; try with_reducible rfl))
    | (refine late_pure 9 (v := ?_) rfl (by kernel_rfl) (by kernel_rfl) (by kernel_rfl) (by kernel_rfl) (by rfl) (by assumption) (fun _ _ _ h => h) (by kernel_rfl) (by kernel_rfl) ?_ ?_; rotate_left; · (intro wS hSw; (try dsimp only at hSw); go_simp; try with_reducible rfl))
  simp only [Act.put, List.setIfInBounds_toArray, List.set_cons_zero, List.set_cons_succ]
  first
    | (refine late_skip 10 rfl (by kernel_rfl) (by kernel_rfl) (by kernel_rfl) (by kernel_rfl) (by rfl) (by (first | exact Or.inr (by assumption) | exact Or.inl (by kernel_rfl))) (fun _ _ _ h => h) ?_)
    | (refine late_free 10 (v := ?_) rfl (by kernel_rfl) (by kernel_rfl) (by kernel_rfl) (by kernel_rfl) (by rfl) (by (first | exact Or.inr (by assumption) | exact Or.inl (by kernel_rfl))) (fun _ _ _ h => h) ?_ ?_; rotate_left; · (intro wS; go_simp; try with_reducible rfl))
    | (refine late_pure 10 (v := ?_) rfl (by kernel_rfl) (by kernel_rfl) (by kernel_rfl) (by kernel_rfl) (by rfl) (by assumption) (fun _ _ _ h => h) (by kernel_rfl) (by kernel_rfl) ?_ ?_; rotate_left; · (intro wS hSw; (try dsimp only at hSw); go_simp; try with_reducible rfl))
  simp only [Act.put, List.setIfInBounds_toArray, List.set_cons_zero, List.set_cons_succ]
  first
    | (refine late_skip 11 rfl (by kernel_rfl) (by kernel_rfl) (by kernel_rfl) (by kernel_rfl) (by rfl) (by (first | exact Or.inr (by assumption) | exact Or.inl (by kernel_rfl))) (fun _ _ _ h => h) ?_)
    | (refine late_free 11 (v := ?_) rfl (by kernel_rfl) (by kernel_rfl) (by kernel_rfl) (by kernel_rfl) (by rfl) (by (first | exact Or.inr (by assumption) | exact Or.inl (by kernel_rfl))) (fun _ _ _ h => h) ?_ ?_; rotate_left; · (intro wS; go_simp; try with_reducible rfl))
    | (refine late_pure 11 (v := ?_) rfl (by kernel_rfl) (by kernel_rfl) (by kernel_rfl) (by kernel_rfl) (by rfl) (by assumption) (fun _ _ _ h => h) (by kernel_rfl) (by kernel_rfl) ?_ ?_; rotate_left; · (intro wS hSw; (try dsimp only at hSw); go_simp; try with_reducible rfl))
  simp only [Act.put, List.setIfInBounds_toArray, List.set_cons_zero, List.set_cons_succ]
  refine late_last 12 rfl (by kernel_rfl) (by kernel_rfl) (fun K hK => ?_)
  go_simp
  refine hK.out _ _ ?_
  clear hK K
  try simp only [Act.put, List.setIfInBounds_toArray, List.set_cons_zero, List.set_cons_succ]
  first
    | (refine late_skip 13 rfl (by kernel_rfl) (by kernel_rfl) (by kernel_rfl) (by kernel_rfl) (by rfl) (by (first | exact Or.inr (by assumption) | exact Or.inl (by kernel_rfl))) (fun _ _ _ h => h) ?_)
    | (refine late_free 13 (v := ?_) rfl (by kernel_rfl) (by kernel_rfl) (by kernel_rfl) (by kernel_rfl) (by rfl) (by (first | exact Or.inr (by assumption) | exact Or.inl (by kernel_rfl))) (fun _ _ _ h => h) ?_ ?_; rotate_left; · (intro wS; go_simp; try with_reducible rfl))
    | (refine late_pure 13 (v := ?_) rfl (by kernel_rfl) (by kernel_rfl) (by kernel_rfl) (by kernel_rfl) (by rfl) (by assumption) (fun _ _ _ h => h) (by kernel_rfl) (by kernel_rfl) ?_ ?_; rotate_left; · (intro wS hSw; (try dsimp only at hSw); go_simp; try with_reducible rfl))
  simp only [Act.put, List.setIfInBounds_toArray, List.set_cons_zero, List.set_cons_succ]
  first
    | (refine late_skip 14 rfl (by kernel_rfl) (by kernel_rfl) (by kernel_rfl) (by kernel_rfl) (by rfl) (by (first | exact Or.inr (by assumption) | exact Or.inl (by kernel_rfl))) (fun _ _ _ h => h) ?_)
    | (refine late_free 14 (v := ?_) rfl (by kernel_rfl) (by kernel_rfl) (by kernel_rfl) (by kernel_rfl) (by rfl) (by (first | exact Or.inr (by assumption) | exact Or.inl (by kernel_rfl))) (fun _ _ _ h => h) ?_ ?_; rotate_left; · (intro wS; go_simp; try with_reducible rfl))
    | (refine late_pure 14 (v := ?_) rfl (by kernel_rfl) (by kernel_rfl) (by kernel_rfl) (by kernel_rfl) (by rfl) (by assumption) (fun _ _ _ h => h) (by kernel_rfl) (by kernel_rfl) ?_ ?_; rotate_left; · (intro wS hSw; (try dsimp only at hSw); go_simp; try with_reducible rfl))
  simp only [Act.put, List.setIfInBounds_toArray, List.set_cons_zero, List.set_cons_succ]
  have x3 := (hbx.far (p := ⟨y.b, 2, none⟩) hap (.int .i64 (i : Int))).cell
  have x4 := (hbx.far (p := ⟨y.b, 2, none⟩) hap (.int .i64 (i : Int))).frozen
  simp only [tcs] at x3
  refine late_last 15 rfl (by kernel_rfl) (by kernel_rfl) (fun K hK => ?_)
  go_simp
  refine hK.out _ _ ?_
  clear hK K
  try simp only [Act.put, List.setIfInBounds_toArray, List.set_cons_zero, List.set_cons_succ]
  refine late_done (by kernel_rfl) ?_
  go_wp2_with fail
  rw [HW1.out]
  go_end0
  exact ⟨rfl, hmv.out.drewN 2⟩
end Go.Proofs.Ythdenkmmiadeiaa
