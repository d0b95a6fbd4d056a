/- Contracts: counters told, a restart, which number does what (package diag). -/
import Derived.Test.YtmpjdploacfmeabDiag2
namespace Go.Proofs.Ytmpjdploacfmeab
set_option linter.unusedSimpArgs false
set_option linter.unusedVariables false
open Go.RowKit

section
variable (b tb g : Nat) (c : List Int) (r dl n x what : Int) (ls : Bool) (v : Value) (w : World)
set_option maxHeartbeats 1000000 in
theorem diag_counter (h : DS w b tb c r ls dl) (hq : QS w g n x v what) (hn : 11 ≤ n ∧ n < 19) :
    Calls Try.prog 32 #[.pointer (some ⟨b, 0, none⟩), .pointer (some ⟨g, 0, none⟩)] w (DoneQ b tb g c r ls dl n x (some (put2s [n, c.getD (n - 11).toNat 0])) v what w) := by
  have hwr : IntKind.i64.wrap (n - 11) = n - 11 := by
    simp [IntKind.wrap, IntKind.bits, IntKind.signed]
    omega
  have hne : b ≠ g := h.1.ne_ hq (by decide)
  have hne' : tb ≠ g := h.2.1.2.2.ne_ hq (by decide)
  obtain ⟨y, hy⟩ : ∃ y, y = c.getD (n - 11).toNat 0 := ⟨_, rfl⟩
  have hyb := h.2.1.at_ (n - 11).toNat (by omega)
  rw [← hy] at hyb ⊢
  have HY := Lib.hid hy
  clear hy
  go_enter Try.func32, Try.ntmps32
  go_wp2_with fail
  refine wp_region_held_drew (S := fun w' => w'.cell? ⟨b, 0, none⟩ = some (.pointer (some ⟨tb, 0, none⟩)) ∧ w'.cell? ⟨g, 0, none⟩ = some (.int .i64 n)) (by kernel_rfl) (⟨h.at_ 0, hq.at_ 0⟩) (fun hHeld => ?_)
  first
    | (refine mix_skip 0 rfl (by kernel_rfl) (by kernel_rfl) (by kernel_rfl) (by rfl) (by assumption) (fun _ _ _ h => h) ?_)
    | (refine mix_pure 0 (v := ?_) rfl (by kernel_rfl) (by kernel_rfl) (by kernel_rfl) (by rfl) (by assumption) (fun _ _ _ h => h) ?_ ?_; rotate_left; · (intro wS hSw; (try dsimp only at hSw); go_simp; try with_reducible rfl))
  simp only [Act.put, List.setIfInBounds_toArray, List.set_cons_zero, List.set_cons_succ]
  first
    | (refine mix_skip 1 rfl (by kernel_rfl) (by kernel_rfl) (by kernel_rfl) (by rfl) (by assumption) (fun _ _ _ h => h) ?_)
    | (refine mix_pure 1 (v := ?_) rfl (by kernel_rfl) (by kernel_rfl) (by kernel_rfl) (by rfl) (by assumption) (fun _ _ _ h => h) ?_ ?_; rotate_left; · (intro wS hSw; (try dsimp only at hSw); go_simp; try with_reducible rfl))
  simp only [Act.put, List.setIfInBounds_toArray, List.set_cons_zero, List.set_cons_succ]
  first
    | (refine mix_skip 2 rfl (by kernel_rfl) (by kernel_rfl) (by kernel_rfl) (by rfl) (by assumption) (fun _ _ _ h => h) ?_)
    | (refine mix_pure 2 (v := ?_) rfl (by kernel_rfl) (by kernel_rfl) (by kernel_rfl) (by rfl) (by assumption) (fun _ _ _ h => h) ?_ ?_; rotate_left; · (intro wS hSw; (try dsimp only at hSw); go_simp; try with_reducible rfl))
  simp only [Act.put, List.setIfInBounds_toArray, List.set_cons_zero, List.set_cons_succ]
  first
    | (refine mix_skip 3 rfl (by kernel_rfl) (by kernel_rfl) (by kernel_rfl) (by rfl) (by assumption) (fun _ _ _ h => h) ?_)
    | (refine mix_pure 3 (v := ?_) rfl (by kernel_rfl) (by kernel_rfl) (by kernel_rfl) (by rfl) (by assumption) (fun _ _ _ h => h) ?_ ?_; rotate_left; · (intro wS hSw; (try dsimp only at hSw); go_simp; try with_reducible rfl))
  simp only [Act.put, List.setIfInBounds_toArray, List.set_cons_zero, List.set_cons_succ]
  first
    | (refine mix_skip 4 rfl (by kernel_rfl) (by kernel_rfl) (by kernel_rfl) (by rfl) (by assumption) (fun _ _ _ h => h) ?_)
    | (refine mix_pure 4 (v := ?_) rfl (by kernel_rfl) (by kernel_rfl) (by kernel_rfl) (by rfl) (by assumption) (fun _ _ _ h => h) ?_ ?_; rotate_left; · (intro wS hSw; (try dsimp only at hSw); go_simp; try with_reducible rfl))
  simp only [Act.put, List.setIfInBounds_toArray, List.set_cons_zero, List.set_cons_succ]
  first
    | (refine mix_skip 5 rfl (by kernel_rfl) (by kernel_rfl) (by kernel_rfl) (by rfl) (by assumption) (fun _ _ _ h => h) ?_)
    | (refine mix_pure 5 (v := ?_) rfl (by kernel_rfl) (by kernel_rfl) (by kernel_rfl) (by rfl) (by assumption) (fun _ _ _ h => h) ?_ ?_; rotate_left; · (intro wS hSw; (try dsimp only at hSw); go_simp; try with_reducible rfl))
  simp only [Act.put, List.setIfInBounds_toArray, List.set_cons_zero, List.set_cons_succ]
  first
    | (refine mix_skip 6 rfl (by kernel_rfl) (by kernel_rfl) (by kernel_rfl) (by rfl) (by assumption) (fun _ _ _ h => h) ?_)
    | (refine mix_pure 6 (v := ?_) rfl (by kernel_rfl) (by kernel_rfl) (by kernel_rfl) (by rfl) (by assumption) (fun _ _ _ h => h) ?_ ?_; rotate_left; · (intro wS hSw; (try dsimp only at hSw); go_simp; try with_reducible rfl))
  simp only [Act.put, List.setIfInBounds_toArray, List.set_cons_zero, List.set_cons_succ]
  first
    | (refine mix_skip 7 rfl (by kernel_rfl) (by kernel_rfl) (by kernel_rfl) (by rfl) (by assumption) (fun _ _ _ h => h) ?_)
    | (refine mix_pure 7 (v := ?_) rfl (by kernel_rfl) (by kernel_rfl) (by kernel_rfl) (by rfl) (by assumption) (fun _ _ _ h => h) ?_ ?_; rotate_left; · (intro wS hSw; (try dsimp only at hSw); go_simp; try with_reducible rfl))
  simp only [Act.put, List.setIfInBounds_toArray, List.set_cons_zero, List.set_cons_succ]
  first
    | (refine mix_skip 8 rfl (by kernel_rfl) (by kernel_rfl) (by kernel_rfl) (by rfl) (by assumption) (fun _ _ _ h => h) ?_)
    | (refine mix_pure 8 (v := ?_) rfl (by kernel_rfl) (by kernel_rfl) (by kernel_rfl) (by rfl) (by assumption) (fun _ _ _ h => h) ?_ ?_; rotate_left; · (intro wS hSw; (try dsimp only at hSw); go_simp; try with_reducible rfl))
  simp only [Act.put, List.setIfInBounds_toArray, List.set_cons_zero, List.set_cons_succ]
  refine mix_one 9 rfl (by kernel_rfl) (fun K hK => ?_)
  go_simp
  refine (tally_get tb c (n - 11) w.drew ⟨h.2.1.1, h.2.1.2.1, h.2.1.2.2.drew⟩ (by omega) (by omega)).mono ?_
  rintro e w1 ⟨rfl, hw1⟩
  rw [← HY.out]
  subst hw1
  refine hK.out _ _ hHeld (fun hHeld0 => ?_)
  clear hK K
  try simp only [Act.put, List.setIfInBounds_toArray, List.set_cons_zero, List.set_cons_succ]
  first
    | (refine mix_skip 10 rfl (by kernel_rfl) (by kernel_rfl) (by kernel_rfl) (by rfl) (by assumption) (fun _ _ _ h => h) ?_)
    | (refine mix_pure 10 (v := ?_) rfl (by kernel_rfl) (by kernel_rfl) (by kernel_rfl) (by rfl) (by assumption) (fun _ _ _ h => h) ?_ ?_; rotate_left; · (intro wS hSw; (try dsimp only at hSw); go_simp; try with_reducible rfl))
  simp only [Act.put, List.setIfInBounds_toArray, List.set_cons_zero, List.set_cons_succ]
  first
    | (refine mix_skip 11 rfl (by kernel_rfl) (by kernel_rfl) (by kernel_rfl) (by rfl) (by assumption) (fun _ _ _ h => h) ?_)
    | (refine mix_pure 11 (v := ?_) rfl (by kernel_rfl) (by kernel_rfl) (by kernel_rfl) (by rfl) (by assumption) (fun _ _ _ h => h) ?_ ?_; rotate_left; · (intro wS hSw; (try dsimp only at hSw); go_simp; try with_reducible rfl))
  simp only [Act.put, List.setIfInBounds_toArray, List.set_cons_zero, List.set_cons_succ]
  first
    | (refine mix_skip 12 rfl (by kernel_rfl) (by kernel_rfl) (by kernel_rfl) (by rfl) (by assumption) (fun _ _ _ h => h) ?_)
    | (refine mix_pure 12 (v := ?_) rfl (by kernel_rfl) (by kernel_rfl) (by kernel_rfl) (by rfl) (by assumption) (fun _ _ _ h => h) ?_ ?_; rotate_left; · (intro wS hSw; (try dsimp only at hSw); go_simp; try with_reducible rfl))
  simp only [Act.put, List.setIfInBounds_toArray, List.set_cons_zero, List.set_cons_succ]
  first
    | (refine mix_skip 13 rfl (by kernel_rfl) (by kernel_rfl) (by kernel_rfl) (by rfl) (by assumption) (fun _ _ _ h => h) ?_)
    | (refine mix_pure 13 (v := ?_) rfl (by kernel_rfl) (by kernel_rfl) (by kernel_rfl) (by rfl) (by assumption) (fun _ _ _ h => h) ?_ ?_; rotate_left; · (intro wS hSw; (try dsimp only at hSw); go_simp; try with_reducible rfl))
  simp only [Act.put, List.setIfInBounds_toArray, List.set_cons_zero, List.set_cons_succ]
  first
    | (refine mix_skip 14 rfl (by kernel_rfl) (by kernel_rfl) (by kernel_rfl) (by rfl) (by assumption) (fun _ _ _ h => h) ?_)
    | (refine mix_pure 14 (v := ?_) rfl (by kernel_rfl) (by kernel_rfl) (by kernel_rfl) (by rfl) (by assumption) (fun _ _ _ h => h) ?_ ?_; rotate_left; · (intro wS hSw; (try dsimp only at hSw); go_simp; try with_reducible rfl))
  simp only [Act.put, List.setIfInBounds_toArray, List.set_cons_zero, List.set_cons_succ]
  refine wpAnyH_done (by kernel_rfl) ?_ _
  go_wp2_with fail
  refine (diag_tells g n x y what v w.drew (Blk.drew hq) (by omega) (by omega)).mono ?_
  rintro e w2 ⟨rfl, A, cp, hq2, hown, hf⟩
  go_wp2_with fail
  go_end0
  exact ⟨rfl, h.fr (Fr.trans (Fr.drew (Fr.refl (fun k => k = g) w)) hf (fun _ _ h => h)) hne hne', (Fr.drew (Fr.refl (fun k => k = b ∨ k = tb ∨ k = g) w)).trans hf (fun k _ hk => .inr (.inr hk)), A, cp, hq2, hown⟩
set_option maxHeartbeats 1000000 in
theorem diag_restart (h : DS w b tb c r ls dl) (hq : QS w g n x v what) :
    Calls Try.prog 34 #[.pointer (some ⟨b, 0, none⟩), .pointer (some ⟨g, 0, none⟩)] w (DoneQ b tb g (List.replicate 8 0) r false dl n x none v (if x = 65280 then 2 else 1) w) := by
  have q := h.at_
  have hne : b ≠ g := h.1.ne_ hq (by decide)
  have hne' : tb ≠ g := h.2.1.2.2.ne_ hq (by decide)
  have hnt : b ≠ tb := h.1.ne_ h.2.1.2.2 (by decide)
  obtain ⟨wh, hwh⟩ : ∃ wh, wh = (if x = 65280 then (2 : Int) else 1) := ⟨_, rfl⟩
  rw [← hwh]
  have HW := Lib.hid hwh
  clear hwh
  go_enter Try.func34, Try.ntmps34
  go_wp2_with fail
  refine (tally_clear tb c _ h.2.1).mono ?_
  rintro e w2 ⟨rfl, hts, hf⟩
  have hb2 := h.1.fr hf hnt
  have hg2 : QS w2 g n x v what := Blk.fr hq hf (fun e => hne' e.symm)
  have q1 : ∀ i, w2.frozen? ⟨b, i, none⟩ = false := fun i => hb2.frozen i
  have q2 : ∀ i, w2.cell? ⟨b, i, none⟩ = #[Value.pointer (some ⟨tb, 0, none⟩), .int .u16 r, .bool ls, .int .u8 dl][i]? := fun i => hb2.cell i
  have q3 := hg2.at_
  have q4 := hg2.froz
  have hf1 := ((hf.more (T := fun k => k = b ∨ k = tb ∨ k = g) (fun k hk => .inr (.inl hk))).set_ (p := ⟨b, 2, none⟩) (.inl (.inl rfl)) (.bool false)).set_ (p := ⟨g, 3, none⟩) (.inl (.inr (.inr rfl))) (.int .i64 1)
  have hb3 : Blk (w2.setCell ⟨b, 2, none⟩ (.bool false)) b 53 (dcells tb r false dl) := by simpa [dcells] using hb2.set_ 2 (.bool false)
  have hb4 := hb3.far (p := ⟨g, 3, none⟩) hne (.int .i64 1)
  have ht4 := (hts.2.2.far (p := ⟨b, 2, none⟩) (fun e => hnt e.symm) (.bool false)).far (p := ⟨g, 3, none⟩) hne' (.int .i64 1)
  have hg4 := (Blk.far hg2 (p := ⟨b, 2, none⟩) (fun e => hne e.symm) (.bool false)).set_ 3 (.int .i64 1)
  by_cases hx : x = 65280
  · have hxe : (x == 65280) = true := by simpa using hx
    obtain rfl : wh = 2 := by rw [HW.out, if_pos hx]
    have HX := Lib.hid hx
    clear hx
    go_wp2_with fail
    go_end0
    exact ⟨rfl, ⟨hb4.far (p := ⟨g, 3, none⟩) hne _, ⟨hts.1, hts.2.1, ht4.far (p := ⟨g, 3, none⟩) hne' _⟩, h.2.2⟩, hf1.set_ (p := ⟨g, 3, none⟩) (.inl (.inr (.inr rfl))) (.int .i64 2), by simpa [QS] using hg4.set_ 3 (.int .i64 2)⟩
  · have hxe : (x == 65280) = false := by simpa using hx
    obtain rfl : wh = 1 := by rw [HW.out, if_neg hx]
    have HX := Lib.hid hx
    clear hx
    go_wp2_with fail
    go_end0
    exact ⟨rfl, ⟨hb4, ⟨hts.1, hts.2.1, ht4⟩, h.2.2⟩, hf1, by simpa [QS] using hg4⟩
end
end Go.Proofs.Ytmpjdploacfmeab
