/- Contracts: nothing is there (package diag), and the law's own sure. -/
import Derived.Test.YtmpjdploacfmeabDiag6
import Derived.Test.YtmpjdploacfmeabBytes
namespace Go.Proofs.Ytmpjdploacfmeab
set_option linter.unusedSimpArgs false
set_option linter.unusedVariables false
open Go.RowKit

set_option maxHeartbeats 400000 in
theorem diag_do_nil (v : Value) (w : World) : Calls Try.prog 7 #[.pointer none, v] w fun e w' => e = .returned (.tuple #[.slice none 0 0, .int .i64 0, .int .i64 11]) ∧ w' = w := by
  go_enter Try.func7, Try.ntmps7
  go_wp2_with fail
  refine (diag_none_nil _).mono ?_
  rintro e w1 ⟨rfl, rfl⟩
  go_wp2_with fail
  go_ret3
  exact ⟨rfl, rfl⟩
set_option maxHeartbeats 400000 in
theorem diag_count_nil (i : Int) (w : World) : Calls Try.prog 8 #[.pointer none, .int .i64 i] w fun e w' => e = .returned (.int .i64 11) ∧ w' = w := by
  go_enter Try.func8, Try.ntmps8
  go_wp2_with fail
  refine (diag_none_nil _).mono ?_
  rintro e w1 ⟨rfl, rfl⟩
  go_wp2_with fail
  go_ret
  exact ⟨rfl, rfl⟩
set_option maxHeartbeats 400000 in
theorem diag_listening_nil (w : World) : Calls Try.prog 12 #[.pointer none] w fun e w' => e = .returned (.bool false) ∧ w' = w := by
  go_enter Try.func12, Try.ntmps12
  go_wp2_with fail
  refine (diag_none_nil _).mono ?_
  rintro e w1 ⟨rfl, rfl⟩
  go_wp2_with fail
  go_ret
  exact ⟨rfl, rfl⟩

theorem rd4 (w : World) (d0 d1 d2 d3 : Int) : Rd (w.alloc (.cells #[.int .u8 d0, .int .u8 d1, .int .u8 d2, .int .u8 d3] 5)) 1 (some ⟨w.heap.size, 0, none⟩) 4 (nums .u8 [d0, d1, d2, d3]) :=
  Rd.of_blk (Blk.new w _ _) rfl (fun j u hu => by rw [Nat.zero_add]; simpa [nums] using hu)
/-- Do of four bytes that are written out. -/
theorem do4 {b tb : Nat} {s : Dg} {w : World} (hds : DgS w b tb s) (d0 d1 d2 d3 : Int) (h8 : bytes8 [d0, d1, d2, d3]) {y : Dg × List Int × Int × Int} (hy : doS s [d0, d1, d2, d3] = y) :
    Calls Try.prog 7 #[.pointer (some ⟨b, 0, none⟩), .slice (some ⟨w.heap.size, 0, none⟩) 4 4] (w.alloc (.cells #[.int .u8 d0, .int .u8 d1, .int .u8 d2, .int .u8 d3] 5))
      fun e w' => (∃ A k cp, e = .returned (.tuple #[.slice A k cp, .int .i64 y.2.2.1, .int .i64 y.2.2.2]) ∧ Rd w' 1 A k (nums .u8 y.2.1) ∧ k ≤ cp ∧ cp ≤ 9223372036854775807 ∧ ∀ ad, A = some ad → w.heap.size ≤ ad.block) ∧ DgS w' b tb y.1 ∧ Fr (fun i => i = b ∨ i = tb) w w' := by
  subst hy
  refine (diag_do b tb s _ 4 4 _ _ (DS.nob hds ((Fr.refl nob w).alloc _)) (rd4 w d0 d1 d2 d3) h8 (by omega) (by omega) (by omega)).mono ?_
  rintro e w' ⟨A, k, cp, he, hr, hk, hc, hn, hd, hf⟩
  exact ⟨⟨A, k, cp, he, hr, hk, hc, fun ad h => by have := hn ad h; simp at this; omega⟩, hd, ((Fr.refl _ w).alloc _).trans hf (fun _ _ h => h)⟩
def s1 : Dg := ⟨[1, 0, 0, 0, 0, 0, 0, 0], 0, false, 10⟩
theorem sure1 : doS s1 [0, 11, 0, 0] = (s1, [0, 11, 0, 1], 0, 0) := by rfl
theorem sure2 : doS s1 [0, 5, 0, 0] = (s1, [], 0, 1) := by rfl
theorem sure3 : doS s1 [0, 1, 0, 1] = (s1, [], 0, 3) := by rfl
theorem sure4 : doS s1 [0, 4, 0, 0] = ({ s1 with ls := true }, [], 3, 0) := by rfl
theorem sure5 : doS { s1 with ls := true } [0, 1, 255, 0] = (⟨eight0, 0, false, 10⟩, [0, 1, 255, 0], 2, 0) := by rfl

set_option maxHeartbeats 2000000 in
set_option maxRecDepth 100000 in
theorem diag_sure (w : World) : Calls Try.prog 5 #[] w fun e w' => e = .returned (.bool true) ∧ Fr nob w w' := by
  go_enter Try.func5, Try.ntmps5
  go_wp2_with fail
  refine (diag_new _).mono ?_
  rintro e w1 ⟨b, tb, rfl, hds, hf1, hb, htb⟩
  go_wp2_with fail
  refine (diag_count b tb _ _ _ 0 _ _ hds).mono ?_
  rintro e w2 ⟨rfl, hds2, hf2⟩
  have hds2' : DgS w2 b tb s1 := hds2
  have F2 := hf1.newer hf2 (fun i hi => by omega)
  clear hds hds2 hf1 hf2
  go_wp2_with fail
  refine (do4 hds2' 0 11 0 0 (by unfold bytes8; decide) sure1).mono ?_
  rintro e w3 ⟨⟨A3, k3, c3, rfl, hr3, hk3, hc3, hn3⟩, hds3, hf3⟩
  have hb3 := hds2'.lt
  have ht3 := hds2'.2.1.2.2.lt
  have F3 := F2.newer hf3 (fun i hi => by omega)
  clear hds2' hf3
  go_wp2_with fail
  refine (do4 hds3 0 5 0 0 (by unfold bytes8; decide) sure2).mono ?_
  rintro e w4 ⟨⟨A4, k4, c4, rfl, hr4, hk4, hc4, _⟩, hds4, hf4⟩
  dsimp only at hds4 hr4 ⊢
  have hz4 := hf4.size
  clear hr4 hk4 hc4
  go_wp2_with fail
  refine (do4 hds4 0 1 0 1 (by unfold bytes8; decide) sure3).mono ?_
  rintro e w5 ⟨⟨A5, k5, c5, rfl, hr5, hk5, hc5, _⟩, hds5, hf5⟩
  dsimp only at hds5 hr5 ⊢
  have hz5 := hf5.size
  clear hr5 hk5 hc5
  go_wp2_with fail
  refine (do4 hds5 0 4 0 0 (by unfold bytes8; decide) sure4).mono ?_
  rintro e w6 ⟨⟨A6, k6, c6, rfl, hr6, hk6, hc6, _⟩, hds6, hf6⟩
  dsimp only at hds6 hr6 ⊢
  have hz6 := hf6.size
  clear hr6 hk6 hc6
  go_wp2_with fail
  refine (diag_listening b tb _ _ _ true _ hds6).mono ?_
  rintro e w7 ⟨rfl, rfl⟩
  go_wp2_with fail
  refine (do4 hds6 0 1 255 0 (by unfold bytes8; decide) sure5).mono ?_
  rintro e w8 ⟨⟨A8, k8, c8, rfl, hr8, hk8, hc8, _⟩, hds8, hf8⟩
  dsimp only at hds8 hr8 ⊢
  have hz8 := hf8.size
  clear hr8 hk8 hc8
  have g34 := hf4.trans hf5 (fun _ _ h => h)
  have g36 := (g34.trans hf6 (fun _ _ h => h)).trans hf8 (fun _ _ h => h)
  have F8 := F3.newer g36 (fun i hi => by omega)
  have hr9 := hr3.fr g36 (fun ad h => by have := hn3 ad h; simp only [not_or]; omega)
  have hds9 := DS.nob hds8 ((Fr.refl nob w8).alloc (.cells #[.int .u8 0, .int .u8 11, .int .u8 0, .int .u8 1] 5))
  clear g34 g36 hf4 hf5 hf6 hf8 hds3 hds4 hds5 hds6 hr3 hn3
  go_wp2_with fail
  refine (diag_do_nil _ _).mono ?_
  rintro e w10 ⟨rfl, rfl⟩
  go_wp2_with fail
  refine (bytes_any A3 _ k3 4 _ _ [0, 11, 0, 1] [0, 11, 0, 1] _ (hr9.alloc _) (rd4 w10 0 11 0 1) (by omega) (by omega)).mono ?_
  rintro e w11 ⟨rfl, k11, rfl⟩
  have hsame : sameInts [0, 11, 0, 1] [0, 11, 0, 1] = true := by rfl
  rw [hsame]
  have hds11 := DS.nob hds9 ((Fr.refl nob _).drewN k11)
  go_wp2_with fail
  refine (diag_listening b tb _ _ _ false _ hds11).mono ?_
  rintro e w12 ⟨rfl, rfl⟩
  go_wp2_with fail
  refine (diag_delim b tb _ _ _ _ _ hds11).mono ?_
  rintro e w13 ⟨rfl, rfl⟩
  go_wp2_with fail
  refine (diag_count_nil _ _).mono ?_
  rintro e w14 ⟨rfl, rfl⟩
  go_wp2_with fail
  refine (diag_listening_nil _).mono ?_
  rintro e w15 ⟨rfl, rfl⟩
  go_wp2_with fail
  go_ret
  exact ⟨rfl, (F8.alloc _).drewN _⟩
end Go.Proofs.Ytmpjdploacfmeab
