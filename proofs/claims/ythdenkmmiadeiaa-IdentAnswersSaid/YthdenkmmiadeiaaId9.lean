/- The law's own sure of layer 21. -/
import Derived.Test.YthdenkmmiadeiaaId8
namespace Go.Proofs.Ythdenkmmiadeiaa
set_option linter.unusedSimpArgs false
set_option linter.unusedVariables false
open Go.RowKit

def L0 : List Ob := [⟨0, none, 0, 0, []⟩, ⟨1, none, 0, 0, []⟩, ⟨2, none, 0, 0, []⟩]
def S0 : List (Int × List Int) := [(0, []), (1, []), (2, [])]
def b0 : List Int := [14, 1, 129, 0, 0, 3, 0, 0, 1, 0, 2, 0]
def q0 : Ps := ⟨1, 1, false, 0, S0⟩
theorem L0_s : L0.map Ob.s = S0 := rfl
theorem L0_obs (w : World) : Obs (w.alloc (.cells #[.int .i64 0, .slice none 0 0, .int .i64 1, .slice none 0 0, .int .i64 2, .slice none 0 0] 49)) (some ⟨w.heap.size, 0, none⟩) 3 L0 := by
  refine ⟨Rd.of_blk (Blk.new w _ _) rfl (fun j u hu => ?_), fun x hx => ?_⟩
  · rw [Nat.zero_add]
    simpa [L0, Ob.cs] using hu
  · simp only [L0, List.mem_cons, List.not_mem_nil, or_false] at hx
    rcases hx with rfl | rfl | rfl <;> exact ⟨Rd.nil_ _ _ _, by simp, by simp⟩
theorem Obs.alloc {w : World} {A : Option Addr} {n : Nat} {L : List Ob} (h : Obs w A n L) (o : Obj) : Obs (w.alloc o) A n L := h.nob ((Fr.refl _ _).alloc o)
theorem S0_right : rightS S0 = true := by decide +kernel
theorem ans1 : answerS S0 [14, 1, 0] = (b0, 0) := by decide +kernel
theorem ans4 : answerS S0 [14, 4, 9] = ([], 2) := by decide +kernel
theorem ans0 : answerS [] [14, 1, 0] = ([], 11) := by decide +kernel
theorem write0 : writeS q0 = some b0 := by decide +kernel
theorem read0 : readS b0 = some q0 := (read_write write0).1
theorem all0 : allS S0 1 = S0 := by decide +kernel
theorem pcs0 : pcs S0 = 1 := by
  have h : fitN 6 S0 = 3 := by decide +kernel
  rw [pcs_step (by simp [S0]) (by rw [h]; omega), h]
  show 1 + pcs [] = 1
  rw [pcs_nil]
theorem b0_8 : bytes8 b0 := by unfold bytes8; decide +kernel
theorem three8 (a b c : Int) (h : (0 ≤ a ∧ a ≤ 255) ∧ (0 ≤ b ∧ b ≤ 255) ∧ (0 ≤ c ∧ c ≤ 255)) : bytes8 [a, b, c] := by
  intro z hz
  simp at hz
  rcases hz with rfl | rfl | rfl
  · exact h.1
  · exact h.2.1
  · exact h.2.2

set_option maxHeartbeats 4000000 in
set_option maxRecDepth 100000 in
theorem ident_sure (w : World) : Calls Try.prog 12 #[] w fun e w' => e = .returned (.bool true) ∧ Fr nob w w' := by
  have hO := L0_obs w
  have hf0 := (Fr.refl nob w).alloc (.cells #[.int .i64 0, .slice none 0 0, .int .i64 1, .slice none 0 0, .int .i64 2, .slice none 0 0] 49)
  obtain ⟨W, hW⟩ : ∃ W, W = w.alloc (.cells #[.int .i64 0, .slice none 0 0, .int .i64 1, .slice none 0 0, .int .i64 2, .slice none 0 0] 49) := ⟨_, rfl⟩
  have hrW := rd3 W 14 1 0
  have hzW : W.heap.size = w.heap.size + 1 := by rw [hW]; simp
  rw [← hW] at hO hf0
  rw [hzW] at hrW
  have HW := Lib.hid hW
  clear hW hzW
  go_enter Try.func12, Try.ntmps12
  go_wp2_with fail
  rw [← HW.out]
  have ha := ident_answer _ 3 3 L0 _ 3 3 [14, 1, 0] _ (hO.alloc (.cells #[.int .u8 14, .int .u8 1, .int .u8 0] 5)) (by omega) (by omega) (by omega) hrW (three8 _ _ _ (by omega)) (by omega) (by omega)
  rw [L0_s, ans1] at ha
  refine ha.mono ?_
  clear ha
  rintro e w2 ⟨A2, k2, c2, rfl, hr2, hk2, hc2, hn2, hf2⟩
  dsimp only at hr2 ⊢
  have hf02 : Fr nob W w2 := ((Fr.refl nob W).alloc (.cells #[.int .u8 14, .int .u8 1, .int .u8 0] 5)).trans hf2 (fun _ _ h => h)
  go_wp2_with fail
  have hrd := ident_read A2 k2 c2 b0 w2 hr2 b0_8 hk2 hc2
  rw [readPost, read0, show errR (some q0) = 0 from rfl] at hrd
  refine hrd.mono ?_
  clear hrd
  rintro e w3 ⟨p, rfl, hpok, hps, -, hf3, -⟩
  obtain ⟨pc, pl, pm, px, pA, pn, pcp, pL⟩ := p
  rw [Pt.val, Pt.cells]
  dsimp only
  have hpn : pn = 3 := by
    have h1 := congrArg (fun q => q.S.length) hps
    have h2 := hpok.1.len
    dsimp only at h2
    simp [Pt.s, q0, S0] at h1
    omega
  subst hpn
  clear hps hpok
  have hf03 := hf02.trans hf3 (fun _ _ h => h)
  have hbp := Blk.new w3 24 #[.int .i64 pc, .int .i64 pl, .bool pm, .int .i64 px, .slice pA 3 pcp]
  have hf04 := hf03.alloc (.cells #[.int .i64 pc, .int .i64 pl, .bool pm, .int .i64 px, .slice pA 3 pcp] 24)
  obtain ⟨w4, hw4⟩ : ∃ w4, w4 = w3.alloc (.cells #[.int .i64 pc, .int .i64 pl, .bool pm, .int .i64 px, .slice pA 3 pcp] 24) := ⟨_, rfl⟩
  have hr4 := hr2.nob (hf3.alloc (.cells #[.int .i64 pc, .int .i64 pl, .bool pm, .int .i64 px, .slice pA 3 pcp] 24))
  have hr4W := rd3 w4 14 4 9
  have hzW4 : w4.heap.size = w3.heap.size + 1 := by rw [hw4]; simp
  rw [hzW4] at hr4W
  rw [← hw4] at hbp hf04 hr4
  have HW4 := Lib.hid hw4
  clear hzW4
  clear hw4 hf02 hf2 hf3 hf03 hr2
  go_wp2_with fail
  rw [← HW4.out]
  have ha := ident_answer _ 3 3 L0 _ 3 3 [14, 4, 9] _ ((hO.nob hf04).alloc (.cells #[.int .u8 14, .int .u8 4, .int .u8 9] 5)) (by omega) (by omega) (by omega) hr4W (three8 _ _ _ (by omega)) (by omega) (by omega)
  rw [L0_s, ans4] at ha
  refine ha.mono ?_
  clear ha
  rintro e w5 ⟨A5, k5, c5, rfl, -, -, -, -, hf5⟩
  dsimp only
  have hf45 : Fr nob w4 w5 := ((Fr.refl nob w4).alloc (.cells #[.int .u8 14, .int .u8 4, .int .u8 9] 5)).trans hf5 (fun _ _ h => h)
  have hf05 := hf04.trans hf45 (fun _ _ h => h)
  go_wp2_with fail
  have hal := ident_all _ 3 3 L0 1 w5 (hO.nob hf05) (by omega) (by omega) (by omega) (by intro x hx; simp [L0] at hx; rcases hx with rfl | rfl | rfl <;> simp [bytes8])
  rw [L0_s] at hal
  refine hal.mono ?_
  clear hal
  rintro e w6 hx6
  rw [allPost, all0, pcs0] at hx6
  obtain ⟨A6, k6, c6, L6, rfl, hL6, hO6, hk6, hc6, hf6⟩ := hx6
  have HL6 := Lib.hid hL6
  clear hL6
  have hf46 := hf45.trans hf6 (fun _ _ h => h)
  have hf06 := hf04.trans hf46 (fun _ _ h => h)
  go_wp2_with fail
  have ha := ident_answer none 0 0 [] _ 3 3 [14, 1, 0] (w6.alloc (.cells #[.int .u8 14, .int .u8 1, .int .u8 0] 5)) ⟨Rd.nil_ _ _ _, by simp⟩ (by omega) (by omega) (by omega) (rd3 w6 14 1 0) (three8 _ _ _ (by omega)) (by omega) (by omega)
  rw [show ([] : List Ob).map Ob.s = [] from rfl, ans0] at ha
  refine ha.mono ?_
  clear ha
  rintro e w7 ⟨A7, k7, c7, rfl, -, -, -, -, hf7⟩
  dsimp only
  have hf67 : Fr nob w6 w7 := ((Fr.refl nob w6).alloc (.cells #[.int .u8 14, .int .u8 1, .int .u8 0] 5)).trans hf7 (fun _ _ h => h)
  have hf47 := hf46.trans hf67 (fun _ _ h => h)
  have hf07 := hf06.trans hf67 (fun _ _ h => h)
  have hr7 := hr4.nob hf47
  go_wp2_with fail
  refine (bytes_any A2 _ k2 12 c2 12 b0 b0 _ (hr7.alloc _) (Rd.of_blk (Blk.new w7 5 #[.int .u8 14, .int .u8 1, .int .u8 129, .int .u8 0, .int .u8 0, .int .u8 3, .int .u8 0, .int .u8 0, .int .u8 1, .int .u8 0, .int .u8 2, .int .u8 0]) rfl (fun j u hu => by rw [Nat.zero_add]; simpa [b0, nums] using hu)) (by omega) (by omega)).mono ?_
  rintro e w8 ⟨rfl, k8, rfl⟩
  rw [show sameInts b0 b0 = true by simp [sameInts]]
  have hf78 : Fr nob w7 ((w7.alloc (.cells #[.int .u8 14, .int .u8 1, .int .u8 129, .int .u8 0, .int .u8 0, .int .u8 3, .int .u8 0, .int .u8 0, .int .u8 1, .int .u8 0, .int .u8 2, .int .u8 0] 5)).drewN k8) := ((Fr.refl nob w7).alloc _).drewN _
  have hbp8 := (hbp.fr hf47 (fun h => h)).fr hf78 (fun h => h)
  have qp8 := hbp8.cell
  have hf08 := hf07.trans hf78 (fun _ _ h => h)
  go_wp2_with fail
  refine (same_any A6 _ k6 3 c6 3 L6 L0 _ (hO6.nob (hf67.trans hf78 (fun _ _ h => h))) (hO.nob hf08) hk6 hc6 (by omega) (by omega)).mono ?_
  rintro e w9 ⟨rfl, hf9⟩
  rw [HL6.out, L0_s, decide_eq_true rfl]
  go_wp2_with fail
  go_ret
  exact ⟨rfl, hf0.trans (hf08.trans hf9 (fun _ _ h => h)) (fun _ _ h => h)⟩
end Go.Proofs.Ythdenkmmiadeiaa
