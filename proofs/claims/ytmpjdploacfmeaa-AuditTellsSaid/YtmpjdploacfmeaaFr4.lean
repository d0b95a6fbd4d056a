/- audit.Frames: the contract where it tells frames. -/
import Derived.Test.YtmpjdploacfmeaaFr3
import Derived.Test.YtmpjdploacfmeaaEach
import Derived.Test.YtmpjdploacfmeaaRound
import Derived.Test.YtmpjdploacfmeaaLate2
import Derived.Shelf.Abstract
import Derived.TacticsInMore
namespace Go.Proofs.Ytmpjdploacfmeaa
set_option linter.unusedSimpArgs false
set_option linter.unusedVariables false
open Go.RowKit

theorem inwM {P : Program} {f : FuncId} {args : Array Value} {w : World} {R : Ending → World → Prop} {n : Nat} (h : Calls P f args w R) : CallsIn Fence.wide n P f args w R := callsIn_wide.2 h
theorem inwM2 {P : Program} {f : FuncId} {args : Array Value} {w : World} {R Q : Ending → World → Prop} {n m : Nat} (h : Calls P f args w R) (k : ∀ e w', R e w' → Q e w') :
    (Fence.wide.depth.isSome = true → 1 ≤ m) ∧ CallsIn Fence.wide n P f args w Q := ⟨fun h => (by cases h), (inwM h).mono k⟩
/-- What a body must achieve that does not panic, marks and all. -/
def bodyPostN (F : Fence) (n : Nat) (P : Program) (fn : Func) (R : Ending → World → Prop) : Exit → Act → World → Prop
  | .normal, a, w | .ret, a, w => LeavesInM F n P fn a.tmps R a.defers .returning w
  | _, _, _ => False
theorem callsIn_marksN {P : Program} {F : Fence} {n : Nat} {f : FuncId} {fn : Func} {c : Code} {args : Array Value} {w : World} {R : Ending → World → Prop}
    (hf : P.funcs[f]? = some fn) (hb : fn.body = some c) (hF : F.fn f)
    (h : c.wpIn F n P (bodyPostN F n P fn R) { tmps := args ++ Array.replicate (fn.ntmps - args.size) undef, defers := [] } w) (hro : F.round = none) : CallsIn F n P f args w R :=
  callsIn_of_wp_marks hf hb hF (wpIn_mono h (by intro e a w hq; cases e <;> first | exact hq | exact hq.elim)) hro

set_option maxHeartbeats 1000000 in
theorem each_any (A : Option Addr) (n c : Nat) (tc : Int) (w : World) :
    Calls Try.prog 60 #[.slice A n c, .int .i64 tc] w fun e w' => e = .returned (.func (.func 75) #[] #[.pointer (some ⟨w.heap.size, 0, none⟩), .pointer (some ⟨w.heap.size + 1, 0, none⟩)]) ∧ w' = (w.alloc (.cells #[.slice A n c] 60)).alloc (.cells #[.int .i64 tc] 3) := by
  go_enter Try.func60, Try.ntmps60
  go_wp2
  go_ret
  exact ⟨rfl, rfl⟩

attribute [local go_sem] Oper.semAt_some
set_option maxHeartbeats 8000000 in
set_option maxRecDepth 100000 in
theorem frames_tell (A : Option Addr) (n c : Nat) (lo : List (Int × Int)) (tc ts tl tt : Int) (fs : List (List Int)) (ats : List Int) (w : World) (h : Rd w 2 A n (lo.flatMap outc)) (hn : n ≤ 400) (hnc : n ≤ c) (hri : rightT tc ts tl tt = true) (hsome : framesF tc lo = some (fs, ats)) :
    Calls Try.prog 32 #[.slice A n c, .agg #[.int .i64 tc, .int .i64 ts, .int .i64 tl, .int .i64 tt]] w (frPost w tc ts tl tt lo) := by
  have hln : lo.length = n := by
    have := h.1
    rw [flat_len outc 2 lo outc_len] at this
    omega
  have HLN := Lib.hid hln
  have HR := Lib.hid h
  have hrt := clock_right tc ts tl tt (((w.alloc (.cells #[.int .i64 tc, .int .i64 ts, .int .i64 tl, .int .i64 tt] 63)).alloc (.cells #[.slice none 0 0] 64)).alloc (.cells #[.slice none 0 0] 57))
  have hbt : 1 ≤ tc ∧ tc ≤ 16777216 := by
    have := of_decide_eq_true hri
    omega
  rw [hri] at hrt
  have HRT := Lib.hid hrt
  have HRI := Lib.hid hri
  have HSO := Lib.hid hsome
  have hfn : ∀ f, Fence.wide.fn f := fun _ => trivial
  clear hrt h hri hsome hln
  refine (callsIn_wide (n := 3)).1 (callsIn_marksN Try.func32 rfl trivial ?_ rfl)
  simp only [Try.ntmps32, List.size_toArray, List.length_cons, List.length_nil, Nat.reduceAdd, Nat.reduceSub, Array.replicate_succ, Array.replicate_zero, List.push_toArray, List.append_toArray, List.nil_append, List.cons_append]
  gi_wp2_with fail
  refine (inwM HRT.out).mono ?_
  rintro e w1 ⟨rfl, hf1⟩
  obtain ⟨hfw, b0, b1, b2⟩ := fr_start w tc ts tl tt hf1
  have HFW := Lib.hid hfw
  have HB0 := Lib.hid b0
  have HB1 := Lib.hid b1
  have HB2 := Lib.hid b2
  clear HRT hf1 hfw b0 b1 b2
  gi_wp2_with fail
  gi_loopw [15] (fun iv wr => ∃ k : Nat, iv = .int .i64 k ∧ k ≤ n ∧ Hid (FrAt tc lo k) ∧ Hid (Fr nob w1 wr)) (fun iv _ => n - (intOf iv).toNat)
  case atStart => exact ⟨0, rfl, by omega, Lib.hid (.inl rfl), Lib.hid (Fr.refl _ _)⟩
  case round =>
    obtain ⟨k, rfl, hk, hat, hf⟩ := hrel
    by_cases hlt : k < n
    · have HFR := Lib.hid (HFW.out.trans hf.out (fun _ _ h => h))
      obtain ⟨b, o, x, rfl, hb, hx, hc0, hc1⟩ := out_at HR.out hlt
      obtain ⟨b', o', y, e', _, hy, hd0, _⟩ := out_at HR.out (k := k - 1) (by omega)
      cases e'
      obtain ⟨xa, xb⟩ := x
      obtain ⟨ya, yb⟩ := y
      dsimp only at hc0 hc1 hd0
      have HX := Lib.hid hx
      have HY := Lib.hid hy
      have hi0 : (0 : Int) ≤ (k : Int) ∧ (k : Int) < (n : Int) := ⟨by omega, by omega⟩
      have hx0 := (HFR.out.cell (p := ⟨b, o + k * 2, none⟩) hb id).trans hc0
      have hx1 := (HFR.out.cell (p := ⟨b, o + k * 2 + 1, none⟩) hb id).trans hc1
      have hel := Blk.new wr 110 #[.int .i64 xa, .int .u8 xb]
      have hfel := (Fr.refl nob wr).alloc (.cells #[.int .i64 xa, .int .u8 xb] 110)
      have hcl : ∀ V, Fr nob (wr.alloc (.cells #[.int .i64 xa, .int .u8 xb] 110)) V → V.cell? ⟨wr.heap.size, 0, none⟩ = some (.int .i64 xa) ∧ V.cell? ⟨b, o + (k - 1) * 2, none⟩ = some (.int .i64 ya) ∧ V.cell? ⟨w.heap.size, 0, none⟩ = some (.int .i64 tc) := fun V hV =>
        ⟨((hel.fr hV id).cell 0).trans rfl, ((HFR.out.trans (hfel.trans hV (fun _ _ h => h)) (fun _ _ h => h)).cell (p := ⟨b, _, none⟩) hb id).trans hd0, ((HB0.out.fr (hf.out.trans (hfel.trans hV (fun _ _ h => h)) (fun _ _ h => h)) id).cell 0).trans rfl⟩
      have HCL := Lib.hid hcl
      obtain ⟨cx, hcx⟩ : ∃ cx, cx = clampT xa := ⟨_, rfl⟩
      have hcal := fun V => clamp_any xa V
      rw [← hcx] at hcal
      have HCX := Lib.hid hcx
      have HCAL := Lib.hid hcal
      clear hx hy hc0 hc1 hd0 hcl hcx hcal hel
      have hca : cx = xa := Decidable.byContradiction fun hca => by
        have := fr_bad hat.out HX.out (fun _ => HY.out) (.inl (fun e => hca (HCX.out.trans e)))
        rw [HSO.out] at this
        cases this
      have hne : (cx != xa) = false := by rw [bne, beq_iff_eq.2 hca]; rfl
      have hxr : 0 ≤ xa ∧ xa ≤ 1099511627776 := (clampT_iff xa).1 (HCX.out.symm.trans hca)
      rcases Nat.eq_zero_or_pos k with rfl | hk0
      · have HAT := Lib.hid (fr_good hat.out HX.out (fun h => absurd h (by omega)) (y := (0, 0)) (HCX.out.symm.trans hca) (fun h => absurd h (by omega)))
        have hcl0 : ∀ V, Fr nob (wr.alloc (.cells #[.int .i64 xa, .int .u8 xb] 110)) V → V.cell? ⟨wr.heap.size, 0, none⟩ = some (.int .i64 xa) := fun V hV => (HCL.out V hV).1
        have HCL0 := Lib.hid hcl0
        simp only [Nat.zero_mul, Nat.add_zero] at hx0 hx1
        clear hca hcl0
        gi_wp2_with fail
        refine wpIn_wide.2 ?_
        refine wp_region_held_drew (S := fun w' => w'.cell? ⟨wr.heap.size, 0, none⟩ = some (.int .i64 xa)) (by kernel_rfl) (HCL0.out _ (Fr.refl _ _).drew) (fun hHeld => ?_)
        first
          | (refine mix_skip 0 rfl (by kernel_rfl) (by kernel_rfl) (by kernel_rfl) (by rfl) (by assumption) (fun _ _ _ h => h) ?_)
          | (refine mix_pure 0 (v := ?_) rfl (by kernel_rfl) (by kernel_rfl) (by kernel_rfl) (by rfl) (by assumption) (fun _ _ _ h => h) ?_ ?_; rotate_left; · (intro wS hSw; (try dsimp only at hSw); go_simp; try with_reducible rfl))
        simp only [Act.put, List.setIfInBounds_toArray, List.set_cons_zero, List.set_cons_succ]
        first
          | (refine mix_skip 1 rfl (by kernel_rfl) (by kernel_rfl) (by kernel_rfl) (by rfl) (by assumption) (fun _ _ _ h => h) ?_)
          | (refine mix_pure 1 (v := ?_) rfl (by kernel_rfl) (by kernel_rfl) (by kernel_rfl) (by rfl) (by assumption) (fun _ _ _ h => h) ?_ ?_; rotate_left; · (intro wS hSw; (try dsimp only at hSw); go_simp; try with_reducible rfl))
        simp only [Act.put, List.setIfInBounds_toArray, List.set_cons_zero, List.set_cons_succ]
        first
          | (refine mix_skip 3 rfl (by kernel_rfl) (by kernel_rfl) (by kernel_rfl) (by rfl) (by assumption) (fun _ _ _ h => h) ?_)
          | (refine mix_pure 3 (v := ?_) rfl (by kernel_rfl) (by kernel_rfl) (by kernel_rfl) (by rfl) (by assumption) (fun _ _ _ h => h) ?_ ?_; rotate_left; · (intro wS hSw; (try dsimp only at hSw); go_simp; try with_reducible rfl))
        simp only [Act.put, List.setIfInBounds_toArray, List.set_cons_zero, List.set_cons_succ]
        first
          | (refine mix_skip 4 rfl (by kernel_rfl) (by kernel_rfl) (by kernel_rfl) (by rfl) (by assumption) (fun _ _ _ h => h) ?_)
          | (refine mix_pure 4 (v := ?_) rfl (by kernel_rfl) (by kernel_rfl) (by kernel_rfl) (by rfl) (by assumption) (fun _ _ _ h => h) ?_ ?_; rotate_left; · (intro wS hSw; (try dsimp only at hSw); go_simp; try with_reducible rfl))
        simp only [Act.put, List.setIfInBounds_toArray, List.set_cons_zero, List.set_cons_succ]
        refine mix_one 2 rfl (by kernel_rfl) (fun K hK => ?_)
        go_simp
        refine (HCAL.out _).mono ?_
        rintro e w3 ⟨rfl, rfl⟩
        refine hK.out _ _ (hHeld) (fun hHeld1 => ?_)
        clear hK K
        try simp only [Act.put, List.setIfInBounds_toArray, List.set_cons_zero, List.set_cons_succ]
        first
          | (refine mix_skip 5 rfl (by kernel_rfl) (by kernel_rfl) (by kernel_rfl) (by rfl) (by assumption) (fun _ _ _ h => h) ?_)
          | (refine mix_pure 5 (v := ?_) rfl (by kernel_rfl) (by kernel_rfl) (by kernel_rfl) (by rfl) (by assumption) (fun _ _ _ h => h) ?_ ?_; rotate_left; · (intro wS hSw; (try dsimp only at hSw); go_simp; try with_reducible rfl))
        simp only [Act.put, List.setIfInBounds_toArray, List.set_cons_zero, List.set_cons_succ]
        first
          | (refine mix_skip 6 rfl (by kernel_rfl) (by kernel_rfl) (by kernel_rfl) (by rfl) (by assumption) (fun _ _ _ h => h) ?_)
          | (refine mix_pure 6 (v := ?_) rfl (by kernel_rfl) (by kernel_rfl) (by kernel_rfl) (by rfl) (by assumption) (fun _ _ _ h => h) ?_ ?_; rotate_left; · (intro wS hSw; (try dsimp only at hSw); go_simp; try with_reducible rfl))
        simp only [Act.put, List.setIfInBounds_toArray, List.set_cons_zero, List.set_cons_succ]
        first
          | (refine mix_skip 7 rfl (by kernel_rfl) (by kernel_rfl) (by kernel_rfl) (by rfl) (by assumption) (fun _ _ _ h => h) ?_)
          | (refine mix_pure 7 (v := ?_) rfl (by kernel_rfl) (by kernel_rfl) (by kernel_rfl) (by rfl) (by assumption) (fun _ _ _ h => h) ?_ ?_; rotate_left; · (intro wS hSw; (try dsimp only at hSw); go_simp; try with_reducible rfl))
        simp only [Act.put, List.setIfInBounds_toArray, List.set_cons_zero, List.set_cons_succ]
        first
          | (refine mix_skip 8 rfl (by kernel_rfl) (by kernel_rfl) (by kernel_rfl) (by rfl) (by assumption) (fun _ _ _ h => h) ?_)
          | (refine mix_pure 8 (v := ?_) rfl (by kernel_rfl) (by kernel_rfl) (by kernel_rfl) (by rfl) (by assumption) (fun _ _ _ h => h) ?_ ?_; rotate_left; · (intro wS hSw; (try dsimp only at hSw); go_simp; try with_reducible rfl))
        simp only [Act.put, List.setIfInBounds_toArray, List.set_cons_zero, List.set_cons_succ]
        first
          | (refine mix_skip 9 rfl (by kernel_rfl) (by kernel_rfl) (by kernel_rfl) (by rfl) (by assumption) (fun _ _ _ h => h) ?_)
          | (refine mix_pure 9 (v := ?_) rfl (by kernel_rfl) (by kernel_rfl) (by kernel_rfl) (by rfl) (by assumption) (fun _ _ _ h => h) ?_ ?_; rotate_left; · (intro wS hSw; (try dsimp only at hSw); go_simp; try with_reducible rfl))
        simp only [Act.put, List.setIfInBounds_toArray, List.set_cons_zero, List.set_cons_succ]
        first
          | (refine mix_skip 10 rfl (by kernel_rfl) (by kernel_rfl) (by kernel_rfl) (by rfl) (by assumption) (fun _ _ _ h => h) ?_)
          | (refine mix_pure 10 (v := ?_) rfl (by kernel_rfl) (by kernel_rfl) (by kernel_rfl) (by rfl) (by assumption) (fun _ _ _ h => h) ?_ ?_; rotate_left; · (intro wS hSw; (try dsimp only at hSw); go_simp; try with_reducible rfl))
        simp only [Act.put, List.setIfInBounds_toArray, List.set_cons_zero, List.set_cons_succ]
        first
          | (refine mix_skip 11 rfl (by kernel_rfl) (by kernel_rfl) (by kernel_rfl) (by rfl) (by assumption) (fun _ _ _ h => h) ?_)
          | (refine mix_pure 11 (v := ?_) rfl (by kernel_rfl) (by kernel_rfl) (by kernel_rfl) (by rfl) (by assumption) (fun _ _ _ h => h) ?_ ?_; rotate_left; · (intro wS hSw; (try dsimp only at hSw); go_simp; try with_reducible rfl))
        simp only [Act.put, List.setIfInBounds_toArray, List.set_cons_zero, List.set_cons_succ]
        first
          | (refine mix_skip 12 rfl (by kernel_rfl) (by kernel_rfl) (by kernel_rfl) (by rfl) (by assumption) (fun _ _ _ h => h) ?_)
          | (refine mix_pure 12 (v := ?_) rfl (by kernel_rfl) (by kernel_rfl) (by kernel_rfl) (by rfl) (by assumption) (fun _ _ _ h => h) ?_ ?_; rotate_left; · (intro wS hSw; (try dsimp only at hSw); go_simp; try with_reducible rfl))
        simp only [Act.put, List.setIfInBounds_toArray, List.set_cons_zero, List.set_cons_succ]
        first
          | (refine mix_skip 13 rfl (by kernel_rfl) (by kernel_rfl) (by kernel_rfl) (by rfl) (by assumption) (fun _ _ _ h => h) ?_)
          | (refine mix_pure 13 (v := ?_) rfl (by kernel_rfl) (by kernel_rfl) (by kernel_rfl) (by rfl) (by assumption) (fun _ _ _ h => h) ?_ ?_; rotate_left; · (intro wS hSw; (try dsimp only at hSw); go_simp; try with_reducible rfl))
        simp only [Act.put, List.setIfInBounds_toArray, List.set_cons_zero, List.set_cons_succ]
        first
          | (refine mix_skip 14 rfl (by kernel_rfl) (by kernel_rfl) (by kernel_rfl) (by rfl) (by assumption) (fun _ _ _ h => h) ?_)
          | (refine mix_pure 14 (v := ?_) rfl (by kernel_rfl) (by kernel_rfl) (by kernel_rfl) (by rfl) (by assumption) (fun _ _ _ h => h) ?_ ?_; rotate_left; · (intro wS hSw; (try dsimp only at hSw); go_simp; try with_reducible rfl))
        simp only [Act.put, List.setIfInBounds_toArray, List.set_cons_zero, List.set_cons_succ]
        first
          | (refine mix_skip 15 rfl (by kernel_rfl) (by kernel_rfl) (by kernel_rfl) (by rfl) (by assumption) (fun _ _ _ h => h) ?_)
          | (refine mix_pure 15 (v := ?_) rfl (by kernel_rfl) (by kernel_rfl) (by kernel_rfl) (by rfl) (by assumption) (fun _ _ _ h => h) ?_ ?_; rotate_left; · (intro wS hSw; (try dsimp only at hSw); go_simp; try with_reducible rfl))
        simp only [Act.put, List.setIfInBounds_toArray, List.set_cons_zero, List.set_cons_succ]
        first
          | (refine mix_skip 16 rfl (by kernel_rfl) (by kernel_rfl) (by kernel_rfl) (by rfl) (by assumption) (fun _ _ _ h => h) ?_)
          | (refine mix_pure 16 (v := ?_) rfl (by kernel_rfl) (by kernel_rfl) (by kernel_rfl) (by rfl) (by assumption) (fun _ _ _ h => h) ?_ ?_; rotate_left; · (intro wS hSw; (try dsimp only at hSw); go_simp; try with_reducible rfl))
        simp only [Act.put, List.setIfInBounds_toArray, List.set_cons_zero, List.set_cons_succ]
        first
          | (refine mix_skip 17 rfl (by kernel_rfl) (by kernel_rfl) (by kernel_rfl) (by rfl) (by assumption) (fun _ _ _ h => h) ?_)
          | (refine mix_pure 17 (v := ?_) rfl (by kernel_rfl) (by kernel_rfl) (by kernel_rfl) (by rfl) (by assumption) (fun _ _ _ h => h) ?_ ?_; rotate_left; · (intro wS hSw; (try dsimp only at hSw); go_simp; try with_reducible rfl))
        simp only [Act.put, List.setIfInBounds_toArray, List.set_cons_zero, List.set_cons_succ]
        first
          | (refine mix_skip 18 rfl (by kernel_rfl) (by kernel_rfl) (by kernel_rfl) (by rfl) (by assumption) (fun _ _ _ h => h) ?_)
          | (refine mix_pure 18 (v := ?_) rfl (by kernel_rfl) (by kernel_rfl) (by kernel_rfl) (by rfl) (by assumption) (fun _ _ _ h => h) ?_ ?_; rotate_left; · (intro wS hSw; (try dsimp only at hSw); go_simp; try with_reducible rfl))
        simp only [Act.put, List.setIfInBounds_toArray, List.set_cons_zero, List.set_cons_succ]
        first
          | (refine mix_skip 19 rfl (by kernel_rfl) (by kernel_rfl) (by kernel_rfl) (by rfl) (by assumption) (fun _ _ _ h => h) ?_)
          | (refine mix_pure 19 (v := ?_) rfl (by kernel_rfl) (by kernel_rfl) (by kernel_rfl) (by rfl) (by assumption) (fun _ _ _ h => h) ?_ ?_; rotate_left; · (intro wS hSw; (try dsimp only at hSw); go_simp; try with_reducible rfl))
        simp only [Act.put, List.setIfInBounds_toArray, List.set_cons_zero, List.set_cons_succ]
        first
          | (refine mix_skip 20 rfl (by kernel_rfl) (by kernel_rfl) (by kernel_rfl) (by rfl) (by assumption) (fun _ _ _ h => h) ?_)
          | (refine mix_pure 20 (v := ?_) rfl (by kernel_rfl) (by kernel_rfl) (by kernel_rfl) (by rfl) (by assumption) (fun _ _ _ h => h) ?_ ?_; rotate_left; · (intro wS hSw; (try dsimp only at hSw); go_simp; try with_reducible rfl))
        simp only [Act.put, List.setIfInBounds_toArray, List.set_cons_zero, List.set_cons_succ]
        first
          | (refine mix_skip 21 rfl (by kernel_rfl) (by kernel_rfl) (by kernel_rfl) (by rfl) (by assumption) (fun _ _ _ h => h) ?_)
          | (refine mix_pure 21 (v := ?_) rfl (by kernel_rfl) (by kernel_rfl) (by kernel_rfl) (by rfl) (by assumption) (fun _ _ _ h => h) ?_ ?_; rotate_left; · (intro wS hSw; (try dsimp only at hSw); go_simp; try with_reducible rfl))
        simp only [Act.put, List.setIfInBounds_toArray, List.set_cons_zero, List.set_cons_succ]
        first
          | (refine mix_skip 22 rfl (by kernel_rfl) (by kernel_rfl) (by kernel_rfl) (by rfl) (by assumption) (fun _ _ _ h => h) ?_)
          | (refine mix_pure 22 (v := ?_) rfl (by kernel_rfl) (by kernel_rfl) (by kernel_rfl) (by rfl) (by assumption) (fun _ _ _ h => h) ?_ ?_; rotate_left; · (intro wS hSw; (try dsimp only at hSw); go_simp; try with_reducible rfl))
        simp only [Act.put, List.setIfInBounds_toArray, List.set_cons_zero, List.set_cons_succ]
        first
          | (refine mix_skip 23 rfl (by kernel_rfl) (by kernel_rfl) (by kernel_rfl) (by rfl) (by assumption) (fun _ _ _ h => h) ?_)
          | (refine mix_pure 23 (v := ?_) rfl (by kernel_rfl) (by kernel_rfl) (by kernel_rfl) (by rfl) (by assumption) (fun _ _ _ h => h) ?_ ?_; rotate_left; · (intro wS hSw; (try dsimp only at hSw); go_simp; try with_reducible rfl))
        simp only [Act.put, List.setIfInBounds_toArray, List.set_cons_zero, List.set_cons_succ]
        refine wpAnyH_done (by kernel_rfl) ?_ _
        gi_wp2_with fail
        go_roundw
        case rel => exact ⟨1, by go_num, by omega, HAT, Lib.hid (hf.out.trans hfel.drew (fun _ _ h => h))⟩
        case measure => simp [intOf]; omega
      · obtain ⟨kp, rfl⟩ : ∃ kp, k = kp + 1 := ⟨k - 1, by omega⟩
        rw [Nat.add_sub_cancel] at HCL
        have hyr : 0 ≤ ya ∧ ya ≤ 1099511627776 := by
          rcases hat.out with h | ⟨_, y', hy', h1, h2, _⟩
          · omega
          · rw [HY.out] at hy'
            cases hy'
            exact ⟨h1, h2⟩
        have hwt : IntKind.i64.wrap (xa - ya) = xa - ya := IntWalk.i64_in _ (by omega)
        have hwk : IntKind.i64.wrap (kp : Int) = (kp : Int) := IntWalk.i64_in _ (by omega)
        have hp1 : (0 : Int) < (kp : Int) + 1 := by omega
        have hp2 : decide ((0 : Int) < (kp : Int) + 1) = true := decide_eq_true hp1
        have hi1 : (0 : Int) ≤ (kp : Int) ∧ (kp : Int) < (n : Int) := ⟨by omega, by omega⟩
        have hi2 : kp < n := by omega
        have hnear : ¬ xa - ya < tc := fun hn => by
          have := fr_bad hat.out HX.out (fun _ => HY.out) (.inr ⟨by omega, hn⟩)
          rw [HSO.out] at this
          cases this
        have hd : decide (xa - ya < tc) = false := decide_eq_false hnear
        have HAT := Lib.hid (fr_good hat.out HX.out (fun _ => HY.out) (HCX.out.symm.trans hca) (fun _ => hnear))
        clear hca hnear
        gi_wp2_with fail
        refine wpIn_wide.2 ?_
        refine wp_region_held_drew (S := fun w' => w'.cell? ⟨wr.heap.size, 0, none⟩ = some (.int .i64 xa) ∧ w'.cell? ⟨b, o + kp * 2, none⟩ = some (.int .i64 ya) ∧ w'.cell? ⟨w.heap.size, 0, none⟩ = some (.int .i64 tc)) (by kernel_rfl) (HCL.out _ (Fr.refl _ _).drew) (fun hHeld => ?_)
        first
          | (refine mix_skip 0 rfl (by kernel_rfl) (by kernel_rfl) (by kernel_rfl) (by rfl) (by assumption) (fun _ _ _ h => h) ?_)
          | (refine mix_pure 0 (v := ?_) rfl (by kernel_rfl) (by kernel_rfl) (by kernel_rfl) (by rfl) (by assumption) (fun _ _ _ h => h) ?_ ?_; rotate_left; · (intro wS hSw; (try dsimp only at hSw); go_simp; try with_reducible rfl))
        simp only [Act.put, List.setIfInBounds_toArray, List.set_cons_zero, List.set_cons_succ]
        first
          | (refine mix_skip 1 rfl (by kernel_rfl) (by kernel_rfl) (by kernel_rfl) (by rfl) (by assumption) (fun _ _ _ h => h) ?_)
          | (refine mix_pure 1 (v := ?_) rfl (by kernel_rfl) (by kernel_rfl) (by kernel_rfl) (by rfl) (by assumption) (fun _ _ _ h => h) ?_ ?_; rotate_left; · (intro wS hSw; (try dsimp only at hSw); go_simp; try with_reducible rfl))
        simp only [Act.put, List.setIfInBounds_toArray, List.set_cons_zero, List.set_cons_succ]
        first
          | (refine mix_skip 3 rfl (by kernel_rfl) (by kernel_rfl) (by kernel_rfl) (by rfl) (by assumption) (fun _ _ _ h => h) ?_)
          | (refine mix_pure 3 (v := ?_) rfl (by kernel_rfl) (by kernel_rfl) (by kernel_rfl) (by rfl) (by assumption) (fun _ _ _ h => h) ?_ ?_; rotate_left; · (intro wS hSw; (try dsimp only at hSw); go_simp; try with_reducible rfl))
        simp only [Act.put, List.setIfInBounds_toArray, List.set_cons_zero, List.set_cons_succ]
        first
          | (refine mix_skip 4 rfl (by kernel_rfl) (by kernel_rfl) (by kernel_rfl) (by rfl) (by assumption) (fun _ _ _ h => h) ?_)
          | (refine mix_pure 4 (v := ?_) rfl (by kernel_rfl) (by kernel_rfl) (by kernel_rfl) (by rfl) (by assumption) (fun _ _ _ h => h) ?_ ?_; rotate_left; · (intro wS hSw; (try dsimp only at hSw); go_simp; try with_reducible rfl))
        simp only [Act.put, List.setIfInBounds_toArray, List.set_cons_zero, List.set_cons_succ]
        refine mix_one 2 rfl (by kernel_rfl) (fun K hK => ?_)
        go_simp
        refine (HCAL.out _).mono ?_
        rintro e w3 ⟨rfl, rfl⟩
        refine hK.out _ _ (hHeld) (fun hHeld1 => ?_)
        clear hK K
        try simp only [Act.put, List.setIfInBounds_toArray, List.set_cons_zero, List.set_cons_succ]
        first
          | (refine mix_skip 5 rfl (by kernel_rfl) (by kernel_rfl) (by kernel_rfl) (by rfl) (by assumption) (fun _ _ _ h => h) ?_)
          | (refine mix_pure 5 (v := ?_) rfl (by kernel_rfl) (by kernel_rfl) (by kernel_rfl) (by rfl) (by assumption) (fun _ _ _ h => h) ?_ ?_; rotate_left; · (intro wS hSw; (try dsimp only at hSw); go_simp; try with_reducible rfl))
        simp only [Act.put, List.setIfInBounds_toArray, List.set_cons_zero, List.set_cons_succ]
        first
          | (refine mix_skip 6 rfl (by kernel_rfl) (by kernel_rfl) (by kernel_rfl) (by rfl) (by assumption) (fun _ _ _ h => h) ?_)
          | (refine mix_pure 6 (v := ?_) rfl (by kernel_rfl) (by kernel_rfl) (by kernel_rfl) (by rfl) (by assumption) (fun _ _ _ h => h) ?_ ?_; rotate_left; · (intro wS hSw; (try dsimp only at hSw); go_simp; try with_reducible rfl))
        simp only [Act.put, List.setIfInBounds_toArray, List.set_cons_zero, List.set_cons_succ]
        first
          | (refine mix_skip 7 rfl (by kernel_rfl) (by kernel_rfl) (by kernel_rfl) (by rfl) (by assumption) (fun _ _ _ h => h) ?_)
          | (refine mix_pure 7 (v := ?_) rfl (by kernel_rfl) (by kernel_rfl) (by kernel_rfl) (by rfl) (by assumption) (fun _ _ _ h => h) ?_ ?_; rotate_left; · (intro wS hSw; (try dsimp only at hSw); go_simp; try with_reducible rfl))
        simp only [Act.put, List.setIfInBounds_toArray, List.set_cons_zero, List.set_cons_succ]
        first
          | (refine mix_skip 8 rfl (by kernel_rfl) (by kernel_rfl) (by kernel_rfl) (by rfl) (by assumption) (fun _ _ _ h => h) ?_)
          | (refine mix_pure 8 (v := ?_) rfl (by kernel_rfl) (by kernel_rfl) (by kernel_rfl) (by rfl) (by assumption) (fun _ _ _ h => h) ?_ ?_; rotate_left; · (intro wS hSw; (try dsimp only at hSw); go_simp; try with_reducible rfl))
        simp only [Act.put, List.setIfInBounds_toArray, List.set_cons_zero, List.set_cons_succ]
        first
          | (refine mix_skip 9 rfl (by kernel_rfl) (by kernel_rfl) (by kernel_rfl) (by rfl) (by assumption) (fun _ _ _ h => h) ?_)
          | (refine mix_pure 9 (v := ?_) rfl (by kernel_rfl) (by kernel_rfl) (by kernel_rfl) (by rfl) (by assumption) (fun _ _ _ h => h) ?_ ?_; rotate_left; · (intro wS hSw; (try dsimp only at hSw); go_simp; try with_reducible rfl))
        simp only [Act.put, List.setIfInBounds_toArray, List.set_cons_zero, List.set_cons_succ]
        first
          | (refine mix_skip 10 rfl (by kernel_rfl) (by kernel_rfl) (by kernel_rfl) (by rfl) (by assumption) (fun _ _ _ h => h) ?_)
          | (refine mix_pure 10 (v := ?_) rfl (by kernel_rfl) (by kernel_rfl) (by kernel_rfl) (by rfl) (by assumption) (fun _ _ _ h => h) ?_ ?_; rotate_left; · (intro wS hSw; (try dsimp only at hSw); go_simp; try with_reducible rfl))
        simp only [Act.put, List.setIfInBounds_toArray, List.set_cons_zero, List.set_cons_succ]
        first
          | (refine mix_skip 11 rfl (by kernel_rfl) (by kernel_rfl) (by kernel_rfl) (by rfl) (by assumption) (fun _ _ _ h => h) ?_)
          | (refine mix_pure 11 (v := ?_) rfl (by kernel_rfl) (by kernel_rfl) (by kernel_rfl) (by rfl) (by assumption) (fun _ _ _ h => h) ?_ ?_; rotate_left; · (intro wS hSw; (try dsimp only at hSw); go_simp; try with_reducible rfl))
        simp only [Act.put, List.setIfInBounds_toArray, List.set_cons_zero, List.set_cons_succ]
        first
          | (refine mix_skip 12 rfl (by kernel_rfl) (by kernel_rfl) (by kernel_rfl) (by rfl) (by assumption) (fun _ _ _ h => h) ?_)
          | (refine mix_pure 12 (v := ?_) rfl (by kernel_rfl) (by kernel_rfl) (by kernel_rfl) (by rfl) (by assumption) (fun _ _ _ h => h) ?_ ?_; rotate_left; · (intro wS hSw; (try dsimp only at hSw); go_simp; try with_reducible rfl))
        simp only [Act.put, List.setIfInBounds_toArray, List.set_cons_zero, List.set_cons_succ]
        first
          | (refine mix_skip 13 rfl (by kernel_rfl) (by kernel_rfl) (by kernel_rfl) (by rfl) (by assumption) (fun _ _ _ h => h) ?_)
          | (refine mix_pure 13 (v := ?_) rfl (by kernel_rfl) (by kernel_rfl) (by kernel_rfl) (by rfl) (by assumption) (fun _ _ _ h => h) ?_ ?_; rotate_left; · (intro wS hSw; (try dsimp only at hSw); go_simp; try with_reducible rfl))
        simp only [Act.put, List.setIfInBounds_toArray, List.set_cons_zero, List.set_cons_succ]
        first
          | (refine mix_skip 14 rfl (by kernel_rfl) (by kernel_rfl) (by kernel_rfl) (by rfl) (by assumption) (fun _ _ _ h => h) ?_)
          | (refine mix_pure 14 (v := ?_) rfl (by kernel_rfl) (by kernel_rfl) (by kernel_rfl) (by rfl) (by assumption) (fun _ _ _ h => h) ?_ ?_; rotate_left; · (intro wS hSw; (try dsimp only at hSw); go_simp; try with_reducible rfl))
        simp only [Act.put, List.setIfInBounds_toArray, List.set_cons_zero, List.set_cons_succ]
        first
          | (refine mix_skip 15 rfl (by kernel_rfl) (by kernel_rfl) (by kernel_rfl) (by rfl) (by assumption) (fun _ _ _ h => h) ?_)
          | (refine mix_pure 15 (v := ?_) rfl (by kernel_rfl) (by kernel_rfl) (by kernel_rfl) (by rfl) (by assumption) (fun _ _ _ h => h) ?_ ?_; rotate_left; · (intro wS hSw; (try dsimp only at hSw); go_simp; try with_reducible rfl))
        simp only [Act.put, List.setIfInBounds_toArray, List.set_cons_zero, List.set_cons_succ]
        first
          | (refine mix_skip 16 rfl (by kernel_rfl) (by kernel_rfl) (by kernel_rfl) (by rfl) (by assumption) (fun _ _ _ h => h) ?_)
          | (refine mix_pure 16 (v := ?_) rfl (by kernel_rfl) (by kernel_rfl) (by kernel_rfl) (by rfl) (by assumption) (fun _ _ _ h => h) ?_ ?_; rotate_left; · (intro wS hSw; (try dsimp only at hSw); go_simp; try with_reducible rfl))
        simp only [Act.put, List.setIfInBounds_toArray, List.set_cons_zero, List.set_cons_succ]
        first
          | (refine mix_skip 17 rfl (by kernel_rfl) (by kernel_rfl) (by kernel_rfl) (by rfl) (by assumption) (fun _ _ _ h => h) ?_)
          | (refine mix_pure 17 (v := ?_) rfl (by kernel_rfl) (by kernel_rfl) (by kernel_rfl) (by rfl) (by assumption) (fun _ _ _ h => h) ?_ ?_; rotate_left; · (intro wS hSw; (try dsimp only at hSw); go_simp; try with_reducible rfl))
        simp only [Act.put, List.setIfInBounds_toArray, List.set_cons_zero, List.set_cons_succ]
        first
          | (refine mix_skip 18 rfl (by kernel_rfl) (by kernel_rfl) (by kernel_rfl) (by rfl) (by assumption) (fun _ _ _ h => h) ?_)
          | (refine mix_pure 18 (v := ?_) rfl (by kernel_rfl) (by kernel_rfl) (by kernel_rfl) (by rfl) (by assumption) (fun _ _ _ h => h) ?_ ?_; rotate_left; · (intro wS hSw; (try dsimp only at hSw); go_simp; try with_reducible rfl))
        simp only [Act.put, List.setIfInBounds_toArray, List.set_cons_zero, List.set_cons_succ]
        first
          | (refine mix_skip 19 rfl (by kernel_rfl) (by kernel_rfl) (by kernel_rfl) (by rfl) (by assumption) (fun _ _ _ h => h) ?_)
          | (refine mix_pure 19 (v := ?_) rfl (by kernel_rfl) (by kernel_rfl) (by kernel_rfl) (by rfl) (by assumption) (fun _ _ _ h => h) ?_ ?_; rotate_left; · (intro wS hSw; (try dsimp only at hSw); go_simp; try with_reducible rfl))
        simp only [Act.put, List.setIfInBounds_toArray, List.set_cons_zero, List.set_cons_succ]
        first
          | (refine mix_skip 20 rfl (by kernel_rfl) (by kernel_rfl) (by kernel_rfl) (by rfl) (by assumption) (fun _ _ _ h => h) ?_)
          | (refine mix_pure 20 (v := ?_) rfl (by kernel_rfl) (by kernel_rfl) (by kernel_rfl) (by rfl) (by assumption) (fun _ _ _ h => h) ?_ ?_; rotate_left; · (intro wS hSw; (try dsimp only at hSw); go_simp; try with_reducible rfl))
        simp only [Act.put, List.setIfInBounds_toArray, List.set_cons_zero, List.set_cons_succ]
        first
          | (refine mix_skip 21 rfl (by kernel_rfl) (by kernel_rfl) (by kernel_rfl) (by rfl) (by assumption) (fun _ _ _ h => h) ?_)
          | (refine mix_pure 21 (v := ?_) rfl (by kernel_rfl) (by kernel_rfl) (by kernel_rfl) (by rfl) (by assumption) (fun _ _ _ h => h) ?_ ?_; rotate_left; · (intro wS hSw; (try dsimp only at hSw); go_simp; try with_reducible rfl))
        simp only [Act.put, List.setIfInBounds_toArray, List.set_cons_zero, List.set_cons_succ]
        first
          | (refine mix_skip 22 rfl (by kernel_rfl) (by kernel_rfl) (by kernel_rfl) (by rfl) (by assumption) (fun _ _ _ h => h) ?_)
          | (refine mix_pure 22 (v := ?_) rfl (by kernel_rfl) (by kernel_rfl) (by kernel_rfl) (by rfl) (by assumption) (fun _ _ _ h => h) ?_ ?_; rotate_left; · (intro wS hSw; (try dsimp only at hSw); go_simp; try with_reducible rfl))
        simp only [Act.put, List.setIfInBounds_toArray, List.set_cons_zero, List.set_cons_succ]
        first
          | (refine mix_skip 23 rfl (by kernel_rfl) (by kernel_rfl) (by kernel_rfl) (by rfl) (by assumption) (fun _ _ _ h => h) ?_)
          | (refine mix_pure 23 (v := ?_) rfl (by kernel_rfl) (by kernel_rfl) (by kernel_rfl) (by rfl) (by assumption) (fun _ _ _ h => h) ?_ ?_; rotate_left; · (intro wS hSw; (try dsimp only at hSw); go_simp; try with_reducible rfl))
        simp only [Act.put, List.setIfInBounds_toArray, List.set_cons_zero, List.set_cons_succ]
        refine wpAnyH_done (by kernel_rfl) ?_ _
        gi_wp2_with fail
        go_roundw
        case rel => exact ⟨kp + 2, by go_num, by omega, HAT, Lib.hid (hf.out.trans hfel.drew (fun _ _ h => h))⟩
        case measure => simp [intOf]; omega
    · obtain rfl : k = n := by omega
      have HFR := Lib.hid (HFW.out.trans hf.out (fun _ _ h => h))
      have hb0 := (HB0.out.fr hf.out id)
      have hb1 := (HB1.out.fr hf.out id)
      have hb2 := (HB2.out.fr hf.out id)
      have q0 := hb0.cell
      clear hb0
      gi_wp2_with fail
      refine (inwM (each_any A k c tc _)).mono ?_
      rintro e w2 ⟨rfl, hw2⟩
      have hzr := HFR.out.size
      have hzb := hb2.lt
      have hz2 : w2.heap.size = wr.heap.size + 2 := by rw [hw2]; simp
      have hf2 : Fr nob wr w2 := by rw [hw2]; exact ((Fr.refl nob wr).alloc _).alloc _
      have c0 : Blk w2 wr.heap.size 60 #[.slice A k c] := by
        rw [hw2]
        exact (Blk.new wr 60 #[.slice A k c]).alloc _
      have c1 : Blk w2 (wr.heap.size + 1) 3 #[.int .i64 tc] := by
        rw [hw2]
        have := Blk.new (wr.alloc (.cells #[.slice A k c] 60)) 3 #[.int .i64 tc]
        simpa using this
      have hb12 := hb1.fr hf2 id
      have hb22 := hb2.fr hf2 id
      have hfw2 := HFR.out.trans hf2 (fun _ _ h => h)
      clear hw2 q0 hb1 hb2
      gi_wp2_with fail
      have hseq := each1_seq 2 A k c lo tc fs ats wr.heap.size (wr.heap.size + 1) (fun b => b = w.heap.size + 1 ∨ b = w.heap.size + 2 ∨ w2.heap.size ≤ b) w w2 HR.out hn hnc HSO.out hbt hfw2 (fun b hb => by omega) (c0.cell 0) (c1.cell 0) (by omega) (by omega)
      refine range_t rfl (by omega) rfl trivial (enters_of Try.func75 (by kernel_rfl) rfl) hseq rfl (fun b hb => by omega) (FrI w w2.heap.size fs ats) (fun _ _ _ => False)
        ?hI (fun _ _ _ _ h _ => h) ?h0 ?hIT ?hround ?hdone (fun _ _ _ h _ => h.elim)
      case hI =>
        rintro k' W W' ⟨ov, av, d1, d2, d3, d4, d5⟩ hk'
        exact ⟨ov, av, hk'.blk d1, hk'.blk d2, d3.kc hk', hk'.own d4, hk'.frn (by omega) d5⟩
      case h0 => exact ⟨_, _, hb12, hb22, CRb.nil _ _, World.ownsRow_nil _ _ _ _, hfw2⟩
      case hIT =>
        rintro k' W W' ⟨ov, av, d1, d2, d3, d4, d5⟩ hk'
        exact ⟨ov, av, d1.fr hk' (by omega), d2.fr hk' (by omega), d3.fr hk' (fun b hb => by omega), own_fr d4 hk' (fun j hj => by have := own_at d4 j hj; omega), d5.newer hk' (fun i hi => by omega)⟩
      case hdone =>
        rintro W ⟨ov, av, d1, d2, d3, d4, d5⟩ hD
        have hlen := framesF_len HSO.out
        have hzl : (ats.zip fs).length = fs.length := by rw [List.length_zip]; omega
        rw [hzl, List.take_of_length_le (Nat.le_refl _)] at d3
        rw [hzl, List.take_of_length_le (by omega)] at d4
        clear hlen hzl
        obtain ⟨A0, c0', rfl⟩ := d3.cr.form
        obtain ⟨A1, c1', rfl, _⟩ := own_form d4
        have hf5 : ∀ V, V = (W.setCell ⟨w.heap.size + 1, 0, none⟩ (.slice A0 fs.length c0')).setCell ⟨w.heap.size + 2, 0, none⟩ (.slice A1 ats.length c1') →
            Fr (fun b => b = w.heap.size + 1 ∨ b = w.heap.size + 2) W V ∧ Blk V (w.heap.size + 1) 64 #[.slice A0 fs.length c0'] ∧ Blk V (w.heap.size + 2) 57 #[.slice A1 ats.length c1'] := by
          rintro V rfl
          refine ⟨((Fr.refl _ W).set_ (p := ⟨w.heap.size + 1, 0, none⟩) (.inl (.inl rfl)) _).set_ (p := ⟨w.heap.size + 2, 0, none⟩) (.inl (.inr rfl)) _, ?_, ?_⟩
          · have := (d1.set_ 0 (.slice A0 fs.length c0')).far (p := ⟨w.heap.size + 2, 0, none⟩) (by simp) (.slice A1 ats.length c1')
            simpa using this
          · have := (d2.far (p := ⟨w.heap.size + 1, 0, none⟩) (by simp) (.slice A0 fs.length c0')).set_ 0 (.slice A1 ats.length c1')
            simpa using this
        have q1 := d1.cell
        have q2 := d1.frozen
        have q3 := d1.lt
        have q4 := d2.cell
        have q5 := d2.frozen
        have q6 := d2.lt
        have HF5 := Lib.hid hf5
        have HD3 := Lib.hid d3
        have HD4 := Lib.hid d4
        have HD5 := Lib.hid d5
        have HDD := Lib.hid hD
        have hcl : W.cell? ⟨w.heap.size + 1, 0, none⟩ = some (.slice A0 fs.length c0') ∧ W.cell? ⟨w.heap.size + 2, 0, none⟩ = some (.slice A1 ats.length c1') := ⟨(d1.cell 0).trans rfl, (d2.cell 0).trans rfl⟩
        have hcl2 : (W.setCell ⟨w.heap.size + 1, 0, none⟩ (.slice A0 fs.length c0')).cell? ⟨w.heap.size + 1, 0, none⟩ = some (.slice A0 fs.length c0') ∧ (W.setCell ⟨w.heap.size + 1, 0, none⟩ (.slice A0 fs.length c0')).cell? ⟨w.heap.size + 2, 0, none⟩ = some (.slice A1 ats.length c1') := by
          have h1 := (d1.set_ 0 (.slice A0 fs.length c0')).cell 0
          have h2 := (d2.far (p := ⟨w.heap.size + 1, 0, none⟩) (by simp) (.slice A0 fs.length c0')).cell 0
          exact ⟨by simpa using h1, by simpa using h2⟩
        have hcl3 : ((W.setCell ⟨w.heap.size + 1, 0, none⟩ (.slice A0 fs.length c0')).setCell ⟨w.heap.size + 2, 0, none⟩ (.slice A1 ats.length c1')).cell? ⟨w.heap.size + 1, 0, none⟩ = some (.slice A0 fs.length c0') ∧ ((W.setCell ⟨w.heap.size + 1, 0, none⟩ (.slice A0 fs.length c0')).setCell ⟨w.heap.size + 2, 0, none⟩ (.slice A1 ats.length c1')).cell? ⟨w.heap.size + 2, 0, none⟩ = some (.slice A1 ats.length c1') :=
          ⟨((hf5 _ rfl).2.1.cell 0).trans rfl, ((hf5 _ rfl).2.2.cell 0).trans rfl⟩
        clear hf5 d1 d2 d3 d4 d5 hD
        gi_wp2_with fail
        refine wpIn_wide.2 ?_
        refine wp_region_held_drew (S := fun V => V.cell? ⟨w.heap.size + 1, 0, none⟩ = some (.slice A0 fs.length c0') ∧ V.cell? ⟨w.heap.size + 2, 0, none⟩ = some (.slice A1 ats.length c1')) (by kernel_rfl) hcl (fun hHeld => ?_)
        first
          | (refine mix_skip 0 rfl (by kernel_rfl) (by kernel_rfl) (by kernel_rfl) (by rfl) (by assumption) (fun _ _ _ h => h) ?_)
          | (refine mix_pure 0 (v := ?_) rfl (by kernel_rfl) (by kernel_rfl) (by kernel_rfl) (by rfl) (by assumption) (fun _ _ _ h => h) ?_ ?_; rotate_left; · (intro wS hSw; (try dsimp only at hSw); go_simp; try with_reducible rfl))
        simp only [Act.put, List.setIfInBounds_toArray, List.set_cons_zero, List.set_cons_succ]
        first
          | (refine mix_skip 1 rfl (by kernel_rfl) (by kernel_rfl) (by kernel_rfl) (by rfl) (by assumption) (fun _ _ _ h => h) ?_)
          | (refine mix_pure 1 (v := ?_) rfl (by kernel_rfl) (by kernel_rfl) (by kernel_rfl) (by rfl) (by assumption) (fun _ _ _ h => h) ?_ ?_; rotate_left; · (intro wS hSw; (try dsimp only at hSw); go_simp; try with_reducible rfl))
        simp only [Act.put, List.setIfInBounds_toArray, List.set_cons_zero, List.set_cons_succ]
        refine mix_one 2 rfl (by kernel_rfl) (fun K hK => ?_)
        go_simp
        refine hK.out _ _ (hcl2) (fun hHeld1 => ?_)
        clear hK K
        try simp only [Act.put, List.setIfInBounds_toArray, List.set_cons_zero, List.set_cons_succ]
        refine mix_one 3 rfl (by kernel_rfl) (fun K hK => ?_)
        go_simp
        refine hK.out _ _ (hcl3) (fun hHeld2 => ?_)
        clear hK K
        try simp only [Act.put, List.setIfInBounds_toArray, List.set_cons_zero, List.set_cons_succ]
        first
          | (refine mix_skip 4 rfl (by kernel_rfl) (by kernel_rfl) (by kernel_rfl) (by rfl) (by assumption) (fun _ _ _ h => h) ?_)
          | (refine mix_pure 4 (v := ?_) rfl (by kernel_rfl) (by kernel_rfl) (by kernel_rfl) (by rfl) (by assumption) (fun _ _ _ h => h) ?_ ?_; rotate_left; · (intro wS hSw; (try dsimp only at hSw); go_simp; try with_reducible rfl))
        simp only [Act.put, List.setIfInBounds_toArray, List.set_cons_zero, List.set_cons_succ]
        refine wpAnyH_done (by kernel_rfl) ?_ _
        clear hHeld hHeld1 hHeld2 hcl hcl2 hcl3 q1 q2 q4 q5
        gi_wp2_with fail
        generalize hV : (World.setCell (World.setCell _ _ _) _ _).drew = V
        have hV2 : V = ((W.setCell ⟨w.heap.size + 1, 0, none⟩ (.slice A0 fs.length c0')).setCell ⟨w.heap.size + 2, 0, none⟩ (.slice A1 ats.length c1')).drew := hV.symm
        obtain ⟨f5, g5, g6⟩ := HF5.out _ rfl
        have f6 : Fr (fun b => b = w.heap.size + 1 ∨ b = w.heap.size + 2) W V := by rw [hV2]; exact f5.drew
        have g7 : Blk V (w.heap.size + 1) 64 #[.slice A0 fs.length c0'] := by rw [hV2]; exact g5
        have g8 : Blk V (w.heap.size + 2) 57 #[.slice A1 ats.length c1'] := by rw [hV2]; exact g6
        clear hV hV2 f5 g5 g6
        have hDV : V.heap[w2.heap.size]? = some (Obj.deferred (some [])) := (f6.block _ (lt_of_block HDD.out) (by omega)).trans HDD.out
        have hk5 : Kc w2.heap.size V (V.putObj w2.heap.size (.deferred none)) := Kc.putObj V _ hDV (fun _ _ _ h => by cases h) (Nat.le_refl _)
        refine ⟨by simp, .inl ⟨_, _, rfl, run_takeDeferred (by rw [← hz2]; exact hDV), ?_⟩⟩
        rw [← hz2]
        have q7 := (hk5.blk g7).cell
        have q8 := (hk5.blk g8).cell
        refine ⟨.tuple #[.slice A0 fs.length c0', .slice A1 ats.length c1', .int .i64 0], by simp [results, Try.results32, go_sem, q7, q8], ?_⟩
        have hfV : Fr nob w V := HD5.out.newer f6 (fun i hi => by omega)
        refine ⟨hk5.frn (by omega) hfV, .inr (.inr ⟨HRI.out, fs, ats, _, A1, c1', HSO.out, rfl, ?_, ?_⟩)⟩
        · exact ((HD3.out.fr f6 (fun b hb => by omega)).kc hk5).cr.base_le (by omega)
        · exact own_base (hk5.own (own_fr HD4.out f6 (fun j hj => by have := own_at HD4.out j hj; omega))) (by omega)
      case hround =>
        rintro l k' ⟨xa, xf⟩ v W hl hx ⟨Ay, ny, cy, rfl, hin, hyb⟩ ⟨ov, av, d1, d2, ⟨vs, v1, v2, v3⟩, d4, d5⟩ hsz
        have hlen := framesF_len HSO.out
        have hx2 := hx
        rw [List.getElem?_zip_eq_some] at hx2
        obtain ⟨hxa, hxf⟩ := hx2
        dsimp only at hxa hxf hin
        have hkf := (List.getElem?_eq_some_iff.1 hxf).1
        have hLN := HLN.out
        have hnf : (fs.take k').length ≤ 400 := by rw [List.length_take]; omega
        have hna : (ats.take k').length ≤ 400 := by rw [List.length_take]; omega
        have HX := Lib.hid hx
        obtain ⟨nf, hnf'⟩ : ∃ nf, nf = (fs.take k').length := ⟨_, rfl⟩
        obtain ⟨na, hna'⟩ : ∃ na, na = (ats.take k').length := ⟨_, rfl⟩
        rw [← hnf'] at v2 hnf
        rw [← hna'] at d4 hna
        have HNF := Lib.hid hnf'
        have HNA := Lib.hid hna'
        have HV1 := Lib.hid v1
        have HV3 := Lib.hid v3
        have HYB : Hid (InnB W (w2.heap.size + 3) (.slice Ay ny cy) xf) := Lib.hid ⟨hin, fun A n c e ad he => by cases e; exact hyb ad he⟩
        have e0 := Blk.new W 117 #[.int .i64 xa, .slice Ay ny cy]
        have g0 := (Fr.refl nob W).alloc (.cells #[.int .i64 xa, .slice Ay ny cy] 117)
        have s0 := World.size_alloc W (.cells #[.int .i64 xa, .slice Ay ny cy] 117)
        clear hx hxa hxf hnf' hna' v1 v3 hin hyb hLN
        gi_wp2_with fail
        refine ⟨g0, fun w₃ hkc hz3 => ?_⟩
        have b1 := hkc.blk (d1.alloc _)
        have b2 := hkc.blk (d2.alloc _)
        have b3 := hkc.blk e0
        have o1 := hkc.own (v2.alloc _)
        have o2 := hkc.own (d4.alloc _)
        have hfw3 := hkc.frn (by omega) (d5.alloc _)
        have hz33 : w2.heap.size + 3 ≤ w₃.heap.size := by omega
        have hin3 : ∀ (i : Nat) v, vs[i]? = some v → ∃ f, (fs.take k')[i]? = some f ∧ InnB w₃ (w2.heap.size + 3) v f := fun i v hv => by
          obtain ⟨f, hf, hi⟩ := HV3.out i v hv
          exact ⟨f, hf, hi.keep (Nat.le_trans g0.size hkc.size) fun g cs _ hb => hkc.blk (hb.alloc _)⟩
        have hy3 : InnB w₃ (w2.heap.size + 3) (.slice Ay ny cy) xf := HYB.out.keep (Nat.le_trans g0.size hkc.size) fun g cs _ hb => hkc.blk (hb.alloc _)
        have hcl : ∀ V, Mid (w2.heap.size + 3) w₃ V → V.cell? ⟨w.heap.size + 1, 0, none⟩ = some ov ∧ V.cell? ⟨w.heap.size + 2, 0, none⟩ = some av ∧ V.cell? ⟨W.heap.size, 0, none⟩ = some (.int .i64 xa) ∧ V.cell? ⟨W.heap.size, 1, none⟩ = some (.slice Ay ny cy) := fun V hV =>
          ⟨((hV.2 _ _ _ (by decide) b1).cell 0).trans rfl, ((hV.2 _ _ _ (by decide) b2).cell 0).trans rfl, ((hV.2 _ _ _ (by decide) b3).cell 0).trans rfl, ((hV.2 _ _ _ (by decide) b3).cell 1).trans rfl⟩
        have HCL := Lib.hid hcl
        obtain ⟨A0, c0', rfl, _⟩ := own_form o1
        obtain ⟨A1, c1', rfl, _⟩ := own_form o2
        clear hcl d1 d2 v2 d4 e0 d5 hkc hz3 s0
        refine wpIn_block ?_
        refine late_startR (fun V => V.cell? ⟨w.heap.size + 1, 0, none⟩ = some (.slice A0 nf c0') ∧ V.cell? ⟨w.heap.size + 2, 0, none⟩ = some (.slice A1 na c1') ∧ V.cell? ⟨W.heap.size, 0, none⟩ = some (.int .i64 xa) ∧ V.cell? ⟨W.heap.size, 1, none⟩ = some (.slice Ay ny cy)) (fun j => j == 10 || j == 11) (by kernel_rfl) (by kernel_rfl) (by rintro ⟨_, _, h⟩; exact h) (HCL.out _ (Mid.refl _ _).drew) (fun hHeld => ?_)
        first
          | (refine late_skip 0 rfl (by kernel_rfl) (by kernel_rfl) (by kernel_rfl) (by kernel_rfl) (by rfl) (by (first | exact Or.inr (by assumption) | exact Or.inl (by kernel_rfl))) (fun _ _ _ h => h) ?_)
          | (refine late_free 0 (v := ?_) rfl (by kernel_rfl) (by kernel_rfl) (by kernel_rfl) (by kernel_rfl) (by rfl) (by (first | exact Or.inr (by assumption) | exact Or.inl (by kernel_rfl))) (fun _ _ _ h => h) ?_ ?_; rotate_left; · (intro wS; go_simp; try with_reducible rfl))
          | (refine late_pureT 0 (v := ?_) rfl (by kernel_rfl) (by kernel_rfl) (by kernel_rfl) (by kernel_rfl) (by rfl) (by assumption) (fun _ _ _ h => h) (by kernel_rfl) (by kernel_rfl) (by kernel_rfl) ?_ ?_; rotate_left; · (intro wS hSw; (try dsimp only at hSw); go_simp; try with_reducible rfl))
        simp only [Act.put, List.setIfInBounds_toArray, List.set_cons_zero, List.set_cons_succ]
        first
          | (refine late_skip 1 rfl (by kernel_rfl) (by kernel_rfl) (by kernel_rfl) (by kernel_rfl) (by rfl) (by (first | exact Or.inr (by assumption) | exact Or.inl (by kernel_rfl))) (fun _ _ _ h => h) ?_)
          | (refine late_free 1 (v := ?_) rfl (by kernel_rfl) (by kernel_rfl) (by kernel_rfl) (by kernel_rfl) (by rfl) (by (first | exact Or.inr (by assumption) | exact Or.inl (by kernel_rfl))) (fun _ _ _ h => h) ?_ ?_; rotate_left; · (intro wS; go_simp; try with_reducible rfl))
          | (refine late_pureT 1 (v := ?_) rfl (by kernel_rfl) (by kernel_rfl) (by kernel_rfl) (by kernel_rfl) (by rfl) (by assumption) (fun _ _ _ h => h) (by kernel_rfl) (by kernel_rfl) (by kernel_rfl) ?_ ?_; rotate_left; · (intro wS hSw; (try dsimp only at hSw); go_simp; try with_reducible rfl))
        simp only [Act.put, List.setIfInBounds_toArray, List.set_cons_zero, List.set_cons_succ]
        first
          | (refine late_skip 2 rfl (by kernel_rfl) (by kernel_rfl) (by kernel_rfl) (by kernel_rfl) (by rfl) (by (first | exact Or.inr (by assumption) | exact Or.inl (by kernel_rfl))) (fun _ _ _ h => h) ?_)
          | (refine late_free 2 (v := ?_) rfl (by kernel_rfl) (by kernel_rfl) (by kernel_rfl) (by kernel_rfl) (by rfl) (by (first | exact Or.inr (by assumption) | exact Or.inl (by kernel_rfl))) (fun _ _ _ h => h) ?_ ?_; rotate_left; · (intro wS; go_simp; try with_reducible rfl))
          | (refine late_pureT 2 (v := ?_) rfl (by kernel_rfl) (by kernel_rfl) (by kernel_rfl) (by kernel_rfl) (by rfl) (by assumption) (fun _ _ _ h => h) (by kernel_rfl) (by kernel_rfl) (by kernel_rfl) ?_ ?_; rotate_left; · (intro wS hSw; (try dsimp only at hSw); go_simp; try with_reducible rfl))
        simp only [Act.put, List.setIfInBounds_toArray, List.set_cons_zero, List.set_cons_succ]
        first
          | (refine late_skip 5 rfl (by kernel_rfl) (by kernel_rfl) (by kernel_rfl) (by kernel_rfl) (by rfl) (by (first | exact Or.inr (by assumption) | exact Or.inl (by kernel_rfl))) (fun _ _ _ h => h) ?_)
          | (refine late_free 5 (v := ?_) rfl (by kernel_rfl) (by kernel_rfl) (by kernel_rfl) (by kernel_rfl) (by rfl) (by (first | exact Or.inr (by assumption) | exact Or.inl (by kernel_rfl))) (fun _ _ _ h => h) ?_ ?_; rotate_left; · (intro wS; go_simp; try with_reducible rfl))
          | (refine late_pureT 5 (v := ?_) rfl (by kernel_rfl) (by kernel_rfl) (by kernel_rfl) (by kernel_rfl) (by rfl) (by assumption) (fun _ _ _ h => h) (by kernel_rfl) (by kernel_rfl) (by kernel_rfl) ?_ ?_; rotate_left; · (intro wS hSw; (try dsimp only at hSw); go_simp; try with_reducible rfl))
        simp only [Act.put, List.setIfInBounds_toArray, List.set_cons_zero, List.set_cons_succ]
        first
          | (refine late_skip 6 rfl (by kernel_rfl) (by kernel_rfl) (by kernel_rfl) (by kernel_rfl) (by rfl) (by (first | exact Or.inr (by assumption) | exact Or.inl (by kernel_rfl))) (fun _ _ _ h => h) ?_)
          | (refine late_free 6 (v := ?_) rfl (by kernel_rfl) (by kernel_rfl) (by kernel_rfl) (by kernel_rfl) (by rfl) (by (first | exact Or.inr (by assumption) | exact Or.inl (by kernel_rfl))) (fun _ _ _ h => h) ?_ ?_; rotate_left; · (intro wS; go_simp; try with_reducible rfl))
          | (refine late_pureT 6 (v := ?_) rfl (by kernel_rfl) (by kernel_rfl) (by kernel_rfl) (by kernel_rfl) (by rfl) (by assumption) (fun _ _ _ h => h) (by kernel_rfl) (by kernel_rfl) (by kernel_rfl) ?_ ?_; rotate_left; · (intro wS hSw; (try dsimp only at hSw); go_simp; try with_reducible rfl))
        simp only [Act.put, List.setIfInBounds_toArray, List.set_cons_zero, List.set_cons_succ]
        first
          | (refine late_skip 7 rfl (by kernel_rfl) (by kernel_rfl) (by kernel_rfl) (by kernel_rfl) (by rfl) (by (first | exact Or.inr (by assumption) | exact Or.inl (by kernel_rfl))) (fun _ _ _ h => h) ?_)
          | (refine late_free 7 (v := ?_) rfl (by kernel_rfl) (by kernel_rfl) (by kernel_rfl) (by kernel_rfl) (by rfl) (by (first | exact Or.inr (by assumption) | exact Or.inl (by kernel_rfl))) (fun _ _ _ h => h) ?_ ?_; rotate_left; · (intro wS; go_simp; try with_reducible rfl))
          | (refine late_pureT 7 (v := ?_) rfl (by kernel_rfl) (by kernel_rfl) (by kernel_rfl) (by kernel_rfl) (by rfl) (by assumption) (fun _ _ _ h => h) (by kernel_rfl) (by kernel_rfl) (by kernel_rfl) ?_ ?_; rotate_left; · (intro wS hSw; (try dsimp only at hSw); go_simp; try with_reducible rfl))
        simp only [Act.put, List.setIfInBounds_toArray, List.set_cons_zero, List.set_cons_succ]
        refine late_two 3 8 rfl rfl (by kernel_rfl) (fun K hK => ?_) (fun K hK => ?_)
        · go_simp
          have midA : Mid (w2.heap.size + 3) w₃ ((w₃.alloc (.cells #[.slice Ay ny cy] 47)).drew) := ((Mid.refl _ _).alloc _).drew
          have o1a : ((w₃.alloc (.cells #[.slice Ay ny cy] 47)).drew).ownsRow (w2.heap.size + 3) 47 1 (.slice A0 nf c0') nf vs := o1.alloc _
          have o2a : ((w₃.alloc (.cells #[.slice Ay ny cy] 47)).drew).ownsRow (w2.heap.size + 3) 3 1 (.slice A1 na c1') na (nums .i64 (ats.take k')) := o2.alloc _
          have hrX : Rd ((w₃.alloc (.cells #[.slice Ay ny cy] 47)).drew) 1 (some ⟨w₃.heap.size, 0, none⟩) 1 [.slice Ay ny cy] := Rd.of_blk ((Blk.new w₃ _ _).drew) rfl (fun j u hu => by rw [Nat.zero_add]; simpa using hu)
          refine hK.out _ _ (HCL.out _ midA) (fun hHeld0 => ?_)
          clear hK K
          try simp only [Act.put, List.setIfInBounds_toArray, List.set_cons_zero, List.set_cons_succ]
          refine late_two 4 8 rfl rfl (by kernel_rfl) (fun K hK => ?_) (fun K hK => ?_)
          · refine app_row_op (P := Try.prog) (W := ((w₃.alloc (.cells #[.slice Ay ny cy] 47)).drew)) (w2.heap.size + 3) _ _ _ 47 (Value.slice none 0 0) 1 24 rfl Try.underlying64 sl_info rfl (by omega) (.slice A0 nf c0') nf vs (some ⟨w₃.heap.size, 0, none⟩) 1 1 [.slice Ay ny cy] rfl rfl (by simp [Value.oneCell']) o1a hrX (Nat.le_trans hz33 midA.1.size) (by omega) (by omega) ?_
            intro v1 V2 ho1 hg1 _
            have mid2 := midA.grown o1a (.inl rfl) hg1
            have o2b := own_other o2a hg1 (own_block o1a) (by decide)
            obtain ⟨A4, c4, rfl, _⟩ := own_form ho1
            refine hK.out _ _ (HCL.out _ mid2) (fun hHeld1 => ?_)
            clear hK K
            try simp only [Act.put, List.setIfInBounds_toArray, List.set_cons_zero, List.set_cons_succ]
            refine late_one 8 rfl (by kernel_rfl) (fun K hK => ?_)
            go_simp
            have midB : Mid (w2.heap.size + 3) w₃ (V2.alloc (.cells #[.int .i64 xa] 3)) := mid2.alloc _
            have o1b : (V2.alloc (.cells #[.int .i64 xa] 3)).ownsRow (w2.heap.size + 3) 47 1 (.slice A4 (nf + 1) c4) (nf + 1) (vs ++ [.slice Ay ny cy]) := ho1.alloc _
            have o2c : (V2.alloc (.cells #[.int .i64 xa] 3)).ownsRow (w2.heap.size + 3) 3 1 (.slice A1 na c1') na (nums .i64 (ats.take k')) := o2b.alloc _
            have hrY : Rd (V2.alloc (.cells #[.int .i64 xa] 3)) 1 (some ⟨V2.heap.size, 0, none⟩) 1 [.int .i64 xa] := Rd.of_blk (Blk.new V2 _ _) rfl (fun j u hu => by rw [Nat.zero_add]; simpa using hu)
            refine hK.out _ _ (HCL.out _ midB) (fun hHeld3 => ?_)
            clear hK K
            try simp only [Act.put, List.setIfInBounds_toArray, List.set_cons_zero, List.set_cons_succ]
            refine late_one 9 rfl (by kernel_rfl) (fun K hK => ?_)
            refine app_row_op (P := Try.prog) (W := (V2.alloc (.cells #[.int .i64 xa] 3))) (w2.heap.size + 3) _ _ _ 3 (Value.int .i64 0) 1 8 rfl Try.underlying57 (by kernel_rfl) rfl (by omega) (.slice A1 na c1') na (nums .i64 (ats.take k')) (some ⟨V2.heap.size, 0, none⟩) 1 1 [.int .i64 xa] rfl rfl (by simp [Value.oneCell']) o2c hrY (Nat.le_trans hz33 midB.1.size) (by omega) (by omega) ?_
            intro v2 V3 ho2 hg2 _
            have mid3 := midB.grown o2c (.inr rfl) hg2
            have o1c := own_other o1b hg2 (own_block o2c) (by decide)
            obtain ⟨A9, c9, rfl, _⟩ := own_form ho2
            refine hK.out _ _ (HCL.out _ mid3) (fun hHeld2 => ?_)
            clear hK K
            try simp only [Act.put, List.setIfInBounds_toArray, List.set_cons_zero, List.set_cons_succ]
            have p1 := (mid3.2 _ _ _ (by decide) b1).cell
            have p2 := (mid3.2 _ _ _ (by decide) b1).frozen
            have p3 := (mid3.2 _ _ _ (by decide) b1).lt
            have p4 := (mid3.2 _ _ _ (by decide) b2).cell
            have p5 := (mid3.2 _ _ _ (by decide) b2).frozen
            have p6 := (mid3.2 _ _ _ (by decide) b2).lt
            have HRES := Lib.hid (fr_round (fs := fs) (ats := ats) (a := xa) (f := xf) (k := k') (by omega) hfw3 hz33 b1 b2 HV1.out hin3 hy3 HX.out mid3 (by rw [← HNF.out]; exact o1c) (by rw [← HNA.out]; exact ho2))
            refine late_last 10 rfl (by kernel_rfl) (by kernel_rfl) (fun K hK => ?_)
            go_simp
            refine hK.out _ _ ?_
            clear hK K
            try simp only [Act.put, List.setIfInBounds_toArray, List.set_cons_zero, List.set_cons_succ]
            refine late_last 11 rfl (by kernel_rfl) (by kernel_rfl) (fun K hK => ?_)
            go_simp
            refine hK.out _ _ ?_
            clear hK K
            try simp only [Act.put, List.setIfInBounds_toArray, List.set_cons_zero, List.set_cons_succ]
            refine late_done (by kernel_rfl) ?_
            exact HRES.out
          · go_simp
            have midA' : Mid (w2.heap.size + 3) w₃ (((w₃.alloc (.cells #[.slice Ay ny cy] 47)).alloc (.cells #[.int .i64 xa] 3)).drew) := (((Mid.refl _ _).alloc _).alloc _).drew
            have o1a' : (((w₃.alloc (.cells #[.slice Ay ny cy] 47)).alloc (.cells #[.int .i64 xa] 3)).drew).ownsRow (w2.heap.size + 3) 47 1 (.slice A0 nf c0') nf vs := (o1.alloc _).alloc _
            have o2a' : (((w₃.alloc (.cells #[.slice Ay ny cy] 47)).alloc (.cells #[.int .i64 xa] 3)).drew).ownsRow (w2.heap.size + 3) 3 1 (.slice A1 na c1') na (nums .i64 (ats.take k')) := (o2.alloc _).alloc _
            have hbX : Blk (((w₃.alloc (.cells #[.slice Ay ny cy] 47)).alloc (.cells #[.int .i64 xa] 3)).drew) (w₃.heap.size) 47 #[.slice Ay ny cy] := ((Blk.new w₃ _ _).alloc _).drew
            have hbY : Blk (((w₃.alloc (.cells #[.slice Ay ny cy] 47)).alloc (.cells #[.int .i64 xa] 3)).drew) (w₃.heap.size + 1) 3 #[.int .i64 xa] := (World.size_alloc w₃ (.cells #[.slice Ay ny cy] 47) ▸ (Blk.new (w₃.alloc (.cells #[.slice Ay ny cy] 47)) _ _)).drew
            have hrX := Rd.of_blk (n := 1) (size := 1) (xs := [.slice Ay ny cy]) (o := 0) hbX rfl (fun j u hu => by rw [Nat.zero_add]; simpa using hu)
            refine hK.out _ _ (HCL.out _ midA') (fun hHeld0' => ?_)
            clear hK K
            try simp only [Act.put, List.setIfInBounds_toArray, List.set_cons_zero, List.set_cons_succ]
            refine late_one 4 rfl (by kernel_rfl) (fun K hK => ?_)
            refine app_row_op (P := Try.prog) (W := (((w₃.alloc (.cells #[.slice Ay ny cy] 47)).alloc (.cells #[.int .i64 xa] 3)).drew)) (w2.heap.size + 3) _ _ _ 47 (Value.slice none 0 0) 1 24 rfl Try.underlying64 sl_info rfl (by omega) (.slice A0 nf c0') nf vs (some ⟨w₃.heap.size, 0, none⟩) 1 1 [.slice Ay ny cy] rfl rfl (by simp [Value.oneCell']) o1a' hrX (Nat.le_trans hz33 midA'.1.size) (by omega) (by omega) ?_
            intro v1 V2 ho1 hg1 _
            have mid2 := midA'.grown o1a' (.inl rfl) hg1
            have o2b := own_other o2a' hg1 (own_block o1a') (by decide)
            obtain ⟨A4, c4, rfl, _⟩ := own_form ho1
            refine hK.out _ _ (HCL.out _ mid2) (fun hHeld1 => ?_)
            clear hK K
            try simp only [Act.put, List.setIfInBounds_toArray, List.set_cons_zero, List.set_cons_succ]
            have hrY : Rd V2 1 (some ⟨w₃.heap.size + 1, 0, none⟩) 1 [.int .i64 xa] := Rd.of_blk (n := 1) (size := 1) (xs := [.int .i64 xa]) (o := 0) (hbY.grown hg1 (fun e => by
              have h1 := own_block o1a' _ e.symm
              obtain ⟨cs9, hcs9⟩ := h1
              unfold Blk at hbY
              rw [hbY] at hcs9
              cases hcs9)) rfl (fun j u hu => by rw [Nat.zero_add]; simpa using hu)
            refine late_one 9 rfl (by kernel_rfl) (fun K hK => ?_)
            refine app_row_op (P := Try.prog) (W := V2) (w2.heap.size + 3) _ _ _ 3 (Value.int .i64 0) 1 8 rfl Try.underlying57 (by kernel_rfl) rfl (by omega) (.slice A1 na c1') na (nums .i64 (ats.take k')) (some ⟨w₃.heap.size + 1, 0, none⟩) 1 1 [.int .i64 xa] rfl rfl (by simp [Value.oneCell']) o2b hrY (Nat.le_trans hz33 mid2.1.size) (by omega) (by omega) ?_
            intro v2 V3 ho2 hg2 _
            have mid3 := mid2.grown o2b (.inr rfl) hg2
            have o1c := own_other ho1 hg2 (own_block o2b) (by decide)
            obtain ⟨A9, c9, rfl, _⟩ := own_form ho2
            refine hK.out _ _ (HCL.out _ mid3) (fun hHeld2 => ?_)
            clear hK K
            try simp only [Act.put, List.setIfInBounds_toArray, List.set_cons_zero, List.set_cons_succ]
            have p1 := (mid3.2 _ _ _ (by decide) b1).cell
            have p2 := (mid3.2 _ _ _ (by decide) b1).frozen
            have p3 := (mid3.2 _ _ _ (by decide) b1).lt
            have p4 := (mid3.2 _ _ _ (by decide) b2).cell
            have p5 := (mid3.2 _ _ _ (by decide) b2).frozen
            have p6 := (mid3.2 _ _ _ (by decide) b2).lt
            have HRES := Lib.hid (fr_round (fs := fs) (ats := ats) (a := xa) (f := xf) (k := k') (by omega) hfw3 hz33 b1 b2 HV1.out hin3 hy3 HX.out mid3 (by rw [← HNF.out]; exact o1c) (by rw [← HNA.out]; exact ho2))
            refine late_last 10 rfl (by kernel_rfl) (by kernel_rfl) (fun K hK => ?_)
            go_simp
            refine hK.out _ _ ?_
            clear hK K
            try simp only [Act.put, List.setIfInBounds_toArray, List.set_cons_zero, List.set_cons_succ]
            refine late_last 11 rfl (by kernel_rfl) (by kernel_rfl) (fun K hK => ?_)
            go_simp
            refine hK.out _ _ ?_
            clear hK K
            try simp only [Act.put, List.setIfInBounds_toArray, List.set_cons_zero, List.set_cons_succ]
            refine late_done (by kernel_rfl) ?_
            exact HRES.out
        · go_simp
          have midZ : Mid (w2.heap.size + 3) w₃ ((w₃.alloc (.cells #[.int .i64 xa] 3)).drew) := ((Mid.refl _ _).alloc _).drew
          refine hK.out _ _ (HCL.out _ midZ) (fun hHeldZ => ?_)
          clear hK K
          try simp only [Act.put, List.setIfInBounds_toArray, List.set_cons_zero, List.set_cons_succ]
          refine late_one 3 rfl (by kernel_rfl) (fun K hK => ?_)
          go_simp
          have midA' : Mid (w2.heap.size + 3) w₃ (((w₃.alloc (.cells #[.int .i64 xa] 3)).alloc (.cells #[.slice Ay ny cy] 47)).drew) := (((Mid.refl _ _).alloc _).alloc _).drew
          have o1a' : (((w₃.alloc (.cells #[.int .i64 xa] 3)).alloc (.cells #[.slice Ay ny cy] 47)).drew).ownsRow (w2.heap.size + 3) 47 1 (.slice A0 nf c0') nf vs := (o1.alloc _).alloc _
          have o2a' : (((w₃.alloc (.cells #[.int .i64 xa] 3)).alloc (.cells #[.slice Ay ny cy] 47)).drew).ownsRow (w2.heap.size + 3) 3 1 (.slice A1 na c1') na (nums .i64 (ats.take k')) := (o2.alloc _).alloc _
          have hbX : Blk (((w₃.alloc (.cells #[.int .i64 xa] 3)).alloc (.cells #[.slice Ay ny cy] 47)).drew) (w₃.heap.size + 1) 47 #[.slice Ay ny cy] := (World.size_alloc w₃ (.cells #[.int .i64 xa] 3) ▸ (Blk.new (w₃.alloc (.cells #[.int .i64 xa] 3)) _ _)).drew
          have hbY : Blk (((w₃.alloc (.cells #[.int .i64 xa] 3)).alloc (.cells #[.slice Ay ny cy] 47)).drew) (w₃.heap.size) 3 #[.int .i64 xa] := ((Blk.new w₃ _ _).alloc _).drew
          have hrX := Rd.of_blk (n := 1) (size := 1) (xs := [.slice Ay ny cy]) (o := 0) hbX rfl (fun j u hu => by rw [Nat.zero_add]; simpa using hu)
          refine hK.out _ _ (HCL.out _ midA') (fun hHeld0' => ?_)
          clear hK K
          try simp only [Act.put, List.setIfInBounds_toArray, List.set_cons_zero, List.set_cons_succ]
          refine late_one 4 rfl (by kernel_rfl) (fun K hK => ?_)
          refine app_row_op (P := Try.prog) (W := (((w₃.alloc (.cells #[.int .i64 xa] 3)).alloc (.cells #[.slice Ay ny cy] 47)).drew)) (w2.heap.size + 3) _ _ _ 47 (Value.slice none 0 0) 1 24 rfl Try.underlying64 sl_info rfl (by omega) (.slice A0 nf c0') nf vs (some ⟨w₃.heap.size + 1, 0, none⟩) 1 1 [.slice Ay ny cy] rfl rfl (by simp [Value.oneCell']) o1a' hrX (Nat.le_trans hz33 midA'.1.size) (by omega) (by omega) ?_
          intro v1 V2 ho1 hg1 _
          have mid2 := midA'.grown o1a' (.inl rfl) hg1
          have o2b := own_other o2a' hg1 (own_block o1a') (by decide)
          obtain ⟨A4, c4, rfl, _⟩ := own_form ho1
          refine hK.out _ _ (HCL.out _ mid2) (fun hHeld1 => ?_)
          clear hK K
          try simp only [Act.put, List.setIfInBounds_toArray, List.set_cons_zero, List.set_cons_succ]
          have hrY : Rd V2 1 (some ⟨w₃.heap.size, 0, none⟩) 1 [.int .i64 xa] := Rd.of_blk (n := 1) (size := 1) (xs := [.int .i64 xa]) (o := 0) (hbY.grown hg1 (fun e => by
            have h1 := own_block o1a' _ e.symm
            obtain ⟨cs9, hcs9⟩ := h1
            unfold Blk at hbY
            rw [hbY] at hcs9
            cases hcs9)) rfl (fun j u hu => by rw [Nat.zero_add]; simpa using hu)
          refine late_one 9 rfl (by kernel_rfl) (fun K hK => ?_)
          refine app_row_op (P := Try.prog) (W := V2) (w2.heap.size + 3) _ _ _ 3 (Value.int .i64 0) 1 8 rfl Try.underlying57 (by kernel_rfl) rfl (by omega) (.slice A1 na c1') na (nums .i64 (ats.take k')) (some ⟨w₃.heap.size, 0, none⟩) 1 1 [.int .i64 xa] rfl rfl (by simp [Value.oneCell']) o2b hrY (Nat.le_trans hz33 mid2.1.size) (by omega) (by omega) ?_
          intro v2 V3 ho2 hg2 _
          have mid3 := mid2.grown o2b (.inr rfl) hg2
          have o1c := own_other ho1 hg2 (own_block o2b) (by decide)
          obtain ⟨A9, c9, rfl, _⟩ := own_form ho2
          refine hK.out _ _ (HCL.out _ mid3) (fun hHeld2 => ?_)
          clear hK K
          try simp only [Act.put, List.setIfInBounds_toArray, List.set_cons_zero, List.set_cons_succ]
          have p1 := (mid3.2 _ _ _ (by decide) b1).cell
          have p2 := (mid3.2 _ _ _ (by decide) b1).frozen
          have p3 := (mid3.2 _ _ _ (by decide) b1).lt
          have p4 := (mid3.2 _ _ _ (by decide) b2).cell
          have p5 := (mid3.2 _ _ _ (by decide) b2).frozen
          have p6 := (mid3.2 _ _ _ (by decide) b2).lt
          have HRES := Lib.hid (fr_round (fs := fs) (ats := ats) (a := xa) (f := xf) (k := k') (by omega) hfw3 hz33 b1 b2 HV1.out hin3 hy3 HX.out mid3 (by rw [← HNF.out]; exact o1c) (by rw [← HNA.out]; exact ho2))
          refine late_last 10 rfl (by kernel_rfl) (by kernel_rfl) (fun K hK => ?_)
          go_simp
          refine hK.out _ _ ?_
          clear hK K
          try simp only [Act.put, List.setIfInBounds_toArray, List.set_cons_zero, List.set_cons_succ]
          refine late_last 11 rfl (by kernel_rfl) (by kernel_rfl) (fun K hK => ?_)
          go_simp
          refine hK.out _ _ ?_
          clear hK K
          try simp only [Act.put, List.setIfInBounds_toArray, List.set_cons_zero, List.set_cons_succ]
          refine late_done (by kernel_rfl) ?_
          exact HRES.out
end Go.Proofs.Ytmpjdploacfmeaa
