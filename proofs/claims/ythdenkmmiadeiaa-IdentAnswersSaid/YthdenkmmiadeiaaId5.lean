/- Contract of Read (package ident). -/
import Derived.Test.YthdenkmmiadeiaaId4
namespace Go.Proofs.Ythdenkmmiadeiaa
set_option linter.unusedSimpArgs false
set_option linter.unusedVariables false
open Go.RowKit

def hdrBad (d : List Int) : Prop := d.length < 6 ∨ 252 < d.length ∨ d.getD 0 0 ≠ 14 ∨ (d.getD 3 0 ≠ 0 ∧ d.getD 3 0 ≠ 255)
instance (d : List Int) : Decidable (hdrBad d) := by unfold hdrBad; infer_instance
def ptOf (d : List Int) (S : List (Int × List Int)) : Ps := ⟨d.getD 1 0, d.getD 2 0 - 128, decide (d.getD 3 0 = 255), d.getD 4 0, S⟩
def readO (d : List Int) (o : Option (List (Int × List Int))) : Option Ps := match o with
  | none => none
  | some S => if (S.length : Int) = d.getD 5 0 ∧ ptMay (ptOf d S) = true then some (ptOf d S) else none
/-- The part that bytes say. -/
def readS (d : List Int) : Option Ps := if hdrBad d then none else readO d (objS (d.drop 6))
def ps0 : Ps := ⟨0, 0, false, 0, []⟩
def partPost (o : Option Ps) (e' : Value) (w : World) (e : Ending) (w' : World) : Prop :=
  ∃ p : Pt, e = .returned (.tuple #[p.val, e']) ∧ p.ok w' ∧ p.s = o.getD ps0 ∧ (∀ x ∈ p.L, x.n ≤ 255) ∧ Fr nob w w' ∧ OwnObs w' w.heap.size (.slice p.A p.n p.c) p.n p.L
def errR (o : Option Ps) : Int := if o.isSome then 0 else 14
def readPost (d : List Int) (w : World) : Ending → World → Prop := partPost (readS d) (.int .i64 (errR (readS d))) w
def pt0 : Pt := ⟨0, 0, false, 0, none, 0, 0, []⟩
theorem pt0_ok (w : World) : pt0.ok w := ⟨⟨Rd.nil_ _ _ _, by simp [pt0]⟩, by simp [pt0], by simp [pt0]⟩
theorem Blk.set5 {w : World} {g : Nat} {t : TypeId} {x0 x1 x2 x3 x4 : Value} (h : Blk w g t #[x0, x1, x2, x3, x4]) (d0 d1 d2 d3 d4 : Value) :
    Blk (((((w.setCell ⟨g, 0, none⟩ d0).setCell ⟨g, 1, none⟩ d1).setCell ⟨g, 2, none⟩ d2).setCell ⟨g, 3, none⟩ d3).setCell ⟨g, 4, none⟩ d4) g t #[d0, d1, d2, d3, d4] := by
  have hE := ((((h.set_ 0 d0).set_ 1 d1).set_ 2 d2).set_ 3 d3).set_ 4 d4
  simp only [List.setIfInBounds_toArray, List.set_cons_zero, List.set_cons_succ] at hE
  exact hE
theorem Fr.set5 {S : Nat → Prop} {w w' : World} (h : Fr S w w') {g : Nat} (hg : S g ∨ w.heap.size ≤ g) (d0 d1 d2 d3 d4 : Value) :
    Fr S w (((((w'.setCell ⟨g, 0, none⟩ d0).setCell ⟨g, 1, none⟩ d1).setCell ⟨g, 2, none⟩ d2).setCell ⟨g, 3, none⟩ d3).setCell ⟨g, 4, none⟩ d4) :=
  ((((h.set_ (p := ⟨g, 0, none⟩) hg d0).set_ (p := ⟨g, 1, none⟩) hg d1).set_ (p := ⟨g, 2, none⟩) hg d2).set_ (p := ⟨g, 3, none⟩) hg d3).set_ (p := ⟨g, 4, none⟩) hg d4
theorem num2 {w : World} {A : Option Addr} {n : Nat} {d : List Int} {b o : Nat} (h : Rd w 1 A n (nums .u8 d)) (hA : A = some ⟨b, o, none⟩) (i : Nat) (hi : i < n) : w.cell? ⟨b, o + i, none⟩ = some (.int .u8 (d.getD i 0)) := by
  obtain ⟨b', o', e, _, hc⟩ := h.num hi
  rw [hA] at e
  injection e with e
  injection e with e1 e2
  subst e1; subst e2
  exact hc

theorem Obs.frS {S : Nat → Prop} {w w' : World} {A : Option Addr} {n : Nat} {L : List Ob} (h : Obs w A n L) (hf : Fr S w w') (hA : ∀ ad, A = some ad → ¬ S ad.block) (hD : ∀ x ∈ L, ∀ ad, x.A = some ad → ¬ S ad.block) : Obs w' A n L :=
  ⟨h.rd.fr hf hA, fun x hx => ⟨(h.ok x hx).1.fr hf (hD x hx), (h.ok x hx).2⟩⟩
set_option maxHeartbeats 4000000 in
set_option maxRecDepth 100000 in
theorem ident_read (A : Option Addr) (m c : Nat) (d : List Int) (w : World) (hr : Rd w 1 A m (nums .u8 d)) (h8 : bytes8 d) (hmc : m ≤ c) (hc : c ≤ 9223372036854775807) :
    Calls Try.prog 15 #[.slice A m c] w (readPost d w) := by
  have hl := hr.numlen
  have HL := Lib.hid hl
  have hb0 := Blk.new w 24 #[.int .i64 0, .int .i64 0, .bool false, .int .i64 0, .slice none 0 0]
  have hf0 := (Fr.refl nob w).alloc (.cells #[.int .i64 0, .int .i64 0, .bool false, .int .i64 0, .slice none 0 0] 24)
  have bad : readS d = none → ∀ w', Fr nob w w' → readPost d w (.returned (.tuple #[.agg #[.int .i64 0, .int .i64 0, .bool false, .int .i64 0, .slice none 0 0], .int .i64 14])) w' := by
    intro h w' hf
    rw [readPost, h]
    exact ⟨pt0, rfl, pt0_ok _, rfl, by simp [pt0], hf, World.ownsRow_nil _ _ _ _, by simp [pt0]⟩
  have BAD := Lib.hid bad
  clear bad
  by_cases hlen : m < 6 ∨ 252 < m
  · have hbd : readS d = none := by rw [readS, if_pos (by unfold hdrBad; omega)]
    have HBD := Lib.hid hbd
    have hl2 : m < 6 ∨ (6 ≤ m ∧ 252 < m) := by omega
    clear hlen hbd hl
    rcases hl2 with hl2 | ⟨hl2, hl3⟩
    all_goals
      go_enter Try.func15, Try.ntmps15
      go_wp2_with fail
      refine bodyPost_ret (v := .tuple #[Value.agg #[.int .i64 0, .int .i64 0, .bool false, .int .i64 0, .slice none 0 0], .int .i64 14]) (by simp [results, Try.results15, go_sem]) rfl ?_
      exact BAD.out HBD.out _ hf0
  · obtain ⟨bB, oB, hA, hbB, _⟩ := hr.num (i := 0) (by omega)
    subst hA
    have c0 := num2 hr rfl 0 (by omega)
    have c1 := num2 hr rfl 1 (by omega)
    have c2 := num2 hr rfl 2 (by omega)
    have c3 := num2 hr rfl 3 (by omega)
    have c4 := num2 hr rfl 4 (by omega)
    have c5 := num2 hr rfl 5 (by omega)
    rw [Nat.add_zero] at c0
    have b1 := h8.at_ 1
    have b2 := h8.at_ 2
    have b3 := h8.at_ 3
    have b4 := h8.at_ 4
    have b5 := h8.at_ 5
    obtain ⟨d0, hd0⟩ : ∃ x, x = d.getD 0 0 := ⟨_, rfl⟩
    obtain ⟨d1, hd1⟩ : ∃ x, x = d.getD 1 0 := ⟨_, rfl⟩
    obtain ⟨d2, hd2⟩ : ∃ x, x = d.getD 2 0 := ⟨_, rfl⟩
    obtain ⟨d3, hd3⟩ : ∃ x, x = d.getD 3 0 := ⟨_, rfl⟩
    obtain ⟨d4, hd4⟩ : ∃ x, x = d.getD 4 0 := ⟨_, rfl⟩
    obtain ⟨d5, hd5⟩ : ∃ x, x = d.getD 5 0 := ⟨_, rfl⟩
    rw [← hd0] at c0
    rw [← hd1] at c1 b1
    rw [← hd2] at c2 b2
    rw [← hd3] at c3 b3
    rw [← hd4] at c4 b4
    rw [← hd5] at c5 b5
    have HD := Lib.hid (show d0 = d.getD 0 0 ∧ d1 = d.getD 1 0 ∧ d2 = d.getD 2 0 ∧ d3 = d.getD 3 0 ∧ d4 = d.getD 4 0 ∧ d5 = d.getD 5 0 from ⟨hd0, hd1, hd2, hd3, hd4, hd5⟩)
    clear hd0 hd1 hd2 hd3 hd4 hd5
    have hcl : ∀ V, Fr nob w V → V.cell? ⟨bB, oB, none⟩ = some (.int .u8 d0) ∧ V.cell? ⟨bB, oB + 1, none⟩ = some (.int .u8 d1) ∧ V.cell? ⟨bB, oB + 2, none⟩ = some (.int .u8 d2) ∧ V.cell? ⟨bB, oB + 3, none⟩ = some (.int .u8 d3) ∧ V.cell? ⟨bB, oB + 4, none⟩ = some (.int .u8 d4) ∧ V.cell? ⟨bB, oB + 5, none⟩ = some (.int .u8 d5) := fun V h =>
      ⟨(h.cell (p := ⟨bB, oB, none⟩) hbB (fun h => h)).trans c0, (h.cell (p := ⟨bB, _, none⟩) hbB (fun h => h)).trans c1, (h.cell (p := ⟨bB, _, none⟩) hbB (fun h => h)).trans c2, (h.cell (p := ⟨bB, _, none⟩) hbB (fun h => h)).trans c3, (h.cell (p := ⟨bB, _, none⟩) hbB (fun h => h)).trans c4, (h.cell (p := ⟨bB, _, none⟩) hbB (fun h => h)).trans c5⟩
    have HCL := Lib.hid hcl
    clear hcl
    have hm6 : 6 ≤ m := by omega
    have hm252 : m ≤ 252 := by omega
    clear hlen
    have hbB0 : bB < w.heap.size := hbB
    by_cases h14 : d0 = 14
    rotate_left
    · have hbd : readS d = none := by rw [readS, if_pos]; exact .inr (.inr (.inl (by rw [← HD.out.1]; exact h14)))
      have HBD := Lib.hid hbd
      have e14 : (d0 != 14) = true := by rw [bne_iff_ne]; exact h14
      clear h14 hbd hl
      go_enter Try.func15, Try.ntmps15
      go_wp2_with fail
      refine bodyPost_ret (v := .tuple #[Value.agg #[.int .i64 0, .int .i64 0, .bool false, .int .i64 0, .slice none 0 0], .int .i64 14]) (by simp [results, Try.results15, go_sem]) rfl ?_
      exact BAD.out HBD.out _ hf0
    have e14 : (d0 != 14) = false := by rw [bne_eq_false_iff_eq]; exact h14
    have H14 := Lib.hid h14
    clear h14
    by_cases hmore : d3 ≠ 0 ∧ d3 ≠ 255
    · have hbd : readS d = none := by rw [readS, if_pos]; exact .inr (.inr (.inr (by rw [← HD.out.2.2.2.1]; exact hmore)))
      have HBD := Lib.hid hbd
      have e0 : (d3 != 0) = true := by rw [bne_iff_ne]; exact hmore.1
      have e255 : (d3 != 255) = true := by rw [bne_iff_ne]; exact hmore.2
      clear hmore hbd hl
      go_enter Try.func15, Try.ntmps15
      go_wp2_with fail
      refine bodyPost_ret (v := .tuple #[Value.agg #[.int .i64 0, .int .i64 0, .bool false, .int .i64 0, .slice none 0 0], .int .i64 14]) (by simp [results, Try.results15, go_sem]) rfl ?_
      exact BAD.out HBD.out _ hf0
    · have hgood : ¬ hdrBad d := by
        unfold hdrBad
        have := HD.out
        have := H14.out
        omega
      have hrd : readS d = readO d (objS (d.drop 6)) := by rw [readS, if_neg hgood]
      have HRD := Lib.hid hrd
      obtain ⟨A6, hrun6, hcut6, _⟩ := cut_run (size := 1) Try.underlying25 (by kernel_rfl) (some ⟨bB, oB, none⟩) m c 6 6 rfl hm6 hmc
      have hr6 : Rd w 1 A6 (m - 6) (nums .u8 (d.drop 6)) := by
        have h := hcut6 w _ hr
        rwa [show (nums .u8 d).drop (6 * 1) = nums .u8 (d.drop 6) by simp [nums]] at h
      have h86 : bytes8 (d.drop 6) := fun z hz => h8 z (List.mem_of_mem_drop hz)
      have hd3 : d3 = 0 ∨ d3 = 255 := by omega
      have w2 : IntKind.i64.wrap (d2 - 128) = d2 - 128 := IntWalk.i64_in _ (by omega)
      clear hcut6 hgood hrd hmore hl
      obtain ⟨mb, emb, hmb⟩ : ∃ mb, (d3 == 255) = mb ∧ mb = decide (d3 = 255) := ⟨_, rfl, by by_cases h : d3 = 255 <;> simp [h]⟩
      have HMB := Lib.hid hmb
      clear hmb
      have e0 : ((d3 != 0) = false) ∨ ((d3 != 0) = true ∧ (d3 != 255) = false) := by
        rcases hd3 with h | h
        · exact .inl (by rw [bne_eq_false_iff_eq]; exact h)
        · exact .inr ⟨by rw [bne_iff_ne]; omega, by rw [bne_eq_false_iff_eq]; exact h⟩
      clear hd3
      have w1' : IntKind.i64.wrap d1 = d1 := IntWalk.i64_in _ (by omega)
      have w2' : IntKind.i64.wrap d2 = d2 := IntWalk.i64_in _ (by omega)
      have w4' : IntKind.i64.wrap d4 = d4 := IntWalk.i64_in _ (by omega)
      have w5' : IntKind.i64.wrap d5 = d5 := IntWalk.i64_in _ (by omega)
      have i1 : (1 : Int) < (m : Int) ∧ (2 : Int) < (m : Int) ∧ (3 : Int) < (m : Int) ∧ (4 : Int) < (m : Int) ∧ (5 : Int) < (m : Int) := by omega
      obtain ⟨i1, i2, i3, i4, i5⟩ := i1
      rcases e0 with e0 | ⟨e0, e1⟩
      all_goals
        go_enter Try.func15, Try.ntmps15
        go_wp2_with fail
        refine (ident_objects A6 (m - 6) (c - 6) (d.drop 6) _ (hr6.nob hf0) h86 (by omega) (by omega) (by omega)).mono ?_
        rintro e w1 ⟨A1, n1, c1x, L1, rfl, hown1, hL1, hn1, hf1⟩
        obtain ⟨hc1x, hc1m⟩ := hown1.caps
        have hO1 := hown1.obs
        have hx1 : ∀ x ∈ L1, x.n ≤ 255 := fun x hx => (hown1.2 x hx).2
        have hL1n := hO1.len
        have hf01 := hf0.trans hf1 (fun _ _ h => h)
        have hb1 := hb0.fr hf1 (fun h => h)
        have hz1 : w.heap.size < w1.heap.size := hb1.lt
        have hgeA := Lib.hid (own_ge hown1.1)
        have hgeD := Lib.hid (fun x hx => own_ge (hown1.2 x hx).1)
        have HOWN := Lib.hid hown1
        have hz01 : w.heap.size + 1 ≤ w1.heap.size := by omega
        clear hown1 hf0 hb0 hf1
        obtain ⟨ok, hok⟩ : ∃ ok, ok = (objS (d.drop 6)).isSome := ⟨_, rfl⟩
        rw [← hok]
        have HOK := Lib.hid hok
        have HL1 := Lib.hid hL1
        have HL1N := Lib.hid hL1n
        clear hok hL1 hL1n
        go_wp2_with fail
        refine wp_region_held_drew (S := fun w' => w'.cell? ⟨bB, oB, none⟩ = some (.int .u8 d0) ∧ w'.cell? ⟨bB, oB + 1, none⟩ = some (.int .u8 d1) ∧ w'.cell? ⟨bB, oB + 2, none⟩ = some (.int .u8 d2) ∧ w'.cell? ⟨bB, oB + 3, none⟩ = some (.int .u8 d3) ∧ w'.cell? ⟨bB, oB + 4, none⟩ = some (.int .u8 d4) ∧ w'.cell? ⟨bB, oB + 5, none⟩ = some (.int .u8 d5)) (by kernel_rfl) (HCL.out _ hf01.drew) (fun hHeld => ?_)
        first
          | (refine mix_skip 0 rfl (by kernel_rfl) (by kernel_rfl) (by kernel_rfl) (by rfl) (by assumption) (fun _ _ _ h => h) ?_)
          | (refine mix_pure 0 (v := ?_) rfl (by kernel_rfl) (by kernel_rfl) (by kernel_rfl) (by rfl) (by assumption) (fun _ _ _ h => h) ?_ ?_; rotate_left; · (intro wS hSw; (try dsimp only at hSw); go_simp; try with_reducible rfl))
        simp only [Act.put, List.setIfInBounds_toArray, List.set_cons_zero, List.set_cons_succ]
        first
          | (refine mix_skip 1 rfl (by kernel_rfl) (by kernel_rfl) (by kernel_rfl) (by rfl) (by assumption) (fun _ _ _ h => h) ?_)
          | (refine mix_pure 1 (v := ?_) rfl (by kernel_rfl) (by kernel_rfl) (by kernel_rfl) (by rfl) (by assumption) (fun _ _ _ h => h) ?_ ?_; rotate_left; · (intro wS hSw; (try dsimp only at hSw); go_simp; try with_reducible rfl))
        simp only [Act.put, List.setIfInBounds_toArray, List.set_cons_zero, List.set_cons_succ]
        first
          | (refine mix_skip 2 rfl (by kernel_rfl) (by kernel_rfl) (by kernel_rfl) (by rfl) (by assumption) (fun _ _ _ h => h) ?_)
          | (refine mix_pure 2 (v := ?_) rfl (by kernel_rfl) (by kernel_rfl) (by kernel_rfl) (by rfl) (by assumption) (fun _ _ _ h => h) ?_ ?_; rotate_left; · (intro wS hSw; (try dsimp only at hSw); go_simp; try with_reducible rfl))
        simp only [Act.put, List.setIfInBounds_toArray, List.set_cons_zero, List.set_cons_succ]
        first
          | (refine mix_skip 3 rfl (by kernel_rfl) (by kernel_rfl) (by kernel_rfl) (by rfl) (by assumption) (fun _ _ _ h => h) ?_)
          | (refine mix_pure 3 (v := ?_) rfl (by kernel_rfl) (by kernel_rfl) (by kernel_rfl) (by rfl) (by assumption) (fun _ _ _ h => h) ?_ ?_; rotate_left; · (intro wS hSw; (try dsimp only at hSw); go_simp; try with_reducible rfl))
        simp only [Act.put, List.setIfInBounds_toArray, List.set_cons_zero, List.set_cons_succ]
        first
          | (refine mix_skip 4 rfl (by kernel_rfl) (by kernel_rfl) (by kernel_rfl) (by rfl) (by assumption) (fun _ _ _ h => h) ?_)
          | (refine mix_pure 4 (v := ?_) rfl (by kernel_rfl) (by kernel_rfl) (by kernel_rfl) (by rfl) (by assumption) (fun _ _ _ h => h) ?_ ?_; rotate_left; · (intro wS hSw; (try dsimp only at hSw); go_simp; try with_reducible rfl))
        simp only [Act.put, List.setIfInBounds_toArray, List.set_cons_zero, List.set_cons_succ]
        first
          | (refine mix_skip 5 rfl (by kernel_rfl) (by kernel_rfl) (by kernel_rfl) (by rfl) (by assumption) (fun _ _ _ h => h) ?_)
          | (refine mix_pure 5 (v := ?_) rfl (by kernel_rfl) (by kernel_rfl) (by kernel_rfl) (by rfl) (by assumption) (fun _ _ _ h => h) ?_ ?_; rotate_left; · (intro wS hSw; (try dsimp only at hSw); go_simp; try with_reducible rfl))
        simp only [Act.put, List.setIfInBounds_toArray, List.set_cons_zero, List.set_cons_succ]
        first
          | (refine mix_skip 6 rfl (by kernel_rfl) (by kernel_rfl) (by kernel_rfl) (by rfl) (by assumption) (fun _ _ _ h => h) ?_)
          | (refine mix_pure 6 (v := ?_) rfl (by kernel_rfl) (by kernel_rfl) (by kernel_rfl) (by rfl) (by assumption) (fun _ _ _ h => h) ?_ ?_; rotate_left; · (intro wS hSw; (try dsimp only at hSw); go_simp; try with_reducible rfl))
        simp only [Act.put, List.setIfInBounds_toArray, List.set_cons_zero, List.set_cons_succ]
        first
          | (refine mix_skip 7 rfl (by kernel_rfl) (by kernel_rfl) (by kernel_rfl) (by rfl) (by assumption) (fun _ _ _ h => h) ?_)
          | (refine mix_pure 7 (v := ?_) rfl (by kernel_rfl) (by kernel_rfl) (by kernel_rfl) (by rfl) (by assumption) (fun _ _ _ h => h) ?_ ?_; rotate_left; · (intro wS hSw; (try dsimp only at hSw); go_simp; try with_reducible rfl))
        simp only [Act.put, List.setIfInBounds_toArray, List.set_cons_zero, List.set_cons_succ]
        first
          | (refine mix_skip 8 rfl (by kernel_rfl) (by kernel_rfl) (by kernel_rfl) (by rfl) (by assumption) (fun _ _ _ h => h) ?_)
          | (refine mix_pure 8 (v := ?_) rfl (by kernel_rfl) (by kernel_rfl) (by kernel_rfl) (by rfl) (by assumption) (fun _ _ _ h => h) ?_ ?_; rotate_left; · (intro wS hSw; (try dsimp only at hSw); go_simp; try with_reducible rfl))
        simp only [Act.put, List.setIfInBounds_toArray, List.set_cons_zero, List.set_cons_succ]
        first
          | (refine mix_skip 9 rfl (by kernel_rfl) (by kernel_rfl) (by kernel_rfl) (by rfl) (by assumption) (fun _ _ _ h => h) ?_)
          | (refine mix_pure 9 (v := ?_) rfl (by kernel_rfl) (by kernel_rfl) (by kernel_rfl) (by rfl) (by assumption) (fun _ _ _ h => h) ?_ ?_; rotate_left; · (intro wS hSw; (try dsimp only at hSw); go_simp; try with_reducible rfl))
        simp only [Act.put, List.setIfInBounds_toArray, List.set_cons_zero, List.set_cons_succ]
        first
          | (refine mix_skip 10 rfl (by kernel_rfl) (by kernel_rfl) (by kernel_rfl) (by rfl) (by assumption) (fun _ _ _ h => h) ?_)
          | (refine mix_pure 10 (v := ?_) rfl (by kernel_rfl) (by kernel_rfl) (by kernel_rfl) (by rfl) (by assumption) (fun _ _ _ h => h) ?_ ?_; rotate_left; · (intro wS hSw; (try dsimp only at hSw); go_simp; try with_reducible rfl))
        simp only [Act.put, List.setIfInBounds_toArray, List.set_cons_zero, List.set_cons_succ]
        first
          | (refine mix_skip 11 rfl (by kernel_rfl) (by kernel_rfl) (by kernel_rfl) (by rfl) (by assumption) (fun _ _ _ h => h) ?_)
          | (refine mix_pure 11 (v := ?_) rfl (by kernel_rfl) (by kernel_rfl) (by kernel_rfl) (by rfl) (by assumption) (fun _ _ _ h => h) ?_ ?_; rotate_left; · (intro wS hSw; (try dsimp only at hSw); go_simp; try with_reducible rfl))
        simp only [Act.put, List.setIfInBounds_toArray, List.set_cons_zero, List.set_cons_succ]
        first
          | (refine mix_skip 12 rfl (by kernel_rfl) (by kernel_rfl) (by kernel_rfl) (by rfl) (by assumption) (fun _ _ _ h => h) ?_)
          | (refine mix_pure 12 (v := ?_) rfl (by kernel_rfl) (by kernel_rfl) (by kernel_rfl) (by rfl) (by assumption) (fun _ _ _ h => h) ?_ ?_; rotate_left; · (intro wS hSw; (try dsimp only at hSw); go_simp; try with_reducible rfl))
        simp only [Act.put, List.setIfInBounds_toArray, List.set_cons_zero, List.set_cons_succ]
        first
          | (refine mix_skip 13 rfl (by kernel_rfl) (by kernel_rfl) (by kernel_rfl) (by rfl) (by assumption) (fun _ _ _ h => h) ?_)
          | (refine mix_pure 13 (v := ?_) rfl (by kernel_rfl) (by kernel_rfl) (by kernel_rfl) (by rfl) (by assumption) (fun _ _ _ h => h) ?_ ?_; rotate_left; · (intro wS hSw; (try dsimp only at hSw); go_simp; try with_reducible rfl))
        simp only [Act.put, List.setIfInBounds_toArray, List.set_cons_zero, List.set_cons_succ]
        first
          | (refine mix_skip 14 rfl (by kernel_rfl) (by kernel_rfl) (by kernel_rfl) (by rfl) (by assumption) (fun _ _ _ h => h) ?_)
          | (refine mix_pure 14 (v := ?_) rfl (by kernel_rfl) (by kernel_rfl) (by kernel_rfl) (by rfl) (by assumption) (fun _ _ _ h => h) ?_ ?_; rotate_left; · (intro wS hSw; (try dsimp only at hSw); go_simp; try with_reducible rfl))
        simp only [Act.put, List.setIfInBounds_toArray, List.set_cons_zero, List.set_cons_succ]
        first
          | (refine mix_skip 15 rfl (by kernel_rfl) (by kernel_rfl) (by kernel_rfl) (by rfl) (by assumption) (fun _ _ _ h => h) ?_)
          | (refine mix_pure 15 (v := ?_) rfl (by kernel_rfl) (by kernel_rfl) (by kernel_rfl) (by rfl) (by assumption) (fun _ _ _ h => h) ?_ ?_; rotate_left; · (intro wS hSw; (try dsimp only at hSw); go_simp; try with_reducible rfl))
        simp only [Act.put, List.setIfInBounds_toArray, List.set_cons_zero, List.set_cons_succ]
        first
          | (refine mix_skip 16 rfl (by kernel_rfl) (by kernel_rfl) (by kernel_rfl) (by rfl) (by assumption) (fun _ _ _ h => h) ?_)
          | (refine mix_pure 16 (v := ?_) rfl (by kernel_rfl) (by kernel_rfl) (by kernel_rfl) (by rfl) (by assumption) (fun _ _ _ h => h) ?_ ?_; rotate_left; · (intro wS hSw; (try dsimp only at hSw); go_simp; try with_reducible rfl))
        simp only [Act.put, List.setIfInBounds_toArray, List.set_cons_zero, List.set_cons_succ]
        first
          | (refine mix_skip 17 rfl (by kernel_rfl) (by kernel_rfl) (by kernel_rfl) (by rfl) (by assumption) (fun _ _ _ h => h) ?_)
          | (refine mix_pure 17 (v := ?_) rfl (by kernel_rfl) (by kernel_rfl) (by kernel_rfl) (by rfl) (by assumption) (fun _ _ _ h => h) ?_ ?_; rotate_left; · (intro wS hSw; (try dsimp only at hSw); go_simp; try with_reducible rfl))
        simp only [Act.put, List.setIfInBounds_toArray, List.set_cons_zero, List.set_cons_succ]
        first
          | (refine mix_skip 18 rfl (by kernel_rfl) (by kernel_rfl) (by kernel_rfl) (by rfl) (by assumption) (fun _ _ _ h => h) ?_)
          | (refine mix_pure 18 (v := ?_) rfl (by kernel_rfl) (by kernel_rfl) (by kernel_rfl) (by rfl) (by assumption) (fun _ _ _ h => h) ?_ ?_; rotate_left; · (intro wS hSw; (try dsimp only at hSw); go_simp; try with_reducible rfl))
        simp only [Act.put, List.setIfInBounds_toArray, List.set_cons_zero, List.set_cons_succ]
        refine mix_one 19 rfl (by kernel_rfl) (fun K hK => ?_)
        go_simp
        refine hK.out _ _ (HCL.out _ ((hf01.alloc (.cells #[.int .i64 0, .int .i64 0, .bool false, .int .i64 0, .slice none 0 0] 24)).drew)) (fun hHeld0 => ?_)
        clear hK K
        try simp only [Act.put, List.setIfInBounds_toArray, List.set_cons_zero, List.set_cons_succ]
        refine mix_one 20 rfl (by kernel_rfl) (fun K hK => ?_)
        go_simp
        refine hK.out _ _ (HCL.out _ ((hf01.alloc (.cells #[.int .i64 d1, .int .i64 (d2 - 128), .bool mb, .int .i64 d4, .slice A1 n1 c1x] 24)).drew)) (fun hHeld1 => ?_)
        clear hK K
        try simp only [Act.put, List.setIfInBounds_toArray, List.set_cons_zero, List.set_cons_succ]
        refine wpAnyH_done (by kernel_rfl) ?_ _
        clear hHeld hHeld0 hHeld1
        have hb6 := (Blk.new w1 24 #[.int .i64 d1, .int .i64 (d2 - 128), .bool mb, .int .i64 d4, .slice A1 n1 c1x]).drew
        have hbz := (hb1.alloc (.cells #[.int .i64 d1, .int .i64 (d2 - 128), .bool mb, .int .i64 d4, .slice A1 n1 c1x] 24)).drew
        have hf4 := (hf01.alloc (.cells #[.int .i64 d1, .int .i64 (d2 - 128), .bool mb, .int .i64 d4, .slice A1 n1 c1x] 24)).drew
        have hO4 := hO1.nob (((Fr.refl nob w1).alloc (.cells #[.int .i64 d1, .int .i64 (d2 - 128), .bool mb, .int .i64 d4, .slice A1 n1 c1x] 24)).drew)
        obtain ⟨g6, hg6⟩ : ∃ g6, g6 = w1.heap.size := ⟨_, rfl⟩
        rw [← hg6] at hb6
        have hf14 := (Fr.refl nob w1).alloc (.cells #[.int .i64 d1, .int .i64 (d2 - 128), .bool mb, .int .i64 d4, .slice A1 n1 c1x] 24) |>.drew
        obtain ⟨w4, hw4⟩ : ∃ w4, w4 = (w1.alloc (.cells #[.int .i64 d1, .int .i64 (d2 - 128), .bool mb, .int .i64 d4, .slice A1 n1 c1x] 24)).drew := ⟨_, rfl⟩
        rw [← hw4] at hb6 hbz hf4 hO4 hf14
        rw [← hw4, ← hg6]
        have hgz : w.heap.size < g6 := by omega
        clear hw4 hg6 hb1 hf01 hO1
        have qz := hbz.cell
        have qzf := hbz.frozen
        have q6 := hb6.cell
        have z1 := hbz.lt
        have z2 := hb6.lt
        obtain ⟨q0, q1, q2, q3, q4, q5⟩ := HCL.out w4 hf4
        cases ok with
        | false =>
          have hbd : readS d = none := by
            rw [HRD.out]
            have := HOK.out
            cases ho : objS (d.drop 6) with
            | none => rfl
            | some S => rw [ho] at this; cases this
          have HBD := Lib.hid hbd
          clear hbd
          go_wp2_with fail
          refine bodyPost_ret (v := .tuple #[Value.agg #[.int .i64 0, .int .i64 0, .bool false, .int .i64 0, .slice none 0 0], .int .i64 14]) (by simp [results, Try.results15, go_sem, qz]) rfl ?_
          exact BAD.out HBD.out _ (hf4.set5 (.inr (Nat.le_refl _)) _ _ _ _ _)
        | true =>
          have hos : objS (d.drop 6) = some (L1.map Ob.s) := by
            have h1 := HOK.out
            have h2 := HL1.out
            cases ho : objS (d.drop 6) with
            | none => rw [ho] at h1; cases h1
            | some S => rw [ho] at h2; rw [h2]; rfl
          have hps : ptOf d (L1.map Ob.s) = (⟨d1, d2 - 128, mb, d4, A1, n1, c1x, L1⟩ : Pt).s := by
            rw [ptOf, ← HD.out.2.1, ← HD.out.2.2.1, ← HD.out.2.2.2.1, ← HD.out.2.2.2.2.1, ← HMB.out]
            rfl
          have hro : readS d = if (n1 : Int) = d5 ∧ ptMay (⟨d1, d2 - 128, mb, d4, A1, n1, c1x, L1⟩ : Pt).s = true then some (⟨d1, d2 - 128, mb, d4, A1, n1, c1x, L1⟩ : Pt).s else none := by
            rw [HRD.out, hos, readO, hps, ← HD.out.2.2.2.2.2]
            simp only [List.length_map, HL1N.out]
          have HRO := Lib.hid hro
          clear hos hps hro
          by_cases hn5 : (n1 : Int) = d5
          rotate_left
          · have e5 : ((n1 : Int) != d5) = true := by rw [bne_iff_ne]; exact hn5
            have hbd : readS d = none := by rw [HRO.out, if_neg (fun h => hn5 h.1)]
            have HBD := Lib.hid hbd
            clear hbd hn5
            go_wp2_with fail
            refine bodyPost_ret (v := .tuple #[Value.agg #[.int .i64 0, .int .i64 0, .bool false, .int .i64 0, .slice none 0 0], .int .i64 14]) (by simp [results, Try.results15, go_sem, qz]) rfl ?_
            exact BAD.out HBD.out _ (hf4.set5 (.inr (Nat.le_refl _)) _ _ _ _ _)
          have e5 : ((n1 : Int) != d5) = false := by rw [bne_eq_false_iff_eq]; exact hn5
          have HN5 := Lib.hid hn5
          clear hn5
          have hpok : (⟨d1, d2 - 128, mb, d4, A1, n1, c1x, L1⟩ : Pt).ok w4 := ⟨hO4, hc1x, hc1m⟩
          have hmayc := Lib.hid (ident_may _ w4 hpok)
          simp only [Pt.val, Pt.cells] at hmayc
          go_wp2_with fail
          refine hmayc.out.mono ?_
          rintro e w5 ⟨rfl, hf5⟩
          have hbz5 := hbz.fr hf5 (fun h => h)
          have hb65 := hb6.fr hf5 (fun h => h)
          have hf45 := hf4.trans hf5 (fun _ _ h => h)
          have qz5 := hbz5.cell
          have qzf5 := hbz5.frozen
          have q65 := hb65.cell
          have z15 := hbz5.lt
          have z25 := hb65.lt
          clear qz qzf q6
          cases hmay : ptMay (⟨d1, d2 - 128, mb, d4, A1, n1, c1x, L1⟩ : Pt).s with
          | false =>
            have hbd : readS d = none := by rw [HRO.out, if_neg (fun h => by rw [hmay] at h; cases h.2)]
            have HBD := Lib.hid hbd
            clear hbd hmay
            go_wp2_with fail
            refine bodyPost_ret (v := .tuple #[Value.agg #[.int .i64 0, .int .i64 0, .bool false, .int .i64 0, .slice none 0 0], .int .i64 14]) (by simp [results, Try.results15, go_sem, qz5]) rfl ?_
            exact BAD.out HBD.out _ (hf45.set5 (.inr (Nat.le_refl _)) _ _ _ _ _)
          | true =>
            have hgd : readS d = some (⟨d1, d2 - 128, mb, d4, A1, n1, c1x, L1⟩ : Pt).s := by rw [HRO.out, if_pos ⟨HN5.out, hmay⟩]
            have HGD := Lib.hid hgd
            clear hgd hmay
            go_wp2_with fail
            refine bodyPost_ret (v := .tuple #[Value.agg #[.int .i64 d1, .int .i64 (d2 - 128), .bool mb, .int .i64 d4, .slice A1 n1 c1x], .int .i64 0]) (by simp [results, Try.results15, go_sem, qz5]) rfl ?_
            have hfin := hf45.set5 (g := w.heap.size) (.inr (Nat.le_refl _)) (.int .i64 d1) (.int .i64 (d2 - 128)) (.bool mb) (.int .i64 d4) (.slice A1 n1 c1x)
            rw [readPost, HGD.out]
            have hS15 := (Fr.refl (fun i => i = w.heap.size) w5).set5 (g := w.heap.size) (.inl rfl) (.int .i64 d1) (.int .i64 (d2 - 128)) (.bool mb) (.int .i64 d4) (.slice A1 n1 c1x)
            have hS1 := ((hf14.trans hf5 (fun _ _ h => h)).of_nob (S := fun i => i = w.heap.size)).trans hS15 (fun _ _ h => h)
            have hOwn : ∀ {n : Nat} {e : TypeId} {size : Nat} {v : Value} {xs : List Value}, w1.ownsRow ((w.alloc (.cells #[.int .i64 0, .int .i64 0, .bool false, .int .i64 0, .slice none 0 0] 24)).heap.size) e size v n xs → World.ownsRow _ w.heap.size e size v n xs := fun h =>
              own_base (own_fr h hS1 (fun k hk e => by have := own_at h k hk; simp at this; omega)) (by simp)
            have hOO : OwnObs _ w.heap.size (.slice A1 n1 c1x) n1 L1 := ⟨hOwn HOWN.out.1, fun y hy => ⟨hOwn (HOWN.out.2 y hy).1, (HOWN.out.2 y hy).2⟩⟩
            exact ⟨⟨d1, d2 - 128, mb, d4, A1, n1, c1x, L1⟩, rfl, ⟨hOO.obs, hc1x, hc1m⟩, rfl, hx1, hfin, hOO⟩
end Go.Proofs.Ythdenkmmiadeiaa
