/- Contract: an object is said behind what is being said (package ident). -/
import Derived.Test.YthdenkmmiadeiaaId1
namespace Go.Proofs.Ythdenkmmiadeiaa
set_option linter.unusedSimpArgs false
set_option linter.unusedVariables false
open Go.RowKit

/-- The bytes of an object. -/
def obB (x : Int × List Int) : List Int := x.1 :: (x.2.length : Int) :: x.2
theorem obB_len (x : Int × List Int) : (obB x).length = x.2.length + 2 := rfl
/-- What is being said: block g holds a slice that owns the bytes bs. -/
def Sd (w : World) (g base m : Nat) (bs : List Int) : Prop := ∃ v, Blk w g 104 #[v] ∧ w.ownsRow base 5 1 v m (nums .u8 bs)
/-- Blocks of other types are kept. -/
def keepsT (w w' : World) : Prop := ∀ (k : Nat) (t : TypeId) (cs : Array Value), Blk w k t cs → t ≠ 104 → t ≠ 5 → Blk w' k t cs
theorem keep_row {w w' : World} {base n k : Nat} {t : TypeId} {cs : Array Value} {size : Nat} {v : Value} {xs : List Value} (h : Blk w k t cs) (ho : w.ownsRow base 5 size v n xs) (hg : w.grownBy w' v.ownBlock) (ht : t ≠ 5) : Blk w' k t cs :=
  h.grown hg (fun e => by
    obtain ⟨cs', hcs⟩ := own_block ho k e.symm
    have h2 := h
    unfold Blk at h2
    rw [h2] at hcs
    cases hcs
    exact ht rfl)
def objPost (g base m : Nat) (bs : List Int) (x : Ob) (w : World) (e : Ending) (w' : World) : Prop :=
  e = .returned (.bool (decide (m + (x.n + 2) ≤ 252))) ∧ Fr (fun b => base ≤ b) w w' ∧
  (if m + (x.n + 2) ≤ 252 then Sd w' g base (m + (x.n + 2)) (bs ++ obB x.s) else Sd w' g base m bs) ∧ keepsT w w'
theorem rd2 (w : World) (a b : Int) : Rd (w.alloc (.cells #[.int .u8 a, .int .u8 b] 5)) 1 (some ⟨w.heap.size, 0, none⟩) 2 (nums .u8 [a, b]) :=
  Rd.of_blk (Blk.new w _ _) rfl (fun j u hu => by rw [Nat.zero_add]; simpa [nums] using hu)

set_option maxHeartbeats 2000000 in
set_option maxRecDepth 100000 in
theorem said_object (g base m : Nat) (bs : List Int) (x : Ob) (w : World) (hsd : Sd w g base m bs) (hm : m ≤ 252) (hbase : base ≤ w.heap.size) (hg : base ≤ g) (hxn : x.n ≤ 100000) (hxi : 0 ≤ x.id ∧ x.id ≤ 255)
    (hx : ∀ V, Fr (fun b => base ≤ b) w V → x.ok V) (hx2 : m + (x.n + 2) ≤ 252 → x.n ≤ 255) :
    Calls Try.prog 52 #[.pointer (some ⟨g, 0, none⟩), x.val] w (objPost g base m bs x w) := by
  obtain ⟨v, hb, ho⟩ := hsd
  obtain ⟨A, c, rfl, hmc, _⟩ := own_form ho
  obtain ⟨xi, xA, xn, xc, xd⟩ := x
  dsimp only at hxn hxi hx2
  have hxl : xd.length = xn := (hx w (Fr.refl _ _)).len
  have HXL := Lib.hid hxl
  have hxc : xn ≤ xc ∧ xc ≤ 9223372036854775807 := (hx w (Fr.refl _ _)).2
  have HX := Lib.hid hx
  clear hxl hx
  have hcap := own_cap ho
  have hbb := Blk.new w 49 #[.int .i64 xi, .slice xA xn xc]
  have hb1 := hb.alloc (.cells #[.int .i64 xi, .slice xA xn xc] 49)
  have ho1 := ho.alloc (.cells #[.int .i64 xi, .slice xA xn xc] 49)
  have hf1 : Fr (fun b => base ≤ b) w (w.alloc (.cells #[.int .i64 xi, .slice xA xn xc] 49)) := (Fr.refl _ _).alloc _
  have hgl := hb.lt
  obtain ⟨W, hW⟩ : ∃ W, W = w.alloc (.cells #[.int .i64 xi, .slice xA xn xc] 49) := ⟨_, rfl⟩
  have hK1 : ∀ (k : Nat) (t : TypeId) (cs : Array Value), Blk w k t cs → Blk W k t cs := fun k t cs h => by rw [hW]; exact h.alloc _
  rw [← hW] at hbb hb1 ho1 hf1
  have HW := Lib.hid hW
  clear hW
  have hS0 : ∀ V, Fr nob W V → V.cell? ⟨g, 0, none⟩ = some (.slice A m c) ∧ V.cell? ⟨w.heap.size, 0, none⟩ = some (.int .i64 xi) ∧ V.cell? ⟨w.heap.size, 1, none⟩ = some (.slice xA xn xc) := fun V h =>
    ⟨(hb1.fr h (fun h => h)).cell 0, (hbb.fr h (fun h => h)).cell 0, (hbb.fr h (fun h => h)).cell 1⟩
  have HS0 := Lib.hid hS0
  clear hS0
  have hw1 : IntKind.i64.wrap ((m : Int) + ((xn : Int) + 2)) = (m : Int) + ((xn : Int) + 2) := IntWalk.i64_in _ (by omega)
  have HW1 := Lib.hid hw1
  clear hw1
  rw [Ob.val]
  dsimp only
  go_enter Try.func52, Try.ntmps52
  go_wp2_with fail
  rw [← HW.out]
  have hw1 := HW1.out
  refine wp_region_held_drew (S := fun w' => w'.cell? ⟨g, 0, none⟩ = some (.slice A m c) ∧ w'.cell? ⟨w.heap.size, 0, none⟩ = some (.int .i64 xi) ∧ w'.cell? ⟨w.heap.size, 1, none⟩ = some (.slice xA xn xc)) (by kernel_rfl) (HS0.out _ (Fr.refl nob W).drew) (fun hHeld => ?_)
  first
    | (refine mix_skip 0 rfl (by kernel_rfl) (by kernel_rfl) (by kernel_rfl) (by rfl) (by assumption) (fun _ _ _ h => h) ?_)
    | (refine mix_pure 0 (v := ?_) rfl (by kernel_rfl) (by kernel_rfl) (by kernel_rfl) (by rfl) (by assumption) (fun _ _ _ h => h) ?_ ?_; rotate_left; · (intro wS hSw; (try dsimp only at hSw); go_simp; try with_reducible rfl))
  simp only [Act.put, List.setIfInBounds_toArray, List.set_cons_zero, List.set_cons_succ]
  first
    | (refine mix_skip 1 rfl (by kernel_rfl) (by kernel_rfl) (by kernel_rfl) (by rfl) (by assumption) (fun _ _ _ h => h) ?_)
    | (refine mix_pure 1 (v := ?_) rfl (by kernel_rfl) (by kernel_rfl) (by kernel_rfl) (by rfl) (by assumption) (fun _ _ _ h => h) ?_ ?_; rotate_left; · (intro wS hSw; (try dsimp only at hSw); go_simp; try with_reducible rfl))
  simp only [Act.put, List.setIfInBounds_toArray, List.set_cons_zero, List.set_cons_succ]
  first
    | (refine mix_skip 2 rfl (by kernel_rfl) (by kernel_rfl) (by kernel_rfl) (by rfl) (by assumption) (fun _ _ _ h => h) ?_)
    | (refine mix_pure 2 (v := ?_) rfl (by kernel_rfl) (by kernel_rfl) (by kernel_rfl) (by rfl) (by assumption) (fun _ _ _ h => h) ?_ ?_; rotate_left; · (intro wS hSw; (try dsimp only at hSw); go_simp; try with_reducible rfl))
  simp only [Act.put, List.setIfInBounds_toArray, List.set_cons_zero, List.set_cons_succ]
  first
    | (refine mix_skip 3 rfl (by kernel_rfl) (by kernel_rfl) (by kernel_rfl) (by rfl) (by assumption) (fun _ _ _ h => h) ?_)
    | (refine mix_pure 3 (v := ?_) rfl (by kernel_rfl) (by kernel_rfl) (by kernel_rfl) (by rfl) (by assumption) (fun _ _ _ h => h) ?_ ?_; rotate_left; · (intro wS hSw; (try dsimp only at hSw); go_simp; try with_reducible rfl))
  simp only [Act.put, List.setIfInBounds_toArray, List.set_cons_zero, List.set_cons_succ]
  first
    | (refine mix_skip 4 rfl (by kernel_rfl) (by kernel_rfl) (by kernel_rfl) (by rfl) (by assumption) (fun _ _ _ h => h) ?_)
    | (refine mix_pure 4 (v := ?_) rfl (by kernel_rfl) (by kernel_rfl) (by kernel_rfl) (by rfl) (by assumption) (fun _ _ _ h => h) ?_ ?_; rotate_left; · (intro wS hSw; (try dsimp only at hSw); go_simp; try with_reducible rfl))
  simp only [Act.put, List.setIfInBounds_toArray, List.set_cons_zero, List.set_cons_succ]
  first
    | (refine mix_skip 5 rfl (by kernel_rfl) (by kernel_rfl) (by kernel_rfl) (by rfl) (by assumption) (fun _ _ _ h => h) ?_)
    | (refine mix_pure 5 (v := ?_) rfl (by kernel_rfl) (by kernel_rfl) (by kernel_rfl) (by rfl) (by assumption) (fun _ _ _ h => h) ?_ ?_; rotate_left; · (intro wS hSw; (try dsimp only at hSw); go_simp; try with_reducible rfl))
  simp only [Act.put, List.setIfInBounds_toArray, List.set_cons_zero, List.set_cons_succ]
  refine mix_one 6 rfl (by kernel_rfl) (fun K hK => ?_)
  go_simp
  refine (size_any ⟨xi, xA, xn, xc, xd⟩ W.drew hxn).mono ?_
  rintro e w2 ⟨rfl, hf2⟩
  have hf02 : Fr nob W w2 := ((Fr.refl nob W).drew).trans hf2 (fun _ _ h => h)
  refine hK.out _ _ (HS0.out _ hf02) (fun hHeld0 => ?_)
  clear hK K
  try simp only [Act.put, List.setIfInBounds_toArray, List.set_cons_zero, List.set_cons_succ]
  first
    | (refine mix_skip 7 rfl (by kernel_rfl) (by kernel_rfl) (by kernel_rfl) (by rfl) (by assumption) (fun _ _ _ h => h) ?_)
    | (refine mix_pure 7 (v := ?_) rfl (by kernel_rfl) (by kernel_rfl) (by kernel_rfl) (by rfl) (by assumption) (fun _ _ _ h => h) ?_ ?_; rotate_left; · (intro wS hSw; (try dsimp only at hSw); go_simp; try with_reducible rfl))
  simp only [Act.put, List.setIfInBounds_toArray, List.set_cons_zero, List.set_cons_succ]
  first
    | (refine mix_skip 8 rfl (by kernel_rfl) (by kernel_rfl) (by kernel_rfl) (by rfl) (by assumption) (fun _ _ _ h => h) ?_)
    | (refine mix_pure 8 (v := ?_) rfl (by kernel_rfl) (by kernel_rfl) (by kernel_rfl) (by rfl) (by assumption) (fun _ _ _ h => h) ?_ ?_; rotate_left; · (intro wS hSw; (try dsimp only at hSw); go_simp; try with_reducible rfl))
  simp only [Act.put, List.setIfInBounds_toArray, List.set_cons_zero, List.set_cons_succ]
  refine wpAnyH_done (by kernel_rfl) ?_ _
  clear hHeld hHeld0 hw1
  have hb2 := hb1.fr hf02 (fun h => h)
  have hbb2 := hbb.fr hf02 (fun h => h)
  have ho2 := own_fr ho1 hf02 (fun _ _ h => h)
  have hfw2 : Fr (fun b => base ≤ b) w w2 := hf1.trans hf02 (fun _ _ h => h.elim)
  by_cases hbig : m + (xn + 2) ≤ 252
  rotate_left
  · have hd : decide ((252 : Int) < (m : Int) + ((xn : Int) + 2)) = true := decide_eq_true (by omega)
    go_wp2_with fail
    go_ret
    refine ⟨by rw [decide_eq_false hbig]; rfl, hfw2, ?_⟩
    rw [if_neg hbig]
    exact ⟨⟨_, hb2, ho2⟩, fun k t cs h _ _ => (hK1 k t cs h).fr hf02 (fun h => h)⟩
  have hd : decide ((252 : Int) < (m : Int) + ((xn : Int) + 2)) = false := decide_eq_false (by omega)
  have hx255 := hx2 hbig
  have hgz : g < w2.heap.size := hb2.lt
  have hbz : base ≤ w2.heap.size := by have := hfw2.size; omega
  go_wp2_with fail
  have hS2 : ∀ V, Blk V w.heap.size 49 #[.int .i64 xi, .slice xA xn xc] → V.cell? ⟨w.heap.size, 0, none⟩ = some (.int .i64 xi) ∧ V.cell? ⟨w.heap.size, 1, none⟩ = some (.slice xA xn xc) := fun V h' => ⟨h'.cell 0, h'.cell 1⟩
  have HS2 := Lib.hid hS2
  clear hS2 HS0
  have hw2 : IntKind.u8.wrap xi = xi := by simp [IntKind.wrap, IntKind.bits, IntKind.signed]; omega
  have hw3 : IntKind.u8.wrap (xn : Int) = (xn : Int) := by simp [IntKind.wrap, IntKind.bits, IntKind.signed]; omega
  have hw2' : xi % 256 = xi := by omega
  have hw3' : (xn : Int) % 256 = (xn : Int) := by omega
  have q2 := hb2.cell
  refine wp_region_held_drew (S := fun w' => w'.cell? ⟨w.heap.size, 0, none⟩ = some (.int .i64 xi) ∧ w'.cell? ⟨w.heap.size, 1, none⟩ = some (.slice xA xn xc)) (by kernel_rfl) (HS2.out _ hbb2) (fun hHeld => ?_)
  first
    | (refine mix_skip 0 rfl (by kernel_rfl) (by kernel_rfl) (by kernel_rfl) (by rfl) (by assumption) (fun _ _ _ h => h) ?_)
    | (refine mix_pure 0 (v := ?_) rfl (by kernel_rfl) (by kernel_rfl) (by kernel_rfl) (by rfl) (by assumption) (fun _ _ _ h => h) ?_ ?_; rotate_left; · (intro wS hSw; (try dsimp only at hSw); go_simp; try with_reducible rfl))
  simp only [Act.put, List.setIfInBounds_toArray, List.set_cons_zero, List.set_cons_succ]
  first
    | (refine mix_skip 1 rfl (by kernel_rfl) (by kernel_rfl) (by kernel_rfl) (by rfl) (by assumption) (fun _ _ _ h => h) ?_)
    | (refine mix_pure 1 (v := ?_) rfl (by kernel_rfl) (by kernel_rfl) (by kernel_rfl) (by rfl) (by assumption) (fun _ _ _ h => h) ?_ ?_; rotate_left; · (intro wS hSw; (try dsimp only at hSw); go_simp; try with_reducible rfl))
  simp only [Act.put, List.setIfInBounds_toArray, List.set_cons_zero, List.set_cons_succ]
  first
    | (refine mix_skip 2 rfl (by kernel_rfl) (by kernel_rfl) (by kernel_rfl) (by rfl) (by assumption) (fun _ _ _ h => h) ?_)
    | (refine mix_pure 2 (v := ?_) rfl (by kernel_rfl) (by kernel_rfl) (by kernel_rfl) (by rfl) (by assumption) (fun _ _ _ h => h) ?_ ?_; rotate_left; · (intro wS hSw; (try dsimp only at hSw); go_simp; try with_reducible rfl))
  simp only [Act.put, List.setIfInBounds_toArray, List.set_cons_zero, List.set_cons_succ]
  first
    | (refine mix_skip 3 rfl (by kernel_rfl) (by kernel_rfl) (by kernel_rfl) (by rfl) (by assumption) (fun _ _ _ h => h) ?_)
    | (refine mix_pure 3 (v := ?_) rfl (by kernel_rfl) (by kernel_rfl) (by kernel_rfl) (by rfl) (by assumption) (fun _ _ _ h => h) ?_ ?_; rotate_left; · (intro wS hSw; (try dsimp only at hSw); go_simp; try with_reducible rfl))
  simp only [Act.put, List.setIfInBounds_toArray, List.set_cons_zero, List.set_cons_succ]
  first
    | (refine mix_skip 5 rfl (by kernel_rfl) (by kernel_rfl) (by kernel_rfl) (by rfl) (by assumption) (fun _ _ _ h => h) ?_)
    | (refine mix_pure 5 (v := ?_) rfl (by kernel_rfl) (by kernel_rfl) (by kernel_rfl) (by rfl) (by assumption) (fun _ _ _ h => h) ?_ ?_; rotate_left; · (intro wS hSw; (try dsimp only at hSw); go_simp; try with_reducible rfl))
  simp only [Act.put, List.setIfInBounds_toArray, List.set_cons_zero, List.set_cons_succ]
  first
    | (refine mix_skip 6 rfl (by kernel_rfl) (by kernel_rfl) (by kernel_rfl) (by rfl) (by assumption) (fun _ _ _ h => h) ?_)
    | (refine mix_pure 6 (v := ?_) rfl (by kernel_rfl) (by kernel_rfl) (by kernel_rfl) (by rfl) (by assumption) (fun _ _ _ h => h) ?_ ?_; rotate_left; · (intro wS hSw; (try dsimp only at hSw); go_simp; try with_reducible rfl))
  simp only [Act.put, List.setIfInBounds_toArray, List.set_cons_zero, List.set_cons_succ]
  first
    | (refine mix_skip 7 rfl (by kernel_rfl) (by kernel_rfl) (by kernel_rfl) (by rfl) (by assumption) (fun _ _ _ h => h) ?_)
    | (refine mix_pure 7 (v := ?_) rfl (by kernel_rfl) (by kernel_rfl) (by kernel_rfl) (by rfl) (by assumption) (fun _ _ _ h => h) ?_ ?_; rotate_left; · (intro wS hSw; (try dsimp only at hSw); go_simp; try with_reducible rfl))
  simp only [Act.put, List.setIfInBounds_toArray, List.set_cons_zero, List.set_cons_succ]
  first
    | (refine mix_skip 8 rfl (by kernel_rfl) (by kernel_rfl) (by kernel_rfl) (by rfl) (by assumption) (fun _ _ _ h => h) ?_)
    | (refine mix_pure 8 (v := ?_) rfl (by kernel_rfl) (by kernel_rfl) (by kernel_rfl) (by rfl) (by assumption) (fun _ _ _ h => h) ?_ ?_; rotate_left; · (intro wS hSw; (try dsimp only at hSw); go_simp; try with_reducible rfl))
  simp only [Act.put, List.setIfInBounds_toArray, List.set_cons_zero, List.set_cons_succ]
  first
    | (refine mix_skip 9 rfl (by kernel_rfl) (by kernel_rfl) (by kernel_rfl) (by rfl) (by assumption) (fun _ _ _ h => h) ?_)
    | (refine mix_pure 9 (v := ?_) rfl (by kernel_rfl) (by kernel_rfl) (by kernel_rfl) (by rfl) (by assumption) (fun _ _ _ h => h) ?_ ?_; rotate_left; · (intro wS hSw; (try dsimp only at hSw); go_simp; try with_reducible rfl))
  simp only [Act.put, List.setIfInBounds_toArray, List.set_cons_zero, List.set_cons_succ]
  first
    | (refine mix_skip 10 rfl (by kernel_rfl) (by kernel_rfl) (by kernel_rfl) (by rfl) (by assumption) (fun _ _ _ h => h) ?_)
    | (refine mix_pure 10 (v := ?_) rfl (by kernel_rfl) (by kernel_rfl) (by kernel_rfl) (by rfl) (by assumption) (fun _ _ _ h => h) ?_ ?_; rotate_left; · (intro wS hSw; (try dsimp only at hSw); go_simp; try with_reducible rfl))
  simp only [Act.put, List.setIfInBounds_toArray, List.set_cons_zero, List.set_cons_succ]
  first
    | (refine mix_skip 11 rfl (by kernel_rfl) (by kernel_rfl) (by kernel_rfl) (by rfl) (by assumption) (fun _ _ _ h => h) ?_)
    | (refine mix_pure 11 (v := ?_) rfl (by kernel_rfl) (by kernel_rfl) (by kernel_rfl) (by rfl) (by assumption) (fun _ _ _ h => h) ?_ ?_; rotate_left; · (intro wS hSw; (try dsimp only at hSw); go_simp; try with_reducible rfl))
  simp only [Act.put, List.setIfInBounds_toArray, List.set_cons_zero, List.set_cons_succ]
  first
    | (refine mix_skip 14 rfl (by kernel_rfl) (by kernel_rfl) (by kernel_rfl) (by rfl) (by assumption) (fun _ _ _ h => h) ?_)
    | (refine mix_pure 14 (v := ?_) rfl (by kernel_rfl) (by kernel_rfl) (by kernel_rfl) (by rfl) (by assumption) (fun _ _ _ h => h) ?_ ?_; rotate_left; · (intro wS hSw; (try dsimp only at hSw); go_simp; try with_reducible rfl))
  simp only [Act.put, List.setIfInBounds_toArray, List.set_cons_zero, List.set_cons_succ]
  first
    | (refine mix_skip 15 rfl (by kernel_rfl) (by kernel_rfl) (by kernel_rfl) (by rfl) (by assumption) (fun _ _ _ h => h) ?_)
    | (refine mix_pure 15 (v := ?_) rfl (by kernel_rfl) (by kernel_rfl) (by kernel_rfl) (by rfl) (by assumption) (fun _ _ _ h => h) ?_ ?_; rotate_left; · (intro wS hSw; (try dsimp only at hSw); go_simp; try with_reducible rfl))
  simp only [Act.put, List.setIfInBounds_toArray, List.set_cons_zero, List.set_cons_succ]
  refine mix_two 4 12 rfl rfl (by kernel_rfl) (fun K hK => ?_) (fun K hK => ?_)
  all_goals
    go_simp
    first
      | (refine hK.out _ _ (HS2.out _ hbb2.drew) (fun hHeld0 => ?_); clear hK K; (try simp only [Act.put, List.setIfInBounds_toArray, List.set_cons_zero, List.set_cons_succ]); refine mix_one 12 rfl (by kernel_rfl) (fun K hK => ?_); go_simp; refine hK.out _ _ (HS2.out _ ((hbb2.alloc (.cells #[.int .u8 xi, .int .u8 xn] 5)).drew)) (fun hHeld1 => ?_); clear hK K; (try simp only [Act.put, List.setIfInBounds_toArray, List.set_cons_zero, List.set_cons_succ]))
      | (refine hK.out _ _ (HS2.out _ ((hbb2.alloc (.cells #[.int .u8 xi, .int .u8 xn] 5)).drew)) (fun hHeld0 => ?_); clear hK K; (try simp only [Act.put, List.setIfInBounds_toArray, List.set_cons_zero, List.set_cons_succ]); refine mix_one 4 rfl (by kernel_rfl) (fun K hK => ?_); go_simp; refine hK.out _ _ (HS2.out _ ((hbb2.alloc (.cells #[.int .u8 xi, .int .u8 xn] 5)).drew)) (fun hHeld1 => ?_); clear hK K; (try simp only [Act.put, List.setIfInBounds_toArray, List.set_cons_zero, List.set_cons_succ]))
    refine mix_one 13 rfl (by kernel_rfl) (fun K hK => ?_)
    rw [if_pos (by rfl)]
    have ho3 : ((w2.alloc (.cells #[.int .u8 xi, .int .u8 xn] 5)).drew).ownsRow base 5 1 (.slice A m c) m (nums .u8 bs) := ho2.alloc _
    have hr3 : Rd ((w2.alloc (.cells #[.int .u8 xi, .int .u8 xn] 5)).drew) 1 (some ⟨w2.heap.size, 0, none⟩) 2 (nums .u8 [xi, (xn : Int)]) := rd2 w2 xi xn
    refine app_row_op (P := Try.prog) (W := (w2.alloc (.cells #[.int .u8 xi, .int .u8 xn] 5)).drew) base _ _ _ 5 (Value.int .u8 0) 1 1 rfl Try.underlying25 (by kernel_rfl) rfl (by omega) (.slice A m c) m (nums .u8 bs) (some ⟨w2.heap.size, 0, none⟩) 2 2 (nums .u8 [xi, (xn : Int)]) rfl rfl (nums_one _ _) ho3 hr3 (by simp; omega) (by omega) (by omega) ?_
    intro v4 w4 ho4 hg4 _
    have hb4 := ((hb2.alloc (.cells #[.int .u8 xi, .int .u8 xn] 5)).drew).grown hg4 (fun e => by
      obtain ⟨cs, hcs⟩ := own_block ho2 g e.symm
      have h2 := hb2
      unfold Blk at h2
      rw [h2] at hcs
      cases hcs)
    have hbb4 := ((hbb2.alloc (.cells #[.int .u8 xi, .int .u8 xn] 5)).drew).grown hg4 (fun e => by
      obtain ⟨cs, hcs⟩ := own_block ho2 _ e.symm
      have h2 := hbb2
      unfold Blk at h2
      rw [h2] at hcs
      cases hcs)
    have hfw4 : Fr (fun b => base ≤ b) w w4 := ((hfw2.alloc _).drew).grown hg4 (fun k hk => .inl (own_at ho3 k hk))
    obtain ⟨A4, c4, rfl, _⟩ := own_form ho4
    refine hK.out _ _ (HS2.out _ hbb4) (fun hHeld2 => ?_)
    clear hK K
    try simp only [Act.put, List.setIfInBounds_toArray, List.set_cons_zero, List.set_cons_succ]
    refine mix_one 16 rfl (by kernel_rfl) (fun K hK => ?_)
    rw [if_pos (by rfl)]
    refine app_row_op (P := Try.prog) (W := w4) base _ _ _ 5 (Value.int .u8 0) 1 1 rfl Try.underlying25 (by kernel_rfl) rfl (by omega) (.slice A4 (m + 2) c4) (m + 2) (nums .u8 bs ++ nums .u8 [xi, (xn : Int)]) xA xn xc (nums .u8 xd) rfl rfl (nums_one _ _) ho4 (HX.out w4 hfw4).1 (by have := hfw4.size; omega) (by omega) (by omega) ?_
    intro v5 w5 ho5 hg5 _
    have hb5 := hb4.grown hg5 (fun e => by
      obtain ⟨cs, hcs⟩ := own_block ho4 g e.symm
      have h2 := hb4
      unfold Blk at h2
      rw [h2] at hcs
      cases hcs)
    have hbb5 := hbb4.grown hg5 (fun e => by
      obtain ⟨cs, hcs⟩ := own_block ho4 _ e.symm
      have h2 := hbb4
      unfold Blk at h2
      rw [h2] at hcs
      cases hcs)
    have hfw5 : Fr (fun b => base ≤ b) w w5 := hfw4.grown hg5 (fun k hk => .inl (own_at ho4 k hk))
    obtain ⟨A5, c5, rfl, _⟩ := own_form ho5
    have q5 := hb5.cell
    have q6 := hb5.frozen
    refine hK.out _ _ (HS2.out _ hbb5) (fun hHeld3 => ?_)
    clear hK K
    try simp only [Act.put, List.setIfInBounds_toArray, List.set_cons_zero, List.set_cons_succ]
    first
      | (refine mix_skip 17 rfl (by kernel_rfl) (by kernel_rfl) (by kernel_rfl) (by rfl) (by assumption) (fun _ _ _ h => h) ?_)
      | (refine mix_pure 17 (v := ?_) rfl (by kernel_rfl) (by kernel_rfl) (by kernel_rfl) (by rfl) (by assumption) (fun _ _ _ h => h) ?_ ?_; rotate_left; · (intro wS hSw; (try dsimp only at hSw); go_simp; try with_reducible rfl))
    simp only [Act.put, List.setIfInBounds_toArray, List.set_cons_zero, List.set_cons_succ]
    first
      | (refine mix_skip 18 rfl (by kernel_rfl) (by kernel_rfl) (by kernel_rfl) (by rfl) (by assumption) (fun _ _ _ h => h) ?_)
      | (refine mix_pure 18 (v := ?_) rfl (by kernel_rfl) (by kernel_rfl) (by kernel_rfl) (by rfl) (by assumption) (fun _ _ _ h => h) ?_ ?_; rotate_left; · (intro wS hSw; (try dsimp only at hSw); go_simp; try with_reducible rfl))
    simp only [Act.put, List.setIfInBounds_toArray, List.set_cons_zero, List.set_cons_succ]
    refine mix_one 19 rfl (by kernel_rfl) (fun K hK => ?_)
    go_simp
    have hne : w.heap.size ≠ g := by omega
    have hb6 := hb5.set_ 0 (.slice A5 (m + 2 + xn) c5)
    have hf6 : Fr (fun b => base ≤ b) w (w5.setCell ⟨g, 0, none⟩ (.slice A5 (m + 2 + xn) c5)) := hfw5.set_ (.inl hg) _
    have ho6 := own_set (i := 0) ho5 hb5 (by decide) (.slice A5 (m + 2 + xn) c5)
    refine hK.out _ _ (HS2.out _ (hbb5.far (p := ⟨g, 0, none⟩) hne _)) (fun hHeld4 => ?_)
    clear hK K
    try simp only [Act.put, List.setIfInBounds_toArray, List.set_cons_zero, List.set_cons_succ]
    refine wpAnyH_done (by kernel_rfl) ?_ _
    go_wp2_with fail
    go_ret
    refine ⟨by rw [decide_eq_true hbig]; rfl, hf6, ?_⟩
    rw [if_pos hbig]
    refine ⟨⟨_, hb6, ?_⟩, fun k t cs h hs hu => ?_⟩
    rotate_left
    · have k2 := (hK1 k t cs h).fr hf02 (fun h => h)
      have k5 := keep_row (keep_row ((k2.alloc (.cells #[.int .u8 xi, .int .u8 xn] 5)).drew) ho3 hg4 hu) ho4 hg5 hu
      refine k5.far (p := ⟨g, 0, none⟩) (fun e => ?_) _
      have e' : k = g := e
      subst e'
      have h5 := hb5
      have h6 := k5
      unfold Blk at h5 h6
      rw [h6] at h5
      cases h5
      exact hs rfl
    have hmm : m + 2 + xn = m + (xn + 2) := by omega
    have hbytes : nums .u8 bs ++ nums .u8 [xi, (xn : Int)] ++ nums .u8 xd = nums .u8 (bs ++ obB (Ob.s ⟨xi, xA, xn, xc, xd⟩)) := by
      rw [← nums_app, ← nums_app, List.append_assoc, Ob.s, obB, HXL.out]
      rfl
    rw [hbytes] at ho6
    show World.ownsRow _ base 5 1 _ (m + (xn + 2)) _
    rw [← hmm]
    exact ho6
end Go.Proofs.Ythdenkmmiadeiaa
