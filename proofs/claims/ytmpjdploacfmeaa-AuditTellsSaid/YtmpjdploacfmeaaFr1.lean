/- audit.Frames: the plain law of its test of all bytes; the contract where it refuses. -/
import Derived.Test.YtmpjdploacfmeaaAud7
namespace Go.Proofs.Ytmpjdploacfmeaa
set_option linter.unusedSimpArgs false
set_option linter.unusedVariables false
open Go.RowKit

def okF (tc : Int) : Int → List (Int × Int) → Bool
  | _, [] => true
  | p, x :: r => !decide (x.1 < 0 ∨ 1099511627776 < x.1 ∨ x.1 < p + tc) && okF tc x.1 r
def okA (tc : Int) : List (Int × Int) → Bool
  | [] => true
  | x :: r => !decide (x.1 < 0 ∨ 1099511627776 < x.1) && okF tc x.1 r
theorem goF_ok (tc : Int) : ∀ (l : List (Int × Int)) (p : Int) (done : List (List Int)) (cur ats : List Int), (goF tc p done cur ats l).isSome = okF tc p l
  | [], _, _, _, _ => rfl
  | x :: r, p, done, cur, ats => by
    rw [goF, okF]
    by_cases h : x.1 < 0 ∨ 1099511627776 < x.1 ∨ x.1 < p + tc
    · rw [if_pos h, decide_eq_true h]
      rfl
    · rw [if_neg h, decide_eq_false h]
      split
      · rw [goF_ok tc r]; rfl
      · rw [goF_ok tc r]; rfl
theorem framesF_ok (tc : Int) (lo : List (Int × Int)) : (framesF tc lo).isSome = okA tc lo := by
  cases lo with
  | nil => rfl
  | cons x r =>
    rw [framesF, okA]
    by_cases h : x.1 < 0 ∨ 1099511627776 < x.1
    · rw [if_pos h, decide_eq_true h]
      rfl
    · rw [if_neg h, decide_eq_false h, goF_ok]
      rfl
/-- The first k bytes are right. -/
def FrAt (tc : Int) (lo : List (Int × Int)) (k : Nat) : Prop := k = 0 ∨ (0 < k ∧ ∃ y, lo[k - 1]? = some y ∧ 0 ≤ y.1 ∧ y.1 ≤ 1099511627776 ∧ okA tc lo = okF tc y.1 (lo.drop k))
theorem clampT_iff (a : Int) : clampT a = a ↔ 0 ≤ a ∧ a ≤ 1099511627776 := by
  unfold clampT
  split
  · omega
  · split <;> omega
theorem fr_bad {tc : Int} {lo : List (Int × Int)} {k : Nat} {x y : Int × Int} (h : FrAt tc lo k) (hx : lo[k]? = some x) (hy : 0 < k → lo[k - 1]? = some y) (hb : clampT x.1 ≠ x.1 ∨ (0 < k ∧ x.1 - y.1 < tc)) : framesF tc lo = none := by
  rw [← Option.isSome_eq_false_iff.trans Option.isNone_iff_eq_none, framesF_ok]
  rw [ne_eq, clampT_iff] at hb
  rcases h with rfl | ⟨hk, y', hy', _, _, he⟩
  · have := drop_out hx
    rw [List.drop_zero] at this
    rw [this, okA, decide_eq_true (by omega)]
    rfl
  · rw [hy hk] at hy'
    cases hy'
    rw [he, drop_out hx, okF, decide_eq_true (by omega)]
    rfl
theorem fr_good {tc : Int} {lo : List (Int × Int)} {k : Nat} {x y : Int × Int} (h : FrAt tc lo k) (hx : lo[k]? = some x) (hy : 0 < k → lo[k - 1]? = some y) (hc : clampT x.1 = x.1) (hb : 0 < k → ¬ x.1 - y.1 < tc) : FrAt tc lo (k + 1) := by
  rw [clampT_iff] at hc
  refine .inr ⟨by omega, x, hx, hc.1, hc.2, ?_⟩
  rcases h with rfl | ⟨hk, y', hy', _, _, he⟩
  · have := drop_out hx
    rw [List.drop_zero] at this
    conv => lhs; rw [this]
    rw [okA, decide_eq_false (by omega)]
    rfl
  · rw [hy hk] at hy'
    cases hy'
    have := hb hk
    rw [he, drop_out hx, okF, decide_eq_false (by omega)]
    rfl
theorem fr_end {tc : Int} {lo : List (Int × Int)} {k : Nat} (h : FrAt tc lo k) (hk : k = lo.length) : ∃ fs ats, framesF tc lo = some (fs, ats) := by
  have h1 : (framesF tc lo).isSome = true := by
    rw [framesF_ok]
    rcases h with rfl | ⟨_, y, _, _, _, he⟩
    · rw [List.eq_nil_of_length_eq_zero hk.symm]; rfl
    · rw [he, List.drop_eq_nil_of_le (by omega)]; rfl
  obtain ⟨⟨fs, ats⟩, h2⟩ := Option.isSome_iff_exists.1 h1
  exact ⟨fs, ats, h2⟩
theorem fr_none {tc : Int} {lo : List (Int × Int)} {k : Nat} (h : FrAt tc lo k) (hk : k = lo.length) : framesF tc lo ≠ none := by
  obtain ⟨fs, ats, h2⟩ := fr_end h hk
  rw [h2]
  simp
/-- The blocks that Frames makes first. -/
theorem fr_start (w : World) (tc ts tl tt : Int) {w1 : World} (h : Fr nob (((w.alloc (.cells #[.int .i64 tc, .int .i64 ts, .int .i64 tl, .int .i64 tt] 63)).alloc (.cells #[.slice none 0 0] 64)).alloc (.cells #[.slice none 0 0] 57)) w1) :
    Fr nob w w1 ∧ Blk w1 w.heap.size 63 #[.int .i64 tc, .int .i64 ts, .int .i64 tl, .int .i64 tt] ∧ Blk w1 (w.heap.size + 1) 64 #[.slice none 0 0] ∧ Blk w1 (w.heap.size + 2) 57 #[.slice none 0 0] := by
  have b0 := Blk.new w 63 #[.int .i64 tc, .int .i64 ts, .int .i64 tl, .int .i64 tt]
  have b1 := Blk.new (w.alloc (.cells #[.int .i64 tc, .int .i64 ts, .int .i64 tl, .int .i64 tt] 63)) 64 #[.slice none 0 0]
  have b2 := Blk.new ((w.alloc (.cells #[.int .i64 tc, .int .i64 ts, .int .i64 tl, .int .i64 tt] 63)).alloc (.cells #[.slice none 0 0] 64)) 57 #[.slice none 0 0]
  simp only [World.size_alloc] at b1 b2
  exact ⟨((((Fr.refl nob w).alloc _).alloc _).alloc _).trans h (fun _ _ h => h), ((b0.alloc _).alloc _).fr h id, (b1.alloc _).fr h id, b2.fr h id⟩
/-- Both results are put to nil. -/
theorem fr_nils {w w1 : World} (hf : Fr nob w w1) (h1 : Blk w1 (w.heap.size + 1) 64 #[.slice none 0 0]) (h2 : Blk w1 (w.heap.size + 2) 57 #[.slice none 0 0]) :
    Fr nob w ((w1.setCell ⟨w.heap.size + 1, 0, none⟩ (.slice none 0 0)).setCell ⟨w.heap.size + 2, 0, none⟩ (.slice none 0 0)) ∧ Blk ((w1.setCell ⟨w.heap.size + 1, 0, none⟩ (.slice none 0 0)).setCell ⟨w.heap.size + 2, 0, none⟩ (.slice none 0 0)) (w.heap.size + 1) 64 #[.slice none 0 0] ∧
    Blk ((w1.setCell ⟨w.heap.size + 1, 0, none⟩ (.slice none 0 0)).setCell ⟨w.heap.size + 2, 0, none⟩ (.slice none 0 0)) (w.heap.size + 2) 57 #[.slice none 0 0] := by
  refine ⟨(hf.set_ (p := ⟨w.heap.size + 1, 0, none⟩) (.inr (by simp)) _).set_ (p := ⟨w.heap.size + 2, 0, none⟩) (.inr (by simp)) _, ?_, ?_⟩
  · have := (h1.set_ 0 (.slice none 0 0)).far (p := ⟨w.heap.size + 2, 0, none⟩) (by simp) (.slice none 0 0)
    simpa using this
  · have := (h2.far (p := ⟨w.heap.size + 1, 0, none⟩) (by simp) (.slice none 0 0)).set_ 0 (.slice none 0 0)
    simpa using this

set_option maxHeartbeats 4000000 in
set_option maxRecDepth 100000 in
theorem frames_refuse (A : Option Addr) (n c : Nat) (lo : List (Int × Int)) (tc ts tl tt : Int) (w : World) (h : rightT tc ts tl tt = false) :
    Calls Try.prog 32 #[.slice A n c, .agg #[.int .i64 tc, .int .i64 ts, .int .i64 tl, .int .i64 tt]] w (frPost w tc ts tl tt lo) := by
  have hrt := clock_right tc ts tl tt (((w.alloc (.cells #[.int .i64 tc, .int .i64 ts, .int .i64 tl, .int .i64 tt] 63)).alloc (.cells #[.slice none 0 0] 64)).alloc (.cells #[.slice none 0 0] 57))
  rw [h] at hrt
  have HRT := Lib.hid hrt
  have HRI := Lib.hid h
  clear hrt h
  go_enter Try.func32, Try.ntmps32
  go_wp2_with fail
  refine HRT.out.mono ?_
  rintro e w1 ⟨rfl, hf1⟩
  obtain ⟨hfw, _, b1, b2⟩ := fr_start w tc ts tl tt hf1
  obtain ⟨hf4, b14, b24⟩ := fr_nils hfw b1 b2
  have q1 := b1.cell
  have q2 := b2.cell
  have q3 := b1.frozen
  have q4 := b2.frozen
  have q5 := b1.lt
  have q6 := b2.lt
  have HF4 := Lib.hid hf4
  have HB1 := Lib.hid b14
  have HB2 := Lib.hid b24
  clear HRT hf1 hfw hf4 b1 b2 b14 b24
  go_wp2_with fail
  have q7 := HB1.out.cell
  have q8 := HB2.out.cell
  clear q1 q2 q3 q4
  generalize hw4 : World.setCell _ _ _ = w4 at q7 q8 ⊢
  refine bodyPost_ret (v := .tuple #[.slice none 0 0, .slice none 0 0, .int .i64 11]) (by simp [results, Try.results32, go_sem, q7, q8]) rfl ?_
  exact ⟨hw4 ▸ HF4.out, .inl ⟨HRI.out, rfl⟩⟩
end Go.Proofs.Ytmpjdploacfmeaa
