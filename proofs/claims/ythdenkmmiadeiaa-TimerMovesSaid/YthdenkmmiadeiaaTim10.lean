/- Contracts of New, First, Len and Drop of a queue of timers. -/
import Derived.Test.YthdenkmmiadeiaaTim9
namespace Go.Proofs.Ythdenkmmiadeiaa
set_option linter.unusedSimpArgs false
set_option linter.unusedVariables false
open Go.RowKit

theorem holds_nil : Holds [] [] := List.Perm.refl _
theorem good_nil : Good [] := ⟨List.Pairwise.nil, List.nodup_nil⟩
/-- A queue in which nothing is due. -/
theorem QS.fresh {w : World} {base g mb : Nat} (hq : Qb w g (.slice none 0 0) (.map (some mb))) (hm : MapOk w mb []) (hg : base ≤ g) (hb : base ≤ mb) : QS w base g mb (.slice none 0 0) [] [] :=
  ⟨⟨World.ownsRow_nil _ _ _ _, fun i e h => by simp at h, List.nodup_nil, fun e h => by simp at h⟩, hq, hm, fun k h1 h2 => by simp at h2, holds_nil, good_nil, by simp, hg, hb, fun x hx => by simp at hx⟩

set_option maxHeartbeats 1000000 in
set_option maxRecDepth 100000 in
theorem tnew_any (w : World) : Calls Try.prog 29 #[] w fun e w' => e = .returned (.pointer (some ⟨w.heap.size + 1, 0, none⟩)) ∧ QS w' w.heap.size (w.heap.size + 1) w.heap.size (.slice none 0 0) [] [] ∧ Fr nob w w' := by
  have hmm := @run_makeMap Try.prog
  have hb := Blk.new (w.alloc (.map #[] 0)) 125 #[.slice none 0 0, .map (some w.heap.size)]
  rw [World.size_alloc] at hb
  have hm := (MapOk.made w).fr ((Fr.refl nob (w.alloc (.map #[] 0))).alloc (.cells #[.slice none 0 0, .map (some w.heap.size)] 125)) (fun h => h)
  have hq := QS.fresh (base := w.heap.size) hb hm (by omega) (by omega)
  have hf : Fr nob w ((w.alloc (.map #[] 0)).alloc (.cells #[.slice none 0 0, .map (some w.heap.size)] 125)) := ((Fr.refl nob w).alloc _).alloc _
  have HQ := Lib.hid hq
  clear hb hm hq
  go_enter Try.func29, Try.ntmps29
  go_wp2_with fail
  go_ret
  exact ⟨rfl, HQ.out, hf⟩

/-- What is due first. -/
def firstS (L : List Tm) : Tm × Bool := match L with
  | [] => ((0, 0), false)
  | x :: _ => (x, true)
set_option maxHeartbeats 1000000 in
set_option maxRecDepth 100000 in
theorem tfirst_any (w : World) (base g mb : Nat) (v : Value) (E : List Ent) (L : List Tm) (h : QS w base g mb v E L) :
    Calls Try.prog 32 #[.pointer (some ⟨g, 0, none⟩)] w fun e w' => e = .returned (.tuple #[.int .i64 (firstS L).1.1, .int .i64 (firstS L).1.2, .bool (firstS L).2]) ∧ ∃ q, w' = w.drewN q := by
  have hnone := none_any h
  have HNO := Lib.hid hnone
  have q0 := Blk.cell h.qb
  have q2 := Blk.lt h.qb
  have hl := h.len
  obtain ⟨A, c, rfl, _⟩ := own_form h.th.own
  cases L with
  | nil =>
    have h0 : E.length = 0 := by rw [hl]; rfl
    rw [h0] at q0
    clear hnone h hl h0
    go_enter Try.func32, Try.ntmps32
    go_wp2_with fail
    refine HNO.out.mono ?_
    rintro e w1 ⟨rfl, rfl⟩
    go_wp2_with fail
    go_ret3
    exact ⟨rfl, 0, rfl⟩
  | cons x r =>
    have h0 : 0 < E.length := by rw [hl]; simp
    obtain ⟨r', hr⟩ := holds_head h.hold h.good h.hp h0
    obtain ⟨rr, rfl, _, hrl, hc0⟩ := h.th.ptr_ rfl h0
    have hb0 := h.th.blk' h0
    have hx : x = key (at' E 0) := by injection hr
    obtain ⟨b, hb⟩ : ∃ b, b = (at' E 0).b := ⟨_, rfl⟩
    rw [← hb] at hc0 hb0
    have b0 := hb0.cell 0
    have b1 := hb0.cell 1
    simp only [tcs] at b0 b1
    simp at b0 b1
    obtain ⟨xi, hxi⟩ : ∃ y, y = (at' E 0).id := ⟨_, rfl⟩
    obtain ⟨xa, hxa⟩ : ∃ y, y = (at' E 0).at_ := ⟨_, rfl⟩
    rw [← hxi] at b0
    rw [← hxa] at b1
    have HX := Lib.hid (show x = (xi, xa) by rw [hx, hxi, hxa]; rfl)
    obtain ⟨n, hn⟩ : ∃ n, n = E.length := ⟨_, rfl⟩
    rw [← hn] at q0 h0
    unfold ptr at hc0
    have hnz : ((n : Int) == 0) = false := by rw [beq_eq_false_iff_ne]; omega
    have qg := q0 0
    simp at qg
    clear hnone h hl hr hx hb hxi hxa hn hb0
    go_enter Try.func32, Try.ntmps32
    go_wp2_with fail
    refine HNO.out.mono ?_
    rintro e w1 ⟨rfl, rfl⟩
    go_wp2_with fail
    refine wp_region_held_drew (S := fun w' => w'.cell? ⟨g, 0, none⟩ = some (.slice (some ⟨rr, 0, none⟩) n c) ∧ w'.cell? ⟨rr, 0, none⟩ = some (.pointer (some ⟨b, 0, none⟩)) ∧ w'.cell? ⟨b, 0, none⟩ = some (.int .i64 xi) ∧ w'.cell? ⟨b, 1, none⟩ = some (.int .i64 xa)) (by kernel_rfl) ⟨qg, hc0, b0, b1⟩ (fun hHeld => ?_)
    first
      | (refine mix_skip 0 rfl (by kernel_rfl) (by kernel_rfl) (by kernel_rfl) (by rfl) (by assumption) (fun _ _ _ h => h) ?_)
      | (refine mix_pure 0 (v := ?_) rfl (by kernel_rfl) (by kernel_rfl) (by kernel_rfl) (by rfl) (by assumption) (fun _ _ _ h => h) ?_ ?_; rotate_left; · (intro wS hSw; (try dsimp only at hSw); go_simp; try with_reducible rfl))
    simp only [Act.put, List.setIfInBounds_toArray, List.set_cons_zero, List.set_cons_succ]
    first
      | (refine mix_skip 1 rfl (by kernel_rfl) (by kernel_rfl) (by kernel_rfl) (by rfl) (by assumption) (fun _ _ _ h => h) ?_)
      | (refine mix_pure 1 (v := ?_) rfl (by kernel_rfl) (by kernel_rfl) (by kernel_rfl) (by rfl) (by assumption) (fun _ _ _ h => h) ?_ ?_; rotate_left; · (intro wS hSw; (try dsimp only at hSw); go_simp; try with_reducible rfl))
    simp only [Act.put, List.setIfInBounds_toArray, List.set_cons_zero, List.set_cons_succ]
    first
      | (refine mix_skip 2 rfl (by kernel_rfl) (by kernel_rfl) (by kernel_rfl) (by rfl) (by assumption) (fun _ _ _ h => h) ?_)
      | (refine mix_pure 2 (v := ?_) rfl (by kernel_rfl) (by kernel_rfl) (by kernel_rfl) (by rfl) (by assumption) (fun _ _ _ h => h) ?_ ?_; rotate_left; · (intro wS hSw; (try dsimp only at hSw); go_simp; try with_reducible rfl))
    simp only [Act.put, List.setIfInBounds_toArray, List.set_cons_zero, List.set_cons_succ]
    first
      | (refine mix_skip 3 rfl (by kernel_rfl) (by kernel_rfl) (by kernel_rfl) (by rfl) (by assumption) (fun _ _ _ h => h) ?_)
      | (refine mix_pure 3 (v := ?_) rfl (by kernel_rfl) (by kernel_rfl) (by kernel_rfl) (by rfl) (by assumption) (fun _ _ _ h => h) ?_ ?_; rotate_left; · (intro wS hSw; (try dsimp only at hSw); go_simp; try with_reducible rfl))
    simp only [Act.put, List.setIfInBounds_toArray, List.set_cons_zero, List.set_cons_succ]
    first
      | (refine mix_skip 4 rfl (by kernel_rfl) (by kernel_rfl) (by kernel_rfl) (by rfl) (by assumption) (fun _ _ _ h => h) ?_)
      | (refine mix_pure 4 (v := ?_) rfl (by kernel_rfl) (by kernel_rfl) (by kernel_rfl) (by rfl) (by assumption) (fun _ _ _ h => h) ?_ ?_; rotate_left; · (intro wS hSw; (try dsimp only at hSw); go_simp; try with_reducible rfl))
    simp only [Act.put, List.setIfInBounds_toArray, List.set_cons_zero, List.set_cons_succ]
    first
      | (refine mix_skip 5 rfl (by kernel_rfl) (by kernel_rfl) (by kernel_rfl) (by rfl) (by assumption) (fun _ _ _ h => h) ?_)
      | (refine mix_pure 5 (v := ?_) rfl (by kernel_rfl) (by kernel_rfl) (by kernel_rfl) (by rfl) (by assumption) (fun _ _ _ h => h) ?_ ?_; rotate_left; · (intro wS hSw; (try dsimp only at hSw); go_simp; try with_reducible rfl))
    simp only [Act.put, List.setIfInBounds_toArray, List.set_cons_zero, List.set_cons_succ]
    first
      | (refine mix_skip 6 rfl (by kernel_rfl) (by kernel_rfl) (by kernel_rfl) (by rfl) (by assumption) (fun _ _ _ h => h) ?_)
      | (refine mix_pure 6 (v := ?_) rfl (by kernel_rfl) (by kernel_rfl) (by kernel_rfl) (by rfl) (by assumption) (fun _ _ _ h => h) ?_ ?_; rotate_left; · (intro wS hSw; (try dsimp only at hSw); go_simp; try with_reducible rfl))
    simp only [Act.put, List.setIfInBounds_toArray, List.set_cons_zero, List.set_cons_succ]
    first
      | (refine mix_skip 7 rfl (by kernel_rfl) (by kernel_rfl) (by kernel_rfl) (by rfl) (by assumption) (fun _ _ _ h => h) ?_)
      | (refine mix_pure 7 (v := ?_) rfl (by kernel_rfl) (by kernel_rfl) (by kernel_rfl) (by rfl) (by assumption) (fun _ _ _ h => h) ?_ ?_; rotate_left; · (intro wS hSw; (try dsimp only at hSw); go_simp; try with_reducible rfl))
    simp only [Act.put, List.setIfInBounds_toArray, List.set_cons_zero, List.set_cons_succ]
    first
      | (refine mix_skip 8 rfl (by kernel_rfl) (by kernel_rfl) (by kernel_rfl) (by rfl) (by assumption) (fun _ _ _ h => h) ?_)
      | (refine mix_pure 8 (v := ?_) rfl (by kernel_rfl) (by kernel_rfl) (by kernel_rfl) (by rfl) (by assumption) (fun _ _ _ h => h) ?_ ?_; rotate_left; · (intro wS hSw; (try dsimp only at hSw); go_simp; try with_reducible rfl))
    simp only [Act.put, List.setIfInBounds_toArray, List.set_cons_zero, List.set_cons_succ]
    first
      | (refine mix_skip 9 rfl (by kernel_rfl) (by kernel_rfl) (by kernel_rfl) (by rfl) (by assumption) (fun _ _ _ h => h) ?_)
      | (refine mix_pure 9 (v := ?_) rfl (by kernel_rfl) (by kernel_rfl) (by kernel_rfl) (by rfl) (by assumption) (fun _ _ _ h => h) ?_ ?_; rotate_left; · (intro wS hSw; (try dsimp only at hSw); go_simp; try with_reducible rfl))
    simp only [Act.put, List.setIfInBounds_toArray, List.set_cons_zero, List.set_cons_succ]
    first
      | (refine mix_skip 10 rfl (by kernel_rfl) (by kernel_rfl) (by kernel_rfl) (by rfl) (by assumption) (fun _ _ _ h => h) ?_)
      | (refine mix_pure 10 (v := ?_) rfl (by kernel_rfl) (by kernel_rfl) (by kernel_rfl) (by rfl) (by assumption) (fun _ _ _ h => h) ?_ ?_; rotate_left; · (intro wS hSw; (try dsimp only at hSw); go_simp; try with_reducible rfl))
    simp only [Act.put, List.setIfInBounds_toArray, List.set_cons_zero, List.set_cons_succ]
    first
      | (refine mix_skip 11 rfl (by kernel_rfl) (by kernel_rfl) (by kernel_rfl) (by rfl) (by assumption) (fun _ _ _ h => h) ?_)
      | (refine mix_pure 11 (v := ?_) rfl (by kernel_rfl) (by kernel_rfl) (by kernel_rfl) (by rfl) (by assumption) (fun _ _ _ h => h) ?_ ?_; rotate_left; · (intro wS hSw; (try dsimp only at hSw); go_simp; try with_reducible rfl))
    simp only [Act.put, List.setIfInBounds_toArray, List.set_cons_zero, List.set_cons_succ]
    first
      | (refine mix_skip 12 rfl (by kernel_rfl) (by kernel_rfl) (by kernel_rfl) (by rfl) (by assumption) (fun _ _ _ h => h) ?_)
      | (refine mix_pure 12 (v := ?_) rfl (by kernel_rfl) (by kernel_rfl) (by kernel_rfl) (by rfl) (by assumption) (fun _ _ _ h => h) ?_ ?_; rotate_left; · (intro wS hSw; (try dsimp only at hSw); go_simp; try with_reducible rfl))
    simp only [Act.put, List.setIfInBounds_toArray, List.set_cons_zero, List.set_cons_succ]
    first
      | (refine mix_skip 13 rfl (by kernel_rfl) (by kernel_rfl) (by kernel_rfl) (by rfl) (by assumption) (fun _ _ _ h => h) ?_)
      | (refine mix_pure 13 (v := ?_) rfl (by kernel_rfl) (by kernel_rfl) (by kernel_rfl) (by rfl) (by assumption) (fun _ _ _ h => h) ?_ ?_; rotate_left; · (intro wS hSw; (try dsimp only at hSw); go_simp; try with_reducible rfl))
    simp only [Act.put, List.setIfInBounds_toArray, List.set_cons_zero, List.set_cons_succ]
    first
      | (refine mix_skip 14 rfl (by kernel_rfl) (by kernel_rfl) (by kernel_rfl) (by rfl) (by assumption) (fun _ _ _ h => h) ?_)
      | (refine mix_pure 14 (v := ?_) rfl (by kernel_rfl) (by kernel_rfl) (by kernel_rfl) (by rfl) (by assumption) (fun _ _ _ h => h) ?_ ?_; rotate_left; · (intro wS hSw; (try dsimp only at hSw); go_simp; try with_reducible rfl))
    simp only [Act.put, List.setIfInBounds_toArray, List.set_cons_zero, List.set_cons_succ]
    first
      | (refine mix_skip 15 rfl (by kernel_rfl) (by kernel_rfl) (by kernel_rfl) (by rfl) (by assumption) (fun _ _ _ h => h) ?_)
      | (refine mix_pure 15 (v := ?_) rfl (by kernel_rfl) (by kernel_rfl) (by kernel_rfl) (by rfl) (by assumption) (fun _ _ _ h => h) ?_ ?_; rotate_left; · (intro wS hSw; (try dsimp only at hSw); go_simp; try with_reducible rfl))
    simp only [Act.put, List.setIfInBounds_toArray, List.set_cons_zero, List.set_cons_succ]
    first
      | (refine mix_skip 16 rfl (by kernel_rfl) (by kernel_rfl) (by kernel_rfl) (by rfl) (by assumption) (fun _ _ _ h => h) ?_)
      | (refine mix_pure 16 (v := ?_) rfl (by kernel_rfl) (by kernel_rfl) (by kernel_rfl) (by rfl) (by assumption) (fun _ _ _ h => h) ?_ ?_; rotate_left; · (intro wS hSw; (try dsimp only at hSw); go_simp; try with_reducible rfl))
    simp only [Act.put, List.setIfInBounds_toArray, List.set_cons_zero, List.set_cons_succ]
    first
      | (refine mix_skip 17 rfl (by kernel_rfl) (by kernel_rfl) (by kernel_rfl) (by rfl) (by assumption) (fun _ _ _ h => h) ?_)
      | (refine mix_pure 17 (v := ?_) rfl (by kernel_rfl) (by kernel_rfl) (by kernel_rfl) (by rfl) (by assumption) (fun _ _ _ h => h) ?_ ?_; rotate_left; · (intro wS hSw; (try dsimp only at hSw); go_simp; try with_reducible rfl))
    simp only [Act.put, List.setIfInBounds_toArray, List.set_cons_zero, List.set_cons_succ]
    first
      | (refine mix_skip 18 rfl (by kernel_rfl) (by kernel_rfl) (by kernel_rfl) (by rfl) (by assumption) (fun _ _ _ h => h) ?_)
      | (refine mix_pure 18 (v := ?_) rfl (by kernel_rfl) (by kernel_rfl) (by kernel_rfl) (by rfl) (by assumption) (fun _ _ _ h => h) ?_ ?_; rotate_left; · (intro wS hSw; (try dsimp only at hSw); go_simp; try with_reducible rfl))
    simp only [Act.put, List.setIfInBounds_toArray, List.set_cons_zero, List.set_cons_succ]
    first
      | (refine mix_skip 19 rfl (by kernel_rfl) (by kernel_rfl) (by kernel_rfl) (by rfl) (by assumption) (fun _ _ _ h => h) ?_)
      | (refine mix_pure 19 (v := ?_) rfl (by kernel_rfl) (by kernel_rfl) (by kernel_rfl) (by rfl) (by assumption) (fun _ _ _ h => h) ?_ ?_; rotate_left; · (intro wS hSw; (try dsimp only at hSw); go_simp; try with_reducible rfl))
    simp only [Act.put, List.setIfInBounds_toArray, List.set_cons_zero, List.set_cons_succ]
    first
      | (refine mix_skip 20 rfl (by kernel_rfl) (by kernel_rfl) (by kernel_rfl) (by rfl) (by assumption) (fun _ _ _ h => h) ?_)
      | (refine mix_pure 20 (v := ?_) rfl (by kernel_rfl) (by kernel_rfl) (by kernel_rfl) (by rfl) (by assumption) (fun _ _ _ h => h) ?_ ?_; rotate_left; · (intro wS hSw; (try dsimp only at hSw); go_simp; try with_reducible rfl))
    simp only [Act.put, List.setIfInBounds_toArray, List.set_cons_zero, List.set_cons_succ]
    refine wpAnyH_done (by kernel_rfl) ?_ _
    clear hHeld
    go_wp2_with fail
    go_ret3
    exact ⟨by rw [HX.out]; rfl, 1, rfl⟩

set_option maxHeartbeats 1000000 in
set_option maxRecDepth 100000 in
theorem qlen_any (w : World) (base g mb : Nat) (v : Value) (E : List Ent) (L : List Tm) (h : QS w base g mb v E L) :
    Calls Try.prog 31 #[.pointer (some ⟨g, 0, none⟩)] w fun e w' => e = .returned (.int .i64 (L.length : Int)) ∧ w = w' := by
  have hnone := none_any h
  have HNO := Lib.hid hnone
  have q0 := Blk.cell h.qb
  have q2 := Blk.lt h.qb
  have hl := h.len
  obtain ⟨A, c, rfl, _⟩ := own_form h.th.own
  rw [hl] at q0
  clear hnone h hl
  go_enter Try.func31, Try.ntmps31
  go_wp2_with fail
  refine HNO.out.mono ?_
  rintro e w1 ⟨rfl, rfl⟩
  go_wp2_with fail
  go_ret
  exact ⟨rfl, rfl⟩

section
variable {w w' : World} {base g mb i : Nat} {v : Value} {E E' : List Ent} {L L' : List Tm}
theorem erase_mem (h : Holds E L) (hg : Good L) (hi : i < E.length) (hp : E'.Perm (E.eraseIdx i)) (e : Ent) : e ∈ E' ↔ e ∈ E ∧ e.id ≠ (at' E i).id := by
  rw [hp.mem_iff, ← filter_out h hg hi, List.mem_filter, bne_iff_ne]
/-- A queue from which one was taken. -/
theorem QS.less {r n c : Nat} {w2 : World} (h : QS w base g mb (.slice (some ⟨r, 0, none⟩) (n + 1) c) E L) (hn : E.length = n + 1) (hi : i ≤ n) (ht : TH w2 base (.slice (some ⟨r, 0, none⟩) n c) E') (hq : Qb w2 g (.slice (some ⟨r, 0, none⟩) n c) (.map (some mb)))
    (hf : Fr (fun b => tfoot (.slice (some ⟨r, 0, none⟩) (n + 1) c) E b ∨ b = g) w w2) (hp : E'.Perm (E.eraseIdx i)) (hh : HeapN E' n) (hm : MapOk w' mb E') (hf2 : Fr (fun b => b = mb) w2 w') : QStep w base g mb (.slice (some ⟨r, 0, none⟩) (n + 1) c) E (dropS L (at' E i).id) w' := by
  have hil : i < E.length := by omega
  have hl : E'.length = n := by rw [hp.length_eq, List.length_eraseIdx, if_pos hil]; omega
  have hmo := h.map_out
  have hmem := erase_mem h.hold h.good hil hp
  have hno : ∀ b, tfoot (.slice (some ⟨r, 0, none⟩) n c) E' b → tfoot (.slice (some ⟨r, 0, none⟩) (n + 1) c) E b := by
    rintro b (h1 | ⟨e, he, rfl⟩)
    · exact .inl h1
    · exact .inr ⟨e, ((hmem e).1 he).1, rfl⟩
  refine ⟨.slice (some ⟨r, 0, none⟩) n c, E', ⟨ht.fr hf2 (fun b hb e => hmo.1 (e ▸ hno b hb)), Blk.fr hq hf2 (fun e => hmo.2 e.symm), hm, by rw [hl]; exact hh, ?_, drop_good h.good _, ?_, h.gb, h.mbb, fun x hx => h.ids x (drop_mem.1 hx).1⟩, ?_, fun b hb => .inl ?_⟩
  · exact holds_perm (holds_drop h.hold h.good hil) hp
  · have := List.length_filter_le (fun x : Tm => x.1 != (at' E i).id) L
    have := h.le
    rw [dropS]
    omega
  · exact (hf.more (T := qfoot g mb (.slice (some ⟨r, 0, none⟩) (n + 1) c) E) (fun b hb => hb.imp id .inl)).trans hf2 (fun b _ hb => .inr (.inr hb))
  · rcases hb with hb | hb
    · exact .inl (hno b hb)
    · exact .inr hb
end

set_option maxHeartbeats 4000000 in
set_option maxRecDepth 100000 in
theorem qdrop_any (w : World) (base g mb : Nat) (v : Value) (E : List Ent) (L : List Tm) (id : Int) (h : QS w base g mb v E L) (hid : W64 id) :
    Calls Try.prog 37 #[.pointer (some ⟨g, 0, none⟩), .int .i64 id] w fun e w' => e = .returned (.bool (hasS L id)) ∧ QStep w base g mb v E (dropS L id) w' := by
  have hnone := none_any h
  have q0 := Blk.cell h.qb
  have q1 := Blk.frozen h.qb
  have q2 := Blk.lt h.qb
  have HNO := Lib.hid hnone
  have HS := Lib.hid h
  clear hnone
  cases hhas : hasS L id with
  | false =>
    have hs : dropS L id = L := drop_none hhas
    have hmiss := h.mp.miss (hold_none h.hold hhas) hid
    have HSS := Lib.hid hs
    clear hs hhas h
    go_enter Try.func37, Try.ntmps37
    go_wp2_with fail
    refine HNO.out.mono ?_
    rintro e w1 ⟨rfl, rfl⟩
    go_wp2_with fail
    go_ret
    exact ⟨rfl, by rw [HSS.out]; exact HS.out.still (Fr.refl _ _)⟩
  | true =>
    obtain ⟨i, hi, hid2⟩ := holds_has h.hold hhas
    have hit := h.mp.hit (List.mem_of_getElem? (at_some hi)) (by rw [hid2]; exact hid)
    rw [hid2] at hit
    have hbi := h.th.blk' hi
    obtain ⟨n, hn⟩ : ∃ n, E.length = n + 1 := ⟨E.length - 1, by omega⟩
    have ho := h.th.own
    rw [hn] at ho
    obtain ⟨A, c, rfl, _⟩ := own_form ho
    obtain ⟨r, rfl, _⟩ := own_addr ho (by omega)
    have hcell := fun V (hV : Fr nob w V) => (hbi.fr hV (fun h => h)).cell 2
    have hrm := fun q iv h1 => hremove_any r n c base g i iv (.map (some mb)) E (w.drewN q) (Blk.drewN h.qb q) (h.th.nob ((Fr.refl nob _).drewN q)) hn (by have := h.len; have := h.le; omega) h1 (by omega) (by rw [← hn]; exact h.hp)
    obtain ⟨D, hoD, hsD, haD, hmD⟩ := h.mp
    have hend : ∀ q w2, removedPost r n c base g i (.map (some mb)) E (w.drewN q) w2 → w2.ownsMap Try.prog 3 ptrR mb E.length D ∧ Blk w2 g 125 #[w2.cell? ⟨g, 0, none⟩ |>.getD undef, .map (some mb)] ∧ ∀ w3, w3.ownsMap Try.prog 3 ptrR mb E.length (D.del (kl id)) → w2.grownBy w3 (some mb) → QStep w base g mb (.slice (some ⟨r, 0, none⟩) (n + 1) c) E (dropS L id) w3 := by
      rintro q w2 ⟨E', ht, hq, hf, hp, hh⟩
      have hf' : Fr (fun b => tfoot (.slice (some ⟨r, 0, none⟩) (n + 1) c) E b ∨ b = g) w w2 := ((Fr.refl nob w).drewN q).of_nob.trans hf (fun _ _ h => h)
      have hmo := h.map_out
      refine ⟨owns_block hoD (hf'.block mb hoD.lt (by rintro (h1 | h1); exact hmo.1 h1; exact hmo.2 h1)), ?_, fun w3 ho3 hg3 => ?_⟩
      · have := Blk.cell hq 0
        rw [this]
        exact hq
      · have hm3 : MapOk w3 mb E' := mapOk_del (x := at' E i) (hoD.tidy keyed) hsD haD hmD (List.mem_of_getElem? (at_some hi)) (erase_mem h.hold h.good hi hp) (by rw [hp.length_eq, List.length_eraseIdx, if_pos hi]; omega) (by rw [hid2]; exact ho3)
        have hf2 : Fr (fun b => b = mb) w2 w3 := (Fr.refl _ _).grown hg3 (fun k hk => by cases hk; exact .inl rfl)
        have := h.less hn (by omega) ht hq hf' hp hh hm3 hf2
        rwa [hid2] at this
    obtain ⟨b, hb⟩ : ∃ b, b = (at' E i).b := ⟨_, rfl⟩
    rw [← hb] at hcell hit
    have HRM := Lib.hid hrm
    unfold hval at HRM
    have HCELL := Lib.hid hcell
    have HEND := Lib.hid hend
    unfold ptr at hit
    clear hhas hid2 hbi hcell hrm hend hb h hn ho hi hsD haD hmD
    have d0 := HCELL.out w.drew (Fr.refl nob w).drew
    simp [tcs] at d0
    go_enter Try.func37, Try.ntmps37
    go_wp2_with fail
    refine HNO.out.mono ?_
    rintro e w1 ⟨rfl, rfl⟩
    go_wp2_with fail
    refine late_start (fun w' => w'.cell? ⟨b, 2, none⟩ = some (.int .i64 (i : Int))) (fun j => j == 8) (by kernel_rfl) d0 (fun hHeld => ?_)
    first
      | (refine late_skip 0 rfl (by kernel_rfl) (by kernel_rfl) (by kernel_rfl) (by kernel_rfl) (by rfl) (by (first | exact Or.inr (by assumption) | exact Or.inl (by kernel_rfl))) (fun _ _ _ h => h) ?_)
      | (refine late_free 0 (v := ?_) rfl (by kernel_rfl) (by kernel_rfl) (by kernel_rfl) (by kernel_rfl) (by rfl) (by (first | exact Or.inr (by assumption) | exact Or.inl (by kernel_rfl))) (fun _ _ _ h => h) ?_ ?_; rotate_left; · (intro wS; go_simp; try with_reducible rfl))
      | (refine late_pure 0 (v := ?_) rfl (by kernel_rfl) (by kernel_rfl) (by kernel_rfl) (by kernel_rfl) (by rfl) (by assumption) (fun _ _ _ h => h) (by kernel_rfl) (by kernel_rfl) ?_ ?_; rotate_left; · (intro wS hSw; (try dsimp only at hSw); go_simp; try with_reducible rfl))
    simp only [Act.put, List.setIfInBounds_toArray, List.set_cons_zero, List.set_cons_succ]
    first
      | (refine late_skip 1 rfl (by kernel_rfl) (by kernel_rfl) (by kernel_rfl) (by kernel_rfl) (by rfl) (by (first | exact Or.inr (by assumption) | exact Or.inl (by kernel_rfl))) (fun _ _ _ h => h) ?_)
      | (refine late_free 1 (v := ?_) rfl (by kernel_rfl) (by kernel_rfl) (by kernel_rfl) (by kernel_rfl) (by rfl) (by (first | exact Or.inr (by assumption) | exact Or.inl (by kernel_rfl))) (fun _ _ _ h => h) ?_ ?_; rotate_left; · (intro wS; go_simp; try with_reducible rfl))
      | (refine late_pure 1 (v := ?_) rfl (by kernel_rfl) (by kernel_rfl) (by kernel_rfl) (by kernel_rfl) (by rfl) (by assumption) (fun _ _ _ h => h) (by kernel_rfl) (by kernel_rfl) ?_ ?_; rotate_left; · (intro wS hSw; (try dsimp only at hSw); go_simp; try with_reducible rfl))
    simp only [Act.put, List.setIfInBounds_toArray, List.set_cons_zero, List.set_cons_succ]
    first
      | (refine late_skip 2 rfl (by kernel_rfl) (by kernel_rfl) (by kernel_rfl) (by kernel_rfl) (by rfl) (by (first | exact Or.inr (by assumption) | exact Or.inl (by kernel_rfl))) (fun _ _ _ h => h) ?_)
      | (refine late_free 2 (v := ?_) rfl (by kernel_rfl) (by kernel_rfl) (by kernel_rfl) (by kernel_rfl) (by rfl) (by (first | exact Or.inr (by assumption) | exact Or.inl (by kernel_rfl))) (fun _ _ _ h => h) ?_ ?_; rotate_left; · (intro wS; go_simp; try with_reducible rfl))
      | (refine late_pure 2 (v := ?_) rfl (by kernel_rfl) (by kernel_rfl) (by kernel_rfl) (by kernel_rfl) (by rfl) (by assumption) (fun _ _ _ h => h) (by kernel_rfl) (by kernel_rfl) ?_ ?_; rotate_left; · (intro wS hSw; (try dsimp only at hSw); go_simp; try with_reducible rfl))
    simp only [Act.put, List.setIfInBounds_toArray, List.set_cons_zero, List.set_cons_succ]
    first
      | (refine late_skip 3 rfl (by kernel_rfl) (by kernel_rfl) (by kernel_rfl) (by kernel_rfl) (by rfl) (by (first | exact Or.inr (by assumption) | exact Or.inl (by kernel_rfl))) (fun _ _ _ h => h) ?_)
      | (refine late_free 3 (v := ?_) rfl (by kernel_rfl) (by kernel_rfl) (by kernel_rfl) (by kernel_rfl) (by rfl) (by (first | exact Or.inr (by assumption) | exact Or.inl (by kernel_rfl))) (fun _ _ _ h => h) ?_ ?_; rotate_left; · (intro wS; go_simp; try with_reducible rfl))
      | (refine late_pure 3 (v := ?_) rfl (by kernel_rfl) (by kernel_rfl) (by kernel_rfl) (by kernel_rfl) (by rfl) (by assumption) (fun _ _ _ h => h) (by kernel_rfl) (by kernel_rfl) ?_ ?_; rotate_left; · (intro wS hSw; (try dsimp only at hSw); go_simp; try with_reducible rfl))
    simp only [Act.put, List.setIfInBounds_toArray, List.set_cons_zero, List.set_cons_succ]
    first
      | (refine late_skip 4 rfl (by kernel_rfl) (by kernel_rfl) (by kernel_rfl) (by kernel_rfl) (by rfl) (by (first | exact Or.inr (by assumption) | exact Or.inl (by kernel_rfl))) (fun _ _ _ h => h) ?_)
      | (refine late_free 4 (v := ?_) rfl (by kernel_rfl) (by kernel_rfl) (by kernel_rfl) (by kernel_rfl) (by rfl) (by (first | exact Or.inr (by assumption) | exact Or.inl (by kernel_rfl))) (fun _ _ _ h => h) ?_ ?_; rotate_left; · (intro wS; go_simp; try with_reducible rfl))
      | (refine late_pure 4 (v := ?_) rfl (by kernel_rfl) (by kernel_rfl) (by kernel_rfl) (by kernel_rfl) (by rfl) (by assumption) (fun _ _ _ h => h) (by kernel_rfl) (by kernel_rfl) ?_ ?_; rotate_left; · (intro wS hSw; (try dsimp only at hSw); go_simp; try with_reducible rfl))
    simp only [Act.put, List.setIfInBounds_toArray, List.set_cons_zero, List.set_cons_succ]
    first
      | (refine late_skip 5 rfl (by kernel_rfl) (by kernel_rfl) (by kernel_rfl) (by kernel_rfl) (by rfl) (by (first | exact Or.inr (by assumption) | exact Or.inl (by kernel_rfl))) (fun _ _ _ h => h) ?_)
      | (refine late_free 5 (v := ?_) rfl (by kernel_rfl) (by kernel_rfl) (by kernel_rfl) (by kernel_rfl) (by rfl) (by (first | exact Or.inr (by assumption) | exact Or.inl (by kernel_rfl))) (fun _ _ _ h => h) ?_ ?_; rotate_left; · (intro wS; go_simp; try with_reducible rfl))
      | (refine late_pure 5 (v := ?_) rfl (by kernel_rfl) (by kernel_rfl) (by kernel_rfl) (by kernel_rfl) (by rfl) (by assumption) (fun _ _ _ h => h) (by kernel_rfl) (by kernel_rfl) ?_ ?_; rotate_left; · (intro wS hSw; (try dsimp only at hSw); go_simp; try with_reducible rfl))
    simp only [Act.put, List.setIfInBounds_toArray, List.set_cons_zero, List.set_cons_succ]
    first
      | (refine late_skip 6 rfl (by kernel_rfl) (by kernel_rfl) (by kernel_rfl) (by kernel_rfl) (by rfl) (by (first | exact Or.inr (by assumption) | exact Or.inl (by kernel_rfl))) (fun _ _ _ h => h) ?_)
      | (refine late_free 6 (v := ?_) rfl (by kernel_rfl) (by kernel_rfl) (by kernel_rfl) (by kernel_rfl) (by rfl) (by (first | exact Or.inr (by assumption) | exact Or.inl (by kernel_rfl))) (fun _ _ _ h => h) ?_ ?_; rotate_left; · (intro wS; go_simp; try with_reducible rfl))
      | (refine late_pure 6 (v := ?_) rfl (by kernel_rfl) (by kernel_rfl) (by kernel_rfl) (by kernel_rfl) (by rfl) (by assumption) (fun _ _ _ h => h) (by kernel_rfl) (by kernel_rfl) ?_ ?_; rotate_left; · (intro wS hSw; (try dsimp only at hSw); go_simp; try with_reducible rfl))
    simp only [Act.put, List.setIfInBounds_toArray, List.set_cons_zero, List.set_cons_succ]
    first
      | (refine late_skip 7 rfl (by kernel_rfl) (by kernel_rfl) (by kernel_rfl) (by kernel_rfl) (by rfl) (by (first | exact Or.inr (by assumption) | exact Or.inl (by kernel_rfl))) (fun _ _ _ h => h) ?_)
      | (refine late_free 7 (v := ?_) rfl (by kernel_rfl) (by kernel_rfl) (by kernel_rfl) (by kernel_rfl) (by rfl) (by (first | exact Or.inr (by assumption) | exact Or.inl (by kernel_rfl))) (fun _ _ _ h => h) ?_ ?_; rotate_left; · (intro wS; go_simp; try with_reducible rfl))
      | (refine late_pure 7 (v := ?_) rfl (by kernel_rfl) (by kernel_rfl) (by kernel_rfl) (by kernel_rfl) (by rfl) (by assumption) (fun _ _ _ h => h) (by kernel_rfl) (by kernel_rfl) ?_ ?_; rotate_left; · (intro wS hSw; (try dsimp only at hSw); go_simp; try with_reducible rfl))
    simp only [Act.put, List.setIfInBounds_toArray, List.set_cons_zero, List.set_cons_succ]
    refine late_last 8 rfl (by kernel_rfl) (by kernel_rfl) (fun K hK => ?_)
    go_simp
    refine (HRM.out 1 _ rfl).mono ?_
    rintro e w2 ⟨⟨u, rfl⟩, hr⟩
    obtain ⟨ho2, hb2, hfin⟩ := HEND.out 1 w2 hr
    have HFIN := Lib.hid hfin
    have p0 := hb2.cell 1
    have p1 := hb2.lt
    simp at p0
    clear hr hb2 hfin
    refine hK.out _ _ ?_
    clear hK K
    try simp only [Act.put, List.setIfInBounds_toArray, List.set_cons_zero, List.set_cons_succ]
    refine late_done (by kernel_rfl) ?_
    clear hHeld q0 q1
    go_wp2_with (at_delete; refine wpList_delete_own _ rfl _ _ 121 3 rfl 133 keyed Try.underlying121 ptrR mb _ D rfl ho2 _ (kl id) rfl (key_of hid) ?_; intro w3 hown3 hturn3)
    go_ret
    exact ⟨rfl, HFIN.out w3 hown3 hturn3.grown⟩
end Go.Proofs.Ythdenkmmiadeiaa
