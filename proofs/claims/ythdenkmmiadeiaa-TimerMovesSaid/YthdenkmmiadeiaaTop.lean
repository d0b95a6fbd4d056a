/- Layer 6's law: one step on both sides (op). -/
import Derived.Test.YthdenkmmiadeiaaTim14
import Derived.Test.YthdenkmmiadeiaaTref3
import Derived.Test.YthdenkmmiadeiaaInts
namespace Go.Proofs.Ythdenkmmiadeiaa
set_option linter.unusedSimpArgs false
set_option linter.unusedVariables false
open Go.RowKit

theorem QS.base_le {w : World} {base base' g mb : Nat} {v : Value} {E : List Ent} {L : List Tm} (h : QS w base g mb v E L) (hb : base' ≤ base) : QS w base' g mb v E L :=
  ⟨⟨own_base h.th.own hb, h.th.blk, h.th.inj, fun e he => Nat.le_trans hb (h.th.new e he)⟩, h.qb, h.mp, h.hp, h.hold, h.good, h.le, Nat.le_trans hb h.gb, Nat.le_trans hb h.mbb, h.ids⟩
/-- A queue and the document's list hold the same. -/
def St (w : World) (base : Nat) (qv wv : Value) (L : List Tm) : Prop := ∃ g mb v E A n c, qv = .pointer (some ⟨g, 0, none⟩) ∧ wv = .slice A n c ∧ QS w base g mb v E L ∧ Tms w A n L ∧ n ≤ c ∧ c ≤ 9223372036854775807 ∧ TyA w A ∧ Legal L
/-- A list of the document behind a step of a queue. -/
theorem tms_step {w w' : World} {base g mb : Nat} {v : Value} {E : List Ent} {L M : List Tm} {A : Option Addr} {n : Nat} (h : QS w base g mb v E L) (hf : Fr (qfoot g mb v E) w w') (ht : Tms w A n M) (hty : TyA w A) : Tms w' A n M ∧ TyA w' A := by
  have hn : ∀ ad, A = some ad → ¬ qfoot g mb v E ad.block := fun ad he => by
    obtain ⟨cs, hcs⟩ := hty ad he
    exact h.out hcs (by decide) (by decide) (by decide)
  refine ⟨Rd.fr ht hf ?_, fun ad he => ?_⟩
  · intro ad he
    exact hn ad he
  · obtain ⟨cs, hcs⟩ := hty ad he
    exact ⟨cs, hcs.fr hf (hn ad he)⟩
theorem foot_new {w w' : World} {base g mb : Nat} {v : Value} {E : List Ent} {L : List Tm} (h : QS w base g mb v E L) (hf : Fr (qfoot g mb v E) w w') : Fr (fun b => base ≤ b) w w' := hf.more fun _ hb => h.ge hb
def opv (k id a : Int) : Value := .agg #[.int .i64 k, .int .i64 id, .int .i64 a]
def opPost (base : Nat) (w : World) (e : Ending) (w' : World) : Prop := ∃ L' qv' wv', e = .returned (.tuple #[qv', wv', .bool true]) ∧ St w' base qv' wv' L' ∧ Fr (fun b => base ≤ b) w w'

set_option maxHeartbeats 4000000 in
set_option maxRecDepth 100000 in
theorem op_set (w : World) (base : Nat) (qv wv : Value) (L : List Tm) (id a : Int) (h : St w base qv wv L) (hid : W64 id) :
    Calls Try.prog 30 #[qv, wv, .agg #[.int .i64 0, .int .i64 id, .int .i64 a]] w (opPost base w) := by
  obtain ⟨g, mb, v, E, A, n, c, rfl, rfl, hq, ht, hnc, hc, hty, hl⟩ := h
  have hn : n ≤ 256 := by rw [← ht.len]; exact hq.le
  have hb0 := Blk.new w 64 #[.int .i64 0, .int .i64 id, .int .i64 a]
  have hf0 := (Fr.refl nob w).alloc (.cells #[.int .i64 0, .int .i64 id, .int .i64 a] 64)
  have hset := Lib.hid (ref06_set A n c L id a _ (ht.nob hf0) (by omega) hnc hc (hty.fr hf0))
  have HQ := Lib.hid hq
  have HL := Lib.hid hl
  have HF0 := Lib.hid hf0
  clear hq ht hty hl hf0
  go_enter Try.func30, Try.ntmps30
  go_wp2_with fail
  refine hset.out.mono ?_
  rintro e w2 ⟨hf2, A2, n2, c2, rfl, ht2, hn2, hc2, hty2⟩
  have HF2 := Lib.hid (HF0.out.trans hf2 (fun _ _ h => h))
  have hb2 := (hb0.fr hf2 (fun h => h))
  have q1 := hb2.cell
  have q2 := hb2.lt
  have hst := Lib.hid (qset_any w2 base g mb v E L id a (HQ.out.keep HF2.out) hid)
  have HT2 := Lib.hid ht2
  have HTY2 := Lib.hid hty2
  obtain ⟨er, her⟩ : ∃ er, er = setErr L id a := ⟨_, rfl⟩
  rw [← her] at hst ⊢
  have hee : (er == er) = true := by simp
  clear hf2 ht2 hty2 hset hb0 her
  go_wp2_with fail
  refine hst.out.mono ?_
  rintro e w3 ⟨rfl, v3, E3, hq3, hf3, hb3⟩
  have hts := Lib.hid (tms_step (HQ.out.keep HF2.out) hf3 HT2.out HTY2.out)
  have HF3 := Lib.hid (HF2.out.of_nob.trans (foot_new (HQ.out.keep HF2.out) hf3) (fun _ _ h => h))
  have HQ3 := Lib.hid hq3
  clear hq3 hf3 hb3 hst hb2 q1
  go_wp2_with fail
  go_ret3
  exact ⟨_, _, _, rfl, ⟨g, mb, v3, E3, A2, n2, c2, rfl, rfl, HQ3.out, hts.out.1, hn2, hc2, hts.out.2, legal_set HL.out id a⟩, HF3.out⟩

set_option maxHeartbeats 4000000 in
set_option maxRecDepth 100000 in
theorem op_drop (w : World) (base : Nat) (qv wv : Value) (L : List Tm) (id a : Int) (h : St w base qv wv L) (hid : W64 id) :
    Calls Try.prog 30 #[qv, wv, .agg #[.int .i64 1, .int .i64 id, .int .i64 a]] w (opPost base w) := by
  obtain ⟨g, mb, v, E, A, n, c, rfl, rfl, hq, ht, hnc, hc, hty, hl⟩ := h
  have hn : n ≤ 256 := by rw [← ht.len]; exact hq.le
  have hb0 := Blk.new w 64 #[.int .i64 1, .int .i64 id, .int .i64 a]
  have hf0 := (Fr.refl nob w).alloc (.cells #[.int .i64 1, .int .i64 id, .int .i64 a] 64)
  have hfind := Lib.hid (ref06_find A n c L id _ (ht.nob hf0) (by omega))
  have hdrop := fun V (hV : Fr nob w V) => ref06_drop A n c L id V (ht.nob hV) (by omega)
  have hst := fun V (hV : Fr nob w V) => qdrop_any V base g mb v E L id (hq.keep hV) hid
  have hcl : ∀ V, Fr nob (w.alloc (.cells #[.int .i64 1, .int .i64 id, .int .i64 a] 64)) V → V.cell? ⟨w.heap.size, 1, none⟩ = some (.int .i64 id) := fun V hV =>
    ((hb0.fr hV (fun h => h)).cell 1).trans rfl
  obtain ⟨hs, hhs⟩ : ∃ hs, hs = hasS L id := ⟨_, rfl⟩
  obtain ⟨ix, hix⟩ : ∃ ix, ix = idxT L id := ⟨_, rfl⟩
  have hge : decide (0 ≤ ix) = hs := by
    rcases idxT_has L id with ⟨h1, h2, _⟩ | ⟨h1, h2⟩
    · rw [hix, hhs, h2]; exact decide_eq_true h1
    · rw [hix, hhs, h2, h1]; decide
  rw [← hhs] at hst
  rw [← hix] at hfind
  have HST := Lib.hid hst
  have HDR := Lib.hid hdrop
  have HCL := Lib.hid hcl
  have HQ := Lib.hid hq
  have HL := Lib.hid hl
  have HF0 := Lib.hid hf0
  have hbb : (hs == hs) = true := by simp
  clear hq ht hty hl hf0 hdrop hst hcl hhs hix
  go_enter Try.func30, Try.ntmps30
  go_wp2_with fail
  refine hfind.out.mono ?_
  rintro e w1 ⟨rfl, rfl⟩
  go_wp2_with fail
  refine wp_region_held_drew (S := fun w' => w'.cell? ⟨w.heap.size, 1, none⟩ = some (.int .i64 id)) (by kernel_rfl) (HCL.out _ (Fr.refl nob _).drew) (fun hHeld => ?_)
  first
    | (refine mix_skip 0 rfl (by kernel_rfl) (by kernel_rfl) (by kernel_rfl) (by rfl) (by assumption) (fun _ _ _ h => h) ?_)
    | (refine mix_pure 0 (v := ?_) rfl (by kernel_rfl) (by kernel_rfl) (by kernel_rfl) (by rfl) (by assumption) (fun _ _ _ h => h) ?_ ?_; rotate_left; · (intro wS hSw; (try dsimp only at hSw); go_simp; try with_reducible rfl))
  simp only [Act.put, List.setIfInBounds_toArray, List.set_cons_zero, List.set_cons_succ]
  first
    | (refine mix_skip 1 rfl (by kernel_rfl) (by kernel_rfl) (by kernel_rfl) (by rfl) (by assumption) (fun _ _ _ h => h) ?_)
    | (refine mix_pure 1 (v := ?_) rfl (by kernel_rfl) (by kernel_rfl) (by kernel_rfl) (by rfl) (by assumption) (fun _ _ _ h => h) ?_ ?_; rotate_left; · (intro wS hSw; (try dsimp only at hSw); go_simp; try with_reducible rfl))
  simp only [Act.put, List.setIfInBounds_toArray, List.set_cons_zero, List.set_cons_succ]
  first
    | (refine mix_skip 2 rfl (by kernel_rfl) (by kernel_rfl) (by kernel_rfl) (by rfl) (by assumption) (fun _ _ _ h => h) ?_)
    | (refine mix_pure 2 (v := ?_) rfl (by kernel_rfl) (by kernel_rfl) (by kernel_rfl) (by rfl) (by assumption) (fun _ _ _ h => h) ?_ ?_; rotate_left; · (intro wS hSw; (try dsimp only at hSw); go_simp; try with_reducible rfl))
  simp only [Act.put, List.setIfInBounds_toArray, List.set_cons_zero, List.set_cons_succ]
  first
    | (refine mix_skip 3 rfl (by kernel_rfl) (by kernel_rfl) (by kernel_rfl) (by rfl) (by assumption) (fun _ _ _ h => h) ?_)
    | (refine mix_pure 3 (v := ?_) rfl (by kernel_rfl) (by kernel_rfl) (by kernel_rfl) (by rfl) (by assumption) (fun _ _ _ h => h) ?_ ?_; rotate_left; · (intro wS hSw; (try dsimp only at hSw); go_simp; try with_reducible rfl))
  simp only [Act.put, List.setIfInBounds_toArray, List.set_cons_zero, List.set_cons_succ]
  first
    | (refine mix_skip 5 rfl (by kernel_rfl) (by kernel_rfl) (by kernel_rfl) (by rfl) (by assumption) (fun _ _ _ h => h) ?_)
    | (refine mix_pure 5 (v := ?_) rfl (by kernel_rfl) (by kernel_rfl) (by kernel_rfl) (by rfl) (by assumption) (fun _ _ _ h => h) ?_ ?_; rotate_left; · (intro wS hSw; (try dsimp only at hSw); go_simp; try with_reducible rfl))
  simp only [Act.put, List.setIfInBounds_toArray, List.set_cons_zero, List.set_cons_succ]
  first
    | (refine mix_skip 6 rfl (by kernel_rfl) (by kernel_rfl) (by kernel_rfl) (by rfl) (by assumption) (fun _ _ _ h => h) ?_)
    | (refine mix_pure 6 (v := ?_) rfl (by kernel_rfl) (by kernel_rfl) (by kernel_rfl) (by rfl) (by assumption) (fun _ _ _ h => h) ?_ ?_; rotate_left; · (intro wS hSw; (try dsimp only at hSw); go_simp; try with_reducible rfl))
  simp only [Act.put, List.setIfInBounds_toArray, List.set_cons_zero, List.set_cons_succ]
  first
    | (refine mix_skip 7 rfl (by kernel_rfl) (by kernel_rfl) (by kernel_rfl) (by rfl) (by assumption) (fun _ _ _ h => h) ?_)
    | (refine mix_pure 7 (v := ?_) rfl (by kernel_rfl) (by kernel_rfl) (by kernel_rfl) (by rfl) (by assumption) (fun _ _ _ h => h) ?_ ?_; rotate_left; · (intro wS hSw; (try dsimp only at hSw); go_simp; try with_reducible rfl))
  simp only [Act.put, List.setIfInBounds_toArray, List.set_cons_zero, List.set_cons_succ]
  first
    | (refine mix_skip 9 rfl (by kernel_rfl) (by kernel_rfl) (by kernel_rfl) (by rfl) (by assumption) (fun _ _ _ h => h) ?_)
    | (refine mix_pure 9 (v := ?_) rfl (by kernel_rfl) (by kernel_rfl) (by kernel_rfl) (by rfl) (by assumption) (fun _ _ _ h => h) ?_ ?_; rotate_left; · (intro wS hSw; (try dsimp only at hSw); go_simp; try with_reducible rfl))
  simp only [Act.put, List.setIfInBounds_toArray, List.set_cons_zero, List.set_cons_succ]
  refine mix_one 4 rfl (by kernel_rfl) (fun K hK => ?_)
  go_simp
  refine (HDR.out _ HF0.out.drew).mono ?_
  rintro e w2 ⟨hf2, A2, n2, c2, rfl, ht2, hn2, hc2, hty2⟩
  have HF2 := Lib.hid (HF0.out.drew.trans hf2 (fun _ _ h => h))
  have HFB := Lib.hid ((Fr.refl nob _).drew.trans hf2 (fun _ _ h => h))
  have HT2 := Lib.hid ht2
  have HTY2 := Lib.hid hty2
  clear hf2 ht2 hty2
  refine hK.out _ _ (HCL.out _ HFB.out) (fun hHeld0 => ?_)
  clear hK K
  try simp only [Act.put, List.setIfInBounds_toArray, List.set_cons_zero, List.set_cons_succ]
  refine mix_one 8 rfl (by kernel_rfl) (fun K hK => ?_)
  go_simp
  refine (HST.out _ HF2.out).mono ?_
  rintro e w3 ⟨rfl, v3, E3, hq3, hf3, hb3⟩
  have hts := Lib.hid (tms_step (HQ.out.keep HF2.out) hf3 HT2.out HTY2.out)
  have HF3 := Lib.hid (HF2.out.of_nob.trans (foot_new (HQ.out.keep HF2.out) hf3) (fun _ _ h => h))
  have HQ3 := Lib.hid hq3
  have hbx : w3.cell? ⟨w.heap.size, 1, none⟩ = some (.int .i64 id) := by
    have hbl := hb0.fr HFB.out (fun h => h)
    exact ((hbl.fr hf3 (fun hh => (HQ.out.keep HF2.out).out hbl (by decide) (by decide) (by decide) hh)).cell 1).trans rfl
  clear hq3 hf3 hb3
  refine hK.out _ _ (hbx) (fun hHeld1 => ?_)
  clear hK K
  try simp only [Act.put, List.setIfInBounds_toArray, List.set_cons_zero, List.set_cons_succ]
  first
    | (refine mix_skip 10 rfl (by kernel_rfl) (by kernel_rfl) (by kernel_rfl) (by rfl) (by assumption) (fun _ _ _ h => h) ?_)
    | (refine mix_pure 10 (v := ?_) rfl (by kernel_rfl) (by kernel_rfl) (by kernel_rfl) (by rfl) (by assumption) (fun _ _ _ h => h) ?_ ?_; rotate_left; · (intro wS hSw; (try dsimp only at hSw); go_simp; try with_reducible rfl))
  simp only [Act.put, List.setIfInBounds_toArray, List.set_cons_zero, List.set_cons_succ]
  first
    | (refine mix_skip 11 rfl (by kernel_rfl) (by kernel_rfl) (by kernel_rfl) (by rfl) (by assumption) (fun _ _ _ h => h) ?_)
    | (refine mix_pure 11 (v := ?_) rfl (by kernel_rfl) (by kernel_rfl) (by kernel_rfl) (by rfl) (by assumption) (fun _ _ _ h => h) ?_ ?_; rotate_left; · (intro wS hSw; (try dsimp only at hSw); go_simp; try with_reducible rfl))
  simp only [Act.put, List.setIfInBounds_toArray, List.set_cons_zero, List.set_cons_succ]
  first
    | (refine mix_skip 12 rfl (by kernel_rfl) (by kernel_rfl) (by kernel_rfl) (by rfl) (by assumption) (fun _ _ _ h => h) ?_)
    | (refine mix_pure 12 (v := ?_) rfl (by kernel_rfl) (by kernel_rfl) (by kernel_rfl) (by rfl) (by assumption) (fun _ _ _ h => h) ?_ ?_; rotate_left; · (intro wS hSw; (try dsimp only at hSw); go_simp; try with_reducible rfl))
  simp only [Act.put, List.setIfInBounds_toArray, List.set_cons_zero, List.set_cons_succ]
  first
    | (refine mix_skip 13 rfl (by kernel_rfl) (by kernel_rfl) (by kernel_rfl) (by rfl) (by assumption) (fun _ _ _ h => h) ?_)
    | (refine mix_pure 13 (v := ?_) rfl (by kernel_rfl) (by kernel_rfl) (by kernel_rfl) (by rfl) (by assumption) (fun _ _ _ h => h) ?_ ?_; rotate_left; · (intro wS hSw; (try dsimp only at hSw); go_simp; try with_reducible rfl))
  simp only [Act.put, List.setIfInBounds_toArray, List.set_cons_zero, List.set_cons_succ]
  refine wpAnyH_done (by kernel_rfl) ?_ _
  go_wp2_with fail
  go_ret3
  refine ⟨_, _, _, ?_, ⟨g, mb, v3, E3, A2, n2, c2, rfl, rfl, HQ3.out, hts.out.1, hn2, hc2, hts.out.2, legal_drop HL.out id⟩, HF3.out⟩
  first | rfl | (simp [hge])

theorem own_foot {w w' : World} {base base2 g mb : Nat} {v : Value} {E : List Ent} {L : List Tm} {A : Option Addr} {n c size : Nat} {xs : List Value} (h : QS w base g mb v E L) (hf : Fr (qfoot g mb v E) w w') (ho : w.ownsRow base2 3 size (.slice A n c) n xs) : w'.ownsRow base2 3 size (.slice A n c) n xs :=
  own_fr ho hf (fun b hb => by
    obtain ⟨cs, hcs⟩ := own_block ho b hb
    exact h.out hcs (by decide) (by decide) (by decide))

set_option maxHeartbeats 4000000 in
set_option maxRecDepth 100000 in
theorem op_due (w : World) (base : Nat) (qv wv : Value) (L : List Tm) (id a : Int) (h : St w base qv wv L) :
    Calls Try.prog 30 #[qv, wv, .agg #[.int .i64 2, .int .i64 id, .int .i64 a]] w (opPost base w) := by
  obtain ⟨g, mb, v, E, A, n, c, rfl, rfl, hq, ht, hnc, hc, hty, hl⟩ := h
  have hn : n ≤ 256 := by rw [← ht.len]; exact hq.le
  have hb0 := Blk.new w 64 #[.int .i64 2, .int .i64 id, .int .i64 a]
  have hf0 := (Fr.refl nob w).alloc (.cells #[.int .i64 2, .int .i64 id, .int .i64 a] 64)
  have hset := Lib.hid (ref06_due A n c L a _ (ht.nob hf0) (by omega) hnc hc (hty.fr hf0))
  have HQ := Lib.hid hq
  have HL := Lib.hid hl
  have HF0 := Lib.hid hf0
  have hdl : (dueS L a).length ≤ 256 := Nat.le_trans (List.takeWhile_sublist _).length_le hq.le
  clear hq ht hty hl hf0
  go_enter Try.func30, Try.ntmps30
  go_wp2_with fail
  refine hset.out.mono ?_
  rintro e w2 ⟨A2, n2, c2, B2, d2, rfl, ht2, hn2, hc2, hown2, hf2, hty2⟩
  have HF2 := Lib.hid (HF0.out.trans hf2 (fun _ _ h => h))
  have hb2 := (hb0.fr hf2 (fun h => h))
  have q1 := hb2.cell
  have q2 := hb2.lt
  have hst := Lib.hid (qdue_any w2 base g mb v E L a (HQ.out.keep HF2.out))
  have HT2 := Lib.hid ht2
  have HTY2 := Lib.hid hty2
  have HO2 := Lib.hid hown2
  clear hf2 ht2 hty2 hset hb0 hown2
  go_wp2_with fail
  refine hst.out.mono ?_
  rintro e w3 ⟨A3, c3, rfl, hown3, v3, E3, hq3, hf3, hb3⟩
  have hts := Lib.hid (tms_step (HQ.out.keep HF2.out) hf3 HT2.out HTY2.out)
  have HF3 := Lib.hid (HF2.out.of_nob.trans (foot_new (HQ.out.keep HF2.out) hf3) (fun _ _ h => h))
  have HO3 := Lib.hid (own_foot (HQ.out.keep HF2.out) hf3 HO2.out)
  have hint := Lib.hid (ints_any A3 B2 _ _ c3 d2 _ _ w3 (Rd.of_own hown3) (Rd.of_own HO3.out) (by omega) (by omega))
  have hsm : sameInts ((dueS L a).map (·.1)) ((dueS L a).map (·.1)) = true := by simp [sameInts]
  rw [hsm] at hint
  have HQ3 := Lib.hid hq3
  clear hq3 hf3 hb3 hst hb2 q1 hown3 hsm
  go_wp2_with fail
  refine hint.out.mono ?_
  rintro e w4 ⟨rfl, q, rfl⟩
  go_wp2_with fail
  go_ret3
  have hf4 := (Fr.refl nob w3).drewN q
  exact ⟨_, _, _, rfl, ⟨g, mb, v3, E3, A2, n2, c2, rfl, rfl, HQ3.out.keep hf4, hts.out.1.nob hf4, hn2, hc2, hts.out.2.fr hf4, legal_rest HL.out a⟩, HF3.out.drewN q⟩

set_option maxHeartbeats 4000000 in
set_option maxRecDepth 100000 in
theorem op_clone (w : World) (base : Nat) (qv wv : Value) (L : List Tm) (k id a : Int) (h : St w base qv wv L) (hid : W64 id) (h0 : k ≠ 0) (h1 : k ≠ 1) (h2 : k ≠ 2) :
    Calls Try.prog 30 #[qv, wv, .agg #[.int .i64 k, .int .i64 id, .int .i64 a]] w (opPost base w) := by
  obtain ⟨g, mb, v, E, A, n, c, rfl, rfl, hq, ht, hnc, hc, hty, hl⟩ := h
  have hb0 := Blk.new w 64 #[.int .i64 k, .int .i64 id, .int .i64 a]
  have hf0 := (Fr.refl nob w).alloc (.cells #[.int .i64 k, .int .i64 id, .int .i64 a] 64)
  have hcl := Lib.hid (qclone_any _ base g mb v E L (hq.keep hf0) hl)
  have HQ := Lib.hid hq
  have HT := Lib.hid ht
  have HTY := Lib.hid hty
  have HL := Lib.hid hl
  have HF0 := Lib.hid hf0
  have e0 : (k == 0) = false := by rw [beq_eq_false_iff_ne]; exact h0
  have e1 : (k == 1) = false := by rw [beq_eq_false_iff_ne]; exact h1
  have e2 : (k == 2) = false := by rw [beq_eq_false_iff_ne]; exact h2
  clear hq ht hty hl hf0 h0 h1 h2
  go_enter Try.func30, Try.ntmps30
  go_wp2_with fail
  refine hcl.out.mono ?_
  rintro e w2 ⟨gc, mc, vc, Ec, rfl, hqc, hf2⟩
  have HF2 := Lib.hid (HF0.out.trans hf2 (fun _ _ h => h))
  have hb2 := (hb0.fr hf2 (fun h => h))
  have q1 := hb2.cell
  have q2 := hb2.lt
  have hst := Lib.hid (qset_any w2 base g mb v E L id a (HQ.out.keep HF2.out) hid)
  have HQC := Lib.hid (hqc.base_le (base' := w.heap.size) (by simp))
  clear hf2 hb0 hcl hqc
  go_wp2_with fail
  refine hst.out.mono ?_
  rintro e w3 ⟨rfl, v3, E3, hq3, hf3, hb3⟩
  have hts := Lib.hid (tms_step (HQ.out.keep HF2.out) hf3 (HT.out.nob HF2.out) (HTY.out.fr HF2.out))
  have HF3 := Lib.hid (HF2.out.of_nob.trans (foot_new (HQ.out.keep HF2.out) hf3) (fun _ _ h => h))
  have HQC3 := Lib.hid (HQC.out.fr hf3 (fun b hb hb' => by
    have h1 := HQC.out.ge hb
    have h2 := HQ.out.lt hb'
    omega))
  have HB3 : Hid (∀ b, qfoot gc mc vc Ec b → ¬ qfoot g mb v3 E3 b) := Lib.hid fun b hb hb' => by
    rcases hb3 b hb' with h1 | h1
    · have h2 := HQC.out.ge hb
      have h3 := HQ.out.lt h1
      omega
    · have h2 := HQC.out.lt hb
      omega
  have hb4 := hb2.fr hf3 (fun hh => (HQ.out.keep HF2.out).out hb2 (by decide) (by decide) (by decide) hh)
  have p1 := hb4.cell
  have p2 := hb4.lt
  have hdu := Lib.hid (qdue_any w3 base g mb v3 E3 (setS L id a) a hq3)
  have HQ3 := Lib.hid hq3
  clear hq3 hf3 hb3 hst hb2 q1 q2 hb4
  go_wp2_with fail
  refine hdu.out.mono ?_
  rintro e w4 ⟨A4, c4, rfl, -, v4, E4, -, hf4, -⟩
  have hts4 := Lib.hid (tms_step HQ3.out hf4 hts.out.1 hts.out.2)
  have HF4 := Lib.hid (HF3.out.trans (foot_new HQ3.out hf4) (fun _ _ h => h))
  have HQC4 := Lib.hid (HQC3.out.fr hf4 (fun b hb => HB3.out b hb))
  have hbz : base ≤ w.heap.size := by
    have h1 := HQ.out.gb
    have h2 := HQ.out.lt (b := g) (.inr (.inl rfl))
    omega
  clear hf4 hdu p1 p2
  go_wp2_with fail
  go_ret3
  exact ⟨_, _, _, rfl, ⟨gc, mc, vc, Ec, A, n, c, rfl, rfl, HQC4.out.base_le hbz, hts4.out.1, hnc, hc, hts4.out.2, HL.out⟩, HF4.out⟩
theorem op_any (w : World) (base : Nat) (qv wv : Value) (L : List Tm) (k id a : Int) (h : St w base qv wv L) (hid : W64 id) :
    Calls Try.prog 30 #[qv, wv, .agg #[.int .i64 k, .int .i64 id, .int .i64 a]] w (opPost base w) := by
  by_cases h0 : k = 0
  · subst h0; exact op_set w base qv wv L id a h hid
  by_cases h1 : k = 1
  · subst h1; exact op_drop w base qv wv L id a h hid
  by_cases h2 : k = 2
  · subst h2; exact op_due w base qv wv L id a h
  exact op_clone w base qv wv L k id a h hid h0 h1 h2
end Go.Proofs.Ythdenkmmiadeiaa
