/- The law AuditTells returns true at every input. -/
import Derived.Test.YtmpjdploacfmeaaFr8
namespace Go.Proofs.Ytmpjdploacfmeaa
set_option linter.unusedSimpArgs false
set_option linter.unusedVariables false
open Go.RowKit

/-- What both Frames tell: the frames, when they begin, the error. -/
def tellT (right : Bool) (tc : Int) (lo : List (Int × Int)) : List (List Int) × List Int × Int :=
  if right = false then ([], [], 11) else match framesF tc lo with
  | none => ([], [], 14)
  | some (fs, ats) => (fs, ats, 0)
theorem frPost_tell {w w' : World} {tc ts tl tt : Int} {lo : List (Int × Int)} {e : Ending} {fs : List (List Int)} {ats : List Int} {er : Int} (ht : tellT (rightT tc ts tl tt) tc lo = (fs, ats, er)) (h : frPost w tc ts tl tt lo e w') :
    ∃ Ao oc Aa ca, e = .returned (.tuple #[.slice Ao fs.length oc, .slice Aa ats.length ca, .int .i64 er]) ∧ CR w' w.heap.size (.slice Ao fs.length oc) fs ∧ w'.ownsRow w.heap.size 3 1 (.slice Aa ats.length ca) ats.length (nums .i64 ats) ∧ Fr nob w w' := by
  obtain ⟨hf, ⟨hr, rfl⟩ | ⟨hr, hn, rfl⟩ | ⟨hr, fs', ats', ov, A, c, hs, rfl, hcr, hown⟩⟩ := h
  · rw [tellT, if_pos hr] at ht
    cases ht
    exact ⟨none, 0, none, 0, rfl, CR.nil _ _, World.ownsRow_nil _ _ _ _, hf⟩
  · rw [tellT, if_neg (by rw [hr]; simp), hn] at ht
    cases ht
    exact ⟨none, 0, none, 0, rfl, CR.nil _ _, World.ownsRow_nil _ _ _ _, hf⟩
  · rw [tellT, if_neg (by rw [hr]; simp), hs] at ht
    cases ht
    obtain ⟨Ao, oc, rfl⟩ := hcr.form
    exact ⟨Ao, oc, A, c, rfl, hcr, hown, hf⟩
theorem same_self (l : List Int) : sameInts l l = true := decide_eq_true rfl

set_option maxHeartbeats 4000000 in
set_option maxRecDepth 100000 in
theorem auditTells_great (A : Option Addr) (n c : Nat) (H : Option Addr) (nh ch : Nat) (tc ts tl tt : Int) (w : World) (hb : 400 < n ∨ 400 < nh) :
    Calls Try.prog 7 #[.slice A n c, .slice H nh ch, .agg #[.int .i64 tc, .int .i64 ts, .int .i64 tl, .int .i64 tt]] w fun e w' => e = .returned (.bool true) ∧ Fr nob w w' := by
  have HF := Lib.hid ((Fr.refl nob w).alloc (.cells #[.int .i64 tc, .int .i64 ts, .int .i64 tl, .int .i64 tt] 63))
  have hd : decide ((400 : Int) < (n : Int)) = true ∨ (decide ((400 : Int) < (n : Int)) = false ∧ decide ((400 : Int) < (nh : Int)) = true) := by
    by_cases h : 400 < n
    · exact .inl (decide_eq_true (by omega))
    · exact .inr ⟨decide_eq_false (by omega), decide_eq_true (by omega)⟩
  clear hb
  rcases hd with hd | ⟨hd, hd'⟩
  all_goals
    go_enter Try.func7, Try.ntmps7
    go_wp2_with fail
    refine (audit_sure _).mono ?_
    rintro e w2 ⟨rfl, hf2⟩
    have HF2 := Lib.hid (HF.out.trans hf2 (fun _ _ h => h))
    clear hf2
    go_wp2_with fail
    go_ret
    exact ⟨rfl, HF2.out⟩

set_option maxHeartbeats 8000000 in
set_option maxRecDepth 100000 in
theorem auditTells_few (A : Option Addr) (n c : Nat) (lo : List (Int × Int)) (H : Option Addr) (nh ch : Nat) (lh : List Hd) (tc ts tl tt : Int) (w : World) (h : Rd w 2 A n (lo.flatMap outc)) (h8 : ∀ y ∈ lo, 0 ≤ y.2 ∧ y.2 ≤ 255) (hn : n ≤ 400) (hnc : n ≤ c) (hh : Rd w 3 H nh (lh.flatMap hdc)) (hnh : nh ≤ 400) :
    Calls Try.prog 7 #[.slice A n c, .slice H nh ch, .agg #[.int .i64 tc, .int .i64 ts, .int .i64 tl, .int .i64 tt]] w fun e w' => e = .returned (.bool true) ∧ Fr nob w w' := by
  have hb0 := Blk.new w 63 #[.int .i64 tc, .int .i64 ts, .int .i64 tl, .int .i64 tt]
  have hf0 := (Fr.refl nob w).alloc (.cells #[.int .i64 tc, .int .i64 ts, .int .i64 tl, .int .i64 tt] 63)
  have hd1 : decide ((400 : Int) < (n : Int)) = false := decide_eq_false (by omega)
  have hd2 : decide ((400 : Int) < (nh : Int)) = false := decide_eq_false (by omega)
  have HA := Lib.hid (fun V (hV : Fr nob w V) => audit_frames A n c lo tc ts tl tt V (h.nob hV) hn hnc)
  have HB := Lib.hid (fun V (hV : Fr nob w V) => ref31_frames A n c lo tc ts tl tt V (h.nob hV) hn)
  have hca := fun (V : World) (hV : Fr nob w V) (st : Int) => audit_check A n c lo st tc ts tl tt V (h.nob hV) h8 hn hnc
  have hcb := fun (V : World) (hV : Fr nob w V) (st : Int) => ref31_check A n c lo st tc ts tl tt V (h.nob hV) h8 hn
  have haa := fun (V : World) (hV : Fr nob w V) (st : Int) => audit_asked A n c lo H nh ch lh st tc ts tl tt V (h.nob hV) h8 hn hnc (hh.nob hV) hnh
  have hab := fun (V : World) (hV : Fr nob w V) (st : Int) => ref31_asked A n c lo H nh ch lh st tc ts tl tt V (h.nob hV) h8 hn (hh.nob hV) hnh
  obtain ⟨ck, hck⟩ : ∃ ck, ck = checkF (rightT tc ts tl tt) tc lo := ⟨_, rfl⟩
  obtain ⟨ak, hak⟩ : ∃ ak, ak = askF (rightT tc ts tl tt) tc tl tt lo lh := ⟨_, rfl⟩
  rw [← hck] at hca hcb
  rw [← hak] at haa hab
  have HCA := Lib.hid hca
  have HCB := Lib.hid hcb
  have HAA := Lib.hid haa
  have HAB := Lib.hid hab
  obtain ⟨⟨fs, ats, er⟩, htell⟩ : ∃ r, tellT (rightT tc ts tl tt) tc lo = r := ⟨_, rfl⟩
  have HTE := Lib.hid htell
  have HF0 := Lib.hid hf0
  have HB0 := Lib.hid hb0
  clear h h8 hh hca hcb haa hab hck hak htell hb0 hf0
  go_enter Try.func7, Try.ntmps7
  go_wp2_with fail
  refine (HA.out _ HF0.out).mono ?_
  intro e w1 hp
  obtain ⟨Ao, oc, Aa, ca, rfl, hcr, hown, hf1⟩ := frPost_tell HTE.out hp
  have HF1 := Lib.hid (HF0.out.trans hf1 (fun _ _ h => h))
  have HCR := Lib.hid hcr
  have HOW := Lib.hid hown
  have hb1 := HB0.out.fr hf1 id
  have q1 := hb1.cell
  have q2 := hb1.lt
  clear hp hf1 hcr hown HA
  go_wp2_with fail
  refine (HB.out _ HF1.out).mono ?_
  intro e w2 hp
  obtain ⟨Bo, oc2, Ba, ca2, rfl, hcr2, hown2, hf2⟩ := frPost_tell HTE.out hp
  have HF2 := Lib.hid (HF1.out.trans hf2 (fun _ _ h => h))
  have HB2 := Lib.hid (hb1.fr hf2 id)
  have HCR1 := Lib.hid (HCR.out.nob hf2)
  have HCR2 := Lib.hid hcr2
  have hown1 := own_fr HOW.out hf2 (fun _ _ h => h)
  have HINT := Lib.hid (ints_any Aa Ba ats.length ats.length ca ca2 ats ats w2 (Rd.of_own hown1) (Rd.of_own hown2) (own_max hown1) (own_max hown1))
  have hsm := same_self ats
  rw [hsm] at HINT
  have hfl : fs.length ≤ 9223372036854775807 := by
    obtain ⟨vs, _, h2, _⟩ := hcr2
    exact own_max h2
  obtain ⟨m, hm⟩ : ∃ m, m = fs.length := ⟨_, rfl⟩
  have HM := Lib.hid hm
  rw [← hm] at hfl ⊢
  obtain ⟨ma, hma⟩ : ∃ ma, ma = ats.length := ⟨_, rfl⟩
  rw [← hma] at HINT ⊢
  clear hp hf2 hcr2 hown2 hown1 hb1 q1 q2 HCR HOW HB hsm hm hma
  go_wp2_with fail
  refine HINT.out.mono ?_
  rintro e w3 ⟨rfl, q, rfl⟩
  clear HINT
  go_wp2_with fail
  have HFD := Lib.hid (HF2.out.drewN q)
  go_loopw [13] (fun iv wr => ∃ k : Nat, iv = .int .i64 k ∧ k ≤ m ∧ Hid (Fr nob w2 wr)) (fun iv _ => m - (intOf iv).toNat)
  case atStart => exact ⟨0, rfl, by omega, Lib.hid ((Fr.refl nob w2).drewN q)⟩
  case round =>
    obtain ⟨k, rfl, hk, hf⟩ := hrel
    by_cases hlt : k < m
    · obtain ⟨g, o, f, rfl, hg, hfk, Ai, ni, ci, hc, hni, hci, hrd⟩ := (HCR1.out.nob hf.out).at_ (k := k) (by rw [← HM.out]; exact hlt)
      obtain ⟨g', o', f', rfl, hg', hfk', Bi, ni', ci', hc', hni', hci', hrd'⟩ := (HCR2.out.nob hf.out).at_ (k := k) (by rw [← HM.out]; exact hlt)
      rw [hfk] at hfk'
      cases hfk'
      have hi0 : (0 : Int) ≤ (k : Int) ∧ (k : Int) < (m : Int) := ⟨by omega, by omega⟩
      have hby := bytes_any Ai Bi ni ni' ci ci' f f wr.drew hrd hrd' (by omega) (by omega)
      rw [same_self] at hby
      have HBY := Lib.hid hby
      have HCL : Hid (∀ j, (wr.drewN j).cell? ⟨g, o + k, none⟩ = some (.slice Ai ni ci) ∧ (wr.drewN j).cell? ⟨g', o' + k, none⟩ = some (.slice Bi ni' ci')) := Lib.hid (fun j => ⟨hc, hc'⟩)
      clear hfk hrd hrd' hby hni hci hni' hci'
      go_wp2_with fail
      refine wp_region_held_drew (S := fun V => V.cell? ⟨g, o + k, none⟩ = some (.slice Ai ni ci) ∧ V.cell? ⟨g', o' + k, none⟩ = some (.slice Bi ni' ci')) (by kernel_rfl) (HCL.out 1) (fun hHeld => ?_)
      first
        | (refine mix_skip 0 rfl (by kernel_rfl) (by kernel_rfl) (by kernel_rfl) (by rfl) (by assumption) (fun _ _ _ h => h) ?_)
        | (refine mix_pure 0 (v := ?_) rfl (by kernel_rfl) (by kernel_rfl) (by kernel_rfl) (by rfl) (by assumption) (fun _ _ _ h => h) ?_ ?_; rotate_left; · (intro wS hSw; (try dsimp only at hSw); go_simp; try with_reducible rfl))
      simp only [Act.put, List.setIfInBounds_toArray, List.set_cons_zero, List.set_cons_succ]
      first
        | (refine mix_skip 1 rfl (by kernel_rfl) (by kernel_rfl) (by kernel_rfl) (by rfl) (by assumption) (fun _ _ _ h => h) ?_)
        | (refine mix_pure 1 (v := ?_) rfl (by kernel_rfl) (by kernel_rfl) (by kernel_rfl) (by rfl) (by assumption) (fun _ _ _ h => h) ?_ ?_; rotate_left; · (intro wS hSw; (try dsimp only at hSw); go_simp; try with_reducible rfl))
      simp only [Act.put, List.setIfInBounds_toArray, List.set_cons_zero, List.set_cons_succ]
      first
        | (refine mix_skip 2 rfl (by kernel_rfl) (by kernel_rfl) (by kernel_rfl) (by rfl) (by assumption) (fun _ _ _ h => h) ?_)
        | (refine mix_pure 2 (v := ?_) rfl (by kernel_rfl) (by kernel_rfl) (by kernel_rfl) (by rfl) (by assumption) (fun _ _ _ h => h) ?_ ?_; rotate_left; · (intro wS hSw; (try dsimp only at hSw); go_simp; try with_reducible rfl))
      simp only [Act.put, List.setIfInBounds_toArray, List.set_cons_zero, List.set_cons_succ]
      first
        | (refine mix_skip 3 rfl (by kernel_rfl) (by kernel_rfl) (by kernel_rfl) (by rfl) (by assumption) (fun _ _ _ h => h) ?_)
        | (refine mix_pure 3 (v := ?_) rfl (by kernel_rfl) (by kernel_rfl) (by kernel_rfl) (by rfl) (by assumption) (fun _ _ _ h => h) ?_ ?_; rotate_left; · (intro wS hSw; (try dsimp only at hSw); go_simp; try with_reducible rfl))
      simp only [Act.put, List.setIfInBounds_toArray, List.set_cons_zero, List.set_cons_succ]
      first
        | (refine mix_skip 4 rfl (by kernel_rfl) (by kernel_rfl) (by kernel_rfl) (by rfl) (by assumption) (fun _ _ _ h => h) ?_)
        | (refine mix_pure 4 (v := ?_) rfl (by kernel_rfl) (by kernel_rfl) (by kernel_rfl) (by rfl) (by assumption) (fun _ _ _ h => h) ?_ ?_; rotate_left; · (intro wS hSw; (try dsimp only at hSw); go_simp; try with_reducible rfl))
      simp only [Act.put, List.setIfInBounds_toArray, List.set_cons_zero, List.set_cons_succ]
      first
        | (refine mix_skip 5 rfl (by kernel_rfl) (by kernel_rfl) (by kernel_rfl) (by rfl) (by assumption) (fun _ _ _ h => h) ?_)
        | (refine mix_pure 5 (v := ?_) rfl (by kernel_rfl) (by kernel_rfl) (by kernel_rfl) (by rfl) (by assumption) (fun _ _ _ h => h) ?_ ?_; rotate_left; · (intro wS hSw; (try dsimp only at hSw); go_simp; try with_reducible rfl))
      simp only [Act.put, List.setIfInBounds_toArray, List.set_cons_zero, List.set_cons_succ]
      first
        | (refine mix_skip 6 rfl (by kernel_rfl) (by kernel_rfl) (by kernel_rfl) (by rfl) (by assumption) (fun _ _ _ h => h) ?_)
        | (refine mix_pure 6 (v := ?_) rfl (by kernel_rfl) (by kernel_rfl) (by kernel_rfl) (by rfl) (by assumption) (fun _ _ _ h => h) ?_ ?_; rotate_left; · (intro wS hSw; (try dsimp only at hSw); go_simp; try with_reducible rfl))
      simp only [Act.put, List.setIfInBounds_toArray, List.set_cons_zero, List.set_cons_succ]
      first
        | (refine mix_skip 7 rfl (by kernel_rfl) (by kernel_rfl) (by kernel_rfl) (by rfl) (by assumption) (fun _ _ _ h => h) ?_)
        | (refine mix_pure 7 (v := ?_) rfl (by kernel_rfl) (by kernel_rfl) (by kernel_rfl) (by rfl) (by assumption) (fun _ _ _ h => h) ?_ ?_; rotate_left; · (intro wS hSw; (try dsimp only at hSw); go_simp; try with_reducible rfl))
      simp only [Act.put, List.setIfInBounds_toArray, List.set_cons_zero, List.set_cons_succ]
      refine mix_one 8 rfl (by kernel_rfl) (fun K hK => ?_)
      go_simp
      refine HBY.out.mono ?_
      rintro e w4 ⟨rfl, q4, rfl⟩
      refine hK.out _ _ ((HCL.out (1 + q4))) (fun hHeld1 => ?_)
      clear hK K
      try simp only [Act.put, List.setIfInBounds_toArray, List.set_cons_zero, List.set_cons_succ]
      first
        | (refine mix_skip 9 rfl (by kernel_rfl) (by kernel_rfl) (by kernel_rfl) (by rfl) (by assumption) (fun _ _ _ h => h) ?_)
        | (refine mix_pure 9 (v := ?_) rfl (by kernel_rfl) (by kernel_rfl) (by kernel_rfl) (by rfl) (by assumption) (fun _ _ _ h => h) ?_ ?_; rotate_left; · (intro wS hSw; (try dsimp only at hSw); go_simp; try with_reducible rfl))
      simp only [Act.put, List.setIfInBounds_toArray, List.set_cons_zero, List.set_cons_succ]
      refine wpAnyH_done (by kernel_rfl) ?_ _
      go_wp2_with fail
      go_roundw
      case rel => exact ⟨k + 1, by go_num, by omega, Lib.hid (hf.out.drewN (1 + q4))⟩
      case measure => simp [intOf]; omega
    · obtain rfl : k = m := by omega
      obtain ⟨W0, rfl⟩ : ∃ W0, W0 = wr := ⟨_, rfl⟩
      have HFW := Lib.hid (HF2.out.trans hf.out (fun _ _ h => h))
      have HBW := Lib.hid (HB2.out.fr hf.out id)
      go_wp2_with fail
      go_loopw [14] (fun iv wq => ∃ j : Nat, iv = .int .i64 j ∧ j ≤ 3 ∧ Hid (Fr nob W0 wq)) (fun iv _ => 3 - (intOf iv).toNat)
      case atStart => exact ⟨0, rfl, by omega, Lib.hid (Fr.refl _ _)⟩
      case round =>
        clear hf
        obtain ⟨j, rfl, hj, hf⟩ := hrel
        by_cases hlt3 : j < 3
        · have hj3 : decide ((j : Int) < 3) = true := decide_eq_true (by omega)
          obtain ⟨cv, hcv⟩ : ∃ cv, cv = ck (j : Int) := ⟨_, rfl⟩
          obtain ⟨av, hav⟩ : ∃ av, av = ak (j : Int) := ⟨_, rfl⟩
          have h1 := fun V hV => HCA.out V hV (j : Int)
          have h2 := fun V hV => HCB.out V hV (j : Int)
          have h3 := fun V hV => HAA.out V hV (j : Int)
          have h4 := fun V hV => HAB.out V hV (j : Int)
          rw [← hcv] at h1 h2
          rw [← hav] at h3 h4
          have HCA1 := Lib.hid h1
          have HCB1 := Lib.hid h2
          have HAA1 := Lib.hid h3
          have HAB1 := Lib.hid h4
          have hcl : ∀ V, Fr nob W0 V → V.cell? ⟨w.heap.size, 0, none⟩ = some (.int .i64 tc) ∧ V.cell? ⟨w.heap.size, 1, none⟩ = some (.int .i64 ts) ∧ V.cell? ⟨w.heap.size, 2, none⟩ = some (.int .i64 tl) ∧ V.cell? ⟨w.heap.size, 3, none⟩ = some (.int .i64 tt) := fun V hV =>
            ⟨((HBW.out.fr (S := nob) hV (fun h => h)).cell 0).trans rfl, ((HBW.out.fr (S := nob) hV (fun h => h)).cell 1).trans rfl, ((HBW.out.fr (S := nob) hV (fun h => h)).cell 2).trans rfl, ((HBW.out.fr (S := nob) hV (fun h => h)).cell 3).trans rfl⟩
          have HCL := Lib.hid hcl
          clear hcv hav h1 h2 h3 h4 hcl
          go_wp2_with fail
          refine wp_region_held_drew (S := fun V => V.cell? ⟨w.heap.size, 0, none⟩ = some (.int .i64 tc) ∧ V.cell? ⟨w.heap.size, 1, none⟩ = some (.int .i64 ts) ∧ V.cell? ⟨w.heap.size, 2, none⟩ = some (.int .i64 tl) ∧ V.cell? ⟨w.heap.size, 3, none⟩ = some (.int .i64 tt)) (by kernel_rfl) (HCL.out _ hf.out.drew) (fun hHeld => ?_)
          first
            | (refine mix_skip 0 rfl (by kernel_rfl) (by kernel_rfl) (by kernel_rfl) (by rfl) (by assumption) (fun _ _ _ h => h) ?_)
            | (refine mix_pure 0 (v := ?_) rfl (by kernel_rfl) (by kernel_rfl) (by kernel_rfl) (by rfl) (by assumption) (fun _ _ _ h => h) ?_ ?_; rotate_left; · (intro wS hSw; (try dsimp only at hSw); go_simp; try with_reducible rfl))
          simp only [Act.put, List.setIfInBounds_toArray, List.set_cons_zero, List.set_cons_succ]
          first
            | (refine mix_skip 1 rfl (by kernel_rfl) (by kernel_rfl) (by kernel_rfl) (by rfl) (by assumption) (fun _ _ _ h => h) ?_)
            | (refine mix_pure 1 (v := ?_) rfl (by kernel_rfl) (by kernel_rfl) (by kernel_rfl) (by rfl) (by assumption) (fun _ _ _ h => h) ?_ ?_; rotate_left; · (intro wS hSw; (try dsimp only at hSw); go_simp; try with_reducible rfl))
          simp only [Act.put, List.setIfInBounds_toArray, List.set_cons_zero, List.set_cons_succ]
          first
            | (refine mix_skip 2 rfl (by kernel_rfl) (by kernel_rfl) (by kernel_rfl) (by rfl) (by assumption) (fun _ _ _ h => h) ?_)
            | (refine mix_pure 2 (v := ?_) rfl (by kernel_rfl) (by kernel_rfl) (by kernel_rfl) (by rfl) (by assumption) (fun _ _ _ h => h) ?_ ?_; rotate_left; · (intro wS hSw; (try dsimp only at hSw); go_simp; try with_reducible rfl))
          simp only [Act.put, List.setIfInBounds_toArray, List.set_cons_zero, List.set_cons_succ]
          first
            | (refine mix_skip 4 rfl (by kernel_rfl) (by kernel_rfl) (by kernel_rfl) (by rfl) (by assumption) (fun _ _ _ h => h) ?_)
            | (refine mix_pure 4 (v := ?_) rfl (by kernel_rfl) (by kernel_rfl) (by kernel_rfl) (by rfl) (by assumption) (fun _ _ _ h => h) ?_ ?_; rotate_left; · (intro wS hSw; (try dsimp only at hSw); go_simp; try with_reducible rfl))
          simp only [Act.put, List.setIfInBounds_toArray, List.set_cons_zero, List.set_cons_succ]
          first
            | (refine mix_skip 5 rfl (by kernel_rfl) (by kernel_rfl) (by kernel_rfl) (by rfl) (by assumption) (fun _ _ _ h => h) ?_)
            | (refine mix_pure 5 (v := ?_) rfl (by kernel_rfl) (by kernel_rfl) (by kernel_rfl) (by rfl) (by assumption) (fun _ _ _ h => h) ?_ ?_; rotate_left; · (intro wS hSw; (try dsimp only at hSw); go_simp; try with_reducible rfl))
          simp only [Act.put, List.setIfInBounds_toArray, List.set_cons_zero, List.set_cons_succ]
          first
            | (refine mix_skip 6 rfl (by kernel_rfl) (by kernel_rfl) (by kernel_rfl) (by rfl) (by assumption) (fun _ _ _ h => h) ?_)
            | (refine mix_pure 6 (v := ?_) rfl (by kernel_rfl) (by kernel_rfl) (by kernel_rfl) (by rfl) (by assumption) (fun _ _ _ h => h) ?_ ?_; rotate_left; · (intro wS hSw; (try dsimp only at hSw); go_simp; try with_reducible rfl))
          simp only [Act.put, List.setIfInBounds_toArray, List.set_cons_zero, List.set_cons_succ]
          refine mix_one 3 rfl (by kernel_rfl) (fun K hK => ?_)
          go_simp
          refine (HCA1.out _ (HFW.out.trans hf.out.drew (fun _ _ h => h))).mono ?_
          rintro e w5 ⟨rfl, hf5⟩
          have hfr5 := hf.out.drew.trans hf5 (fun _ _ h => h)
          refine hK.out _ _ ((HCL.out _ hfr5)) (fun hHeld1 => ?_)
          clear hK K
          try simp only [Act.put, List.setIfInBounds_toArray, List.set_cons_zero, List.set_cons_succ]
          refine mix_one 7 rfl (by kernel_rfl) (fun K hK => ?_)
          go_simp
          refine (HCB1.out _ (HFW.out.trans hfr5 (fun _ _ h => h))).mono ?_
          rintro e w6 ⟨rfl, hf6⟩
          have hfr6 := hfr5.trans hf6 (fun _ _ h => h)
          refine hK.out _ _ ((HCL.out _ hfr6)) (fun hHeld2 => ?_)
          clear hK K
          try simp only [Act.put, List.setIfInBounds_toArray, List.set_cons_zero, List.set_cons_succ]
          first
            | (refine mix_skip 8 rfl (by kernel_rfl) (by kernel_rfl) (by kernel_rfl) (by rfl) (by assumption) (fun _ _ _ h => h) ?_)
            | (refine mix_pure 8 (v := ?_) rfl (by kernel_rfl) (by kernel_rfl) (by kernel_rfl) (by rfl) (by assumption) (fun _ _ _ h => h) ?_ ?_; rotate_left; · (intro wS hSw; (try dsimp only at hSw); go_simp; try with_reducible rfl))
          simp only [Act.put, List.setIfInBounds_toArray, List.set_cons_zero, List.set_cons_succ]
          first
            | (refine mix_skip 9 rfl (by kernel_rfl) (by kernel_rfl) (by kernel_rfl) (by rfl) (by assumption) (fun _ _ _ h => h) ?_)
            | (refine mix_pure 9 (v := ?_) rfl (by kernel_rfl) (by kernel_rfl) (by kernel_rfl) (by rfl) (by assumption) (fun _ _ _ h => h) ?_ ?_; rotate_left; · (intro wS hSw; (try dsimp only at hSw); go_simp; try with_reducible rfl))
          simp only [Act.put, List.setIfInBounds_toArray, List.set_cons_zero, List.set_cons_succ]
          first
            | (refine mix_skip 10 rfl (by kernel_rfl) (by kernel_rfl) (by kernel_rfl) (by rfl) (by assumption) (fun _ _ _ h => h) ?_)
            | (refine mix_pure 10 (v := ?_) rfl (by kernel_rfl) (by kernel_rfl) (by kernel_rfl) (by rfl) (by assumption) (fun _ _ _ h => h) ?_ ?_; rotate_left; · (intro wS hSw; (try dsimp only at hSw); go_simp; try with_reducible rfl))
          simp only [Act.put, List.setIfInBounds_toArray, List.set_cons_zero, List.set_cons_succ]
          first
            | (refine mix_skip 11 rfl (by kernel_rfl) (by kernel_rfl) (by kernel_rfl) (by rfl) (by assumption) (fun _ _ _ h => h) ?_)
            | (refine mix_pure 11 (v := ?_) rfl (by kernel_rfl) (by kernel_rfl) (by kernel_rfl) (by rfl) (by assumption) (fun _ _ _ h => h) ?_ ?_; rotate_left; · (intro wS hSw; (try dsimp only at hSw); go_simp; try with_reducible rfl))
          simp only [Act.put, List.setIfInBounds_toArray, List.set_cons_zero, List.set_cons_succ]
          first
            | (refine mix_skip 12 rfl (by kernel_rfl) (by kernel_rfl) (by kernel_rfl) (by rfl) (by assumption) (fun _ _ _ h => h) ?_)
            | (refine mix_pure 12 (v := ?_) rfl (by kernel_rfl) (by kernel_rfl) (by kernel_rfl) (by rfl) (by assumption) (fun _ _ _ h => h) ?_ ?_; rotate_left; · (intro wS hSw; (try dsimp only at hSw); go_simp; try with_reducible rfl))
          simp only [Act.put, List.setIfInBounds_toArray, List.set_cons_zero, List.set_cons_succ]
          first
            | (refine mix_skip 13 rfl (by kernel_rfl) (by kernel_rfl) (by kernel_rfl) (by rfl) (by assumption) (fun _ _ _ h => h) ?_)
            | (refine mix_pure 13 (v := ?_) rfl (by kernel_rfl) (by kernel_rfl) (by kernel_rfl) (by rfl) (by assumption) (fun _ _ _ h => h) ?_ ?_; rotate_left; · (intro wS hSw; (try dsimp only at hSw); go_simp; try with_reducible rfl))
          simp only [Act.put, List.setIfInBounds_toArray, List.set_cons_zero, List.set_cons_succ]
          first
            | (refine mix_skip 15 rfl (by kernel_rfl) (by kernel_rfl) (by kernel_rfl) (by rfl) (by assumption) (fun _ _ _ h => h) ?_)
            | (refine mix_pure 15 (v := ?_) rfl (by kernel_rfl) (by kernel_rfl) (by kernel_rfl) (by rfl) (by assumption) (fun _ _ _ h => h) ?_ ?_; rotate_left; · (intro wS hSw; (try dsimp only at hSw); go_simp; try with_reducible rfl))
          simp only [Act.put, List.setIfInBounds_toArray, List.set_cons_zero, List.set_cons_succ]
          first
            | (refine mix_skip 16 rfl (by kernel_rfl) (by kernel_rfl) (by kernel_rfl) (by rfl) (by assumption) (fun _ _ _ h => h) ?_)
            | (refine mix_pure 16 (v := ?_) rfl (by kernel_rfl) (by kernel_rfl) (by kernel_rfl) (by rfl) (by assumption) (fun _ _ _ h => h) ?_ ?_; rotate_left; · (intro wS hSw; (try dsimp only at hSw); go_simp; try with_reducible rfl))
          simp only [Act.put, List.setIfInBounds_toArray, List.set_cons_zero, List.set_cons_succ]
          first
            | (refine mix_skip 17 rfl (by kernel_rfl) (by kernel_rfl) (by kernel_rfl) (by rfl) (by assumption) (fun _ _ _ h => h) ?_)
            | (refine mix_pure 17 (v := ?_) rfl (by kernel_rfl) (by kernel_rfl) (by kernel_rfl) (by rfl) (by assumption) (fun _ _ _ h => h) ?_ ?_; rotate_left; · (intro wS hSw; (try dsimp only at hSw); go_simp; try with_reducible rfl))
          simp only [Act.put, List.setIfInBounds_toArray, List.set_cons_zero, List.set_cons_succ]
          first
            | (refine mix_skip 18 rfl (by kernel_rfl) (by kernel_rfl) (by kernel_rfl) (by rfl) (by assumption) (fun _ _ _ h => h) ?_)
            | (refine mix_pure 18 (v := ?_) rfl (by kernel_rfl) (by kernel_rfl) (by kernel_rfl) (by rfl) (by assumption) (fun _ _ _ h => h) ?_ ?_; rotate_left; · (intro wS hSw; (try dsimp only at hSw); go_simp; try with_reducible rfl))
          simp only [Act.put, List.setIfInBounds_toArray, List.set_cons_zero, List.set_cons_succ]
          refine mix_one 14 rfl (by kernel_rfl) (fun K hK => ?_)
          go_simp
          refine (HAA1.out _ (HFW.out.trans hfr6 (fun _ _ h => h))).mono ?_
          rintro e w7 ⟨rfl, hf7⟩
          have hfr7 := hfr6.trans hf7 (fun _ _ h => h)
          refine hK.out _ _ ((HCL.out _ hfr7)) (fun hHeld3 => ?_)
          clear hK K
          try simp only [Act.put, List.setIfInBounds_toArray, List.set_cons_zero, List.set_cons_succ]
          refine mix_one 19 rfl (by kernel_rfl) (fun K hK => ?_)
          go_simp
          refine (HAB1.out _ (HFW.out.trans hfr7 (fun _ _ h => h))).mono ?_
          rintro e w8 ⟨rfl, hf8⟩
          have hfr8 := hfr7.trans hf8 (fun _ _ h => h)
          refine hK.out _ _ ((HCL.out _ hfr8)) (fun hHeld4 => ?_)
          clear hK K
          try simp only [Act.put, List.setIfInBounds_toArray, List.set_cons_zero, List.set_cons_succ]
          first
            | (refine mix_skip 20 rfl (by kernel_rfl) (by kernel_rfl) (by kernel_rfl) (by rfl) (by assumption) (fun _ _ _ h => h) ?_)
            | (refine mix_pure 20 (v := ?_) rfl (by kernel_rfl) (by kernel_rfl) (by kernel_rfl) (by rfl) (by assumption) (fun _ _ _ h => h) ?_ ?_; rotate_left; · (intro wS hSw; (try dsimp only at hSw); go_simp; try with_reducible rfl))
          simp only [Act.put, List.setIfInBounds_toArray, List.set_cons_zero, List.set_cons_succ]
          first
            | (refine mix_skip 21 rfl (by kernel_rfl) (by kernel_rfl) (by kernel_rfl) (by rfl) (by assumption) (fun _ _ _ h => h) ?_)
            | (refine mix_pure 21 (v := ?_) rfl (by kernel_rfl) (by kernel_rfl) (by kernel_rfl) (by rfl) (by assumption) (fun _ _ _ h => h) ?_ ?_; rotate_left; · (intro wS hSw; (try dsimp only at hSw); go_simp; try with_reducible rfl))
          simp only [Act.put, List.setIfInBounds_toArray, List.set_cons_zero, List.set_cons_succ]
          refine wpAnyH_done (by kernel_rfl) ?_ _
          go_wp2_with fail
          go_roundw
          case rel => exact ⟨j + 1, by go_num, by omega, Lib.hid hfr8⟩
          case measure => simp [intOf]; omega
        · have hj3 : decide ((j : Int) < 3) = false := decide_eq_false (by omega)
          have HFQ := Lib.hid (HFW.out.trans hf.out (fun _ _ h => h))
          go_wp2_with fail
          refine (audit_sure _).mono ?_
          rintro e w9 ⟨rfl, hf9⟩
          have HF9 := Lib.hid (HFQ.out.trans hf9 (fun _ _ h => h))
          clear hf9
          go_wp2_with fail
          go_ret
          exact ⟨rfl, HF9.out⟩

theorem auditTells_any (A : Option Addr) (n c : Nat) (lo : List (Int × Int)) (H : Option Addr) (nh ch : Nat) (lh : List Hd) (tc ts tl tt : Int) (w : World) (h : Rd w 2 A n (lo.flatMap outc)) (h8 : ∀ y ∈ lo, 0 ≤ y.2 ∧ y.2 ≤ 255) (hnc : n ≤ c) (hh : Rd w 3 H nh (lh.flatMap hdc)) :
    Calls Try.prog 7 #[.slice A n c, .slice H nh ch, .agg #[.int .i64 tc, .int .i64 ts, .int .i64 tl, .int .i64 tt]] w fun e w' => e = .returned (.bool true) ∧ Fr nob w w' := by
  by_cases hb : 400 < n ∨ 400 < nh
  · exact auditTells_great A n c H nh ch tc ts tl tt w hb
  · exact auditTells_few A n c lo H nh ch lh tc ts tl tt w h h8 (by omega) hnc hh (by omega)
end Go.Proofs.Ytmpjdploacfmeaa
