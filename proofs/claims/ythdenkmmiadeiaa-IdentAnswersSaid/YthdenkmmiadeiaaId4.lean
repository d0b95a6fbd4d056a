/- Contract of objects (package ident): the objects that bytes say. -/
import Derived.Test.YthdenkmmiadeiaaId3
namespace Go.Proofs.Ythdenkmmiadeiaa
set_option linter.unusedSimpArgs false
set_option linter.unusedVariables false
open Go.RowKit

def bytes8 (d : List Int) : Prop := ∀ x ∈ d, 0 ≤ x ∧ x ≤ 255
theorem bytes8.at_ {d : List Int} (h : bytes8 d) (i : Nat) : 0 ≤ d.getD i 0 ∧ d.getD i 0 ≤ 255 := by
  rcases Nat.lt_or_ge i d.length with hi | hi
  · simpa [List.getD_eq_getElem?_getD, List.getElem?_eq_getElem hi] using h _ (List.getElem_mem hi)
  · simp [List.getD_eq_getElem?_getD, List.getElem?_eq_none hi]
/-- The objects that bytes say. -/
def objS : List Int → Option (List (Int × List Int))
  | [] => some []
  | [_] => none
  | id :: n :: r => if n.toNat ≤ r.length then (objS (r.drop n.toNat)).map ((id, r.take n.toNat) :: ·) else none
termination_by d => d.length
decreasing_by simp; omega
theorem objS_nil : objS [] = some [] := by rw [objS]
theorem objS_one (x : Int) : objS [x] = none := by rw [objS]
theorem objS_cons (id n : Int) (r : List Int) : objS (id :: n :: r) = if n.toNat ≤ r.length then (objS (r.drop n.toNat)).map ((id, r.take n.toNat) :: ·) else none := by rw [objS]
/-- Objects whose data is one's own. -/
def OwnObs (w : World) (base : Nat) (v : Value) (n : Nat) (L : List Ob) : Prop :=
  w.ownsRow base 49 2 v n (L.flatMap Ob.cs) ∧ ∀ y ∈ L, w.ownsRow base 5 1 (.slice y.A y.n y.c) y.n (nums .u8 y.d) ∧ y.n ≤ 255
def objectsPost (d : List Int) (w : World) (e : Ending) (w' : World) : Prop :=
  ∃ A n c L, e = .returned (.tuple #[.slice A n c, .bool (objS d).isSome]) ∧ OwnObs w' w.heap.size (.slice A n c) n L ∧ L.map Ob.s = (objS d).getD [] ∧ n ≤ 300 ∧ Fr nob w w'
theorem OwnObs.obs {w : World} {base : Nat} {A : Option Addr} {n c : Nat} {L : List Ob} (h : OwnObs w base (.slice A n c) n L) : Obs w A n L :=
  obs_of_own h.1 (fun y hy => ⟨(h.2 y hy).1, by have := (h.2 y hy).2; omega⟩)
theorem OwnObs.caps {w : World} {base : Nat} {A : Option Addr} {n c : Nat} {L : List Ob} (h : OwnObs w base (.slice A n c) n L) : n ≤ c ∧ c ≤ 9223372036854775807 := by
  obtain ⟨A', c', e', hle, _⟩ := own_form h.1
  injection e' with e1 e2 e3
  exact ⟨by omega, own_cap h.1⟩
theorem two_more {d : List Int} (h : 2 ≤ d.length) : d = d.getD 0 0 :: d.getD 1 0 :: d.drop 2 := by
  match d, h with
  | a :: b :: r, _ => rfl

set_option maxHeartbeats 4000000 in
set_option maxRecDepth 100000 in
theorem ident_objects (A : Option Addr) (m c : Nat) (d : List Int) (w : World) (hr : Rd w 1 A m (nums .u8 d)) (h8 : bytes8 d) (hm : m ≤ 600) (hmc : m ≤ c) (hc : c ≤ 9223372036854775807) :
    Calls Try.prog 54 #[.slice A m c] w (objectsPost d w) := by
  go_enter Try.func54, Try.ntmps54
  go_wp2_with fail
  go_loopw [0, 2] (fun bv v wr => ∃ (A' : Option Addr) (m' c' : Nat) (rest : List Int) (k : Nat) (L : List Ob), bv = .slice A' m' c' ∧ m' ≤ c' ∧ c' ≤ 9223372036854775807 ∧ Rd w 1 A' m' (nums .u8 rest) ∧ Hid (bytes8 rest) ∧ OwnObs wr w.heap.size v k L ∧ Hid (objS d = (objS rest).map (L.map Ob.s ++ ·)) ∧ 2 * k + m' ≤ 600 ∧ Fr nob w wr) (fun bv _ _ => match bv with | .slice _ n _ => n | _ => 0)
  case atStart => exact ⟨A, m, c, d, 0, [], rfl, hmc, hc, hr, Lib.hid h8, ⟨World.ownsRow_nil _ _ _ _, by simp⟩, Lib.hid (by simp), by omega, Fr.refl _ _⟩
  case round =>
    clear hr h8 hm hmc hc
    obtain ⟨A', m', c', rest, k, L, rfl, hmc, hc, hr, h8, hown, heq, hk, hf⟩ := hrel
    have hl := hr.numlen
    have HL := Lib.hid hl
    clear hl
    by_cases h0 : 0 < m'
    rotate_left
    · obtain rfl : m' = 0 := by omega
      obtain ⟨Av, cv, rfl, _⟩ := own_form hown.1
      go_wp2_with fail
      go_ret2
      have hre : rest = [] := List.eq_nil_of_length_eq_zero HL.out
      have hd : objS d = some (L.map Ob.s) := by rw [heq.out, hre, objS_nil]; simp
      refine ⟨Av, k, cv, L, by rw [hd]; rfl, hown, by rw [hd]; rfl, by omega, hf⟩
    by_cases h2 : m' < 2
    · have h1 : m' = 1 := by omega
      have hre : ∃ x, rest = [x] := by
        have := HL.out
        match rest, this with
        | [x], _ => exact ⟨x, rfl⟩
        | [], h => simp at h; omega
        | _ :: _ :: _, h => simp at h; omega
      obtain ⟨x, hre⟩ := hre
      have hd : objS d = none := by rw [heq.out, hre, objS_one]; rfl
      have HD := Lib.hid hd
      clear hre hd h1
      go_wp2_with fail
      go_ret2
      exact ⟨none, 0, 0, [], by rw [HD.out]; rfl, ⟨World.ownsRow_nil _ _ _ _, by simp⟩, by rw [HD.out]; rfl, by omega, hf⟩
    · obtain ⟨ab, ao, rfl, hab, hc0⟩ := hr.num (i := 0) (by omega)
      obtain ⟨ab', ao', e', _, hc1⟩ := hr.num (i := 1) (by omega)
      injection e' with e'
      injection e' with e1 e2
      subst e1; subst e2
      have hb0 := h8.out.at_ 0
      have hb1 := h8.out.at_ 1
      have hspl := two_more (d := rest) (by rw [HL.out]; omega)
      obtain ⟨x0, hx0⟩ : ∃ x0, x0 = rest.getD 0 0 := ⟨_, rfl⟩
      obtain ⟨x1, hx1⟩ : ∃ x1, x1 = rest.getD 1 0 := ⟨_, rfl⟩
      rw [← hx0] at hc0 hb0 hspl
      rw [← hx1] at hc1 hb1 hspl
      rw [Nat.add_zero] at hc0
      have HSP := Lib.hid hspl
      clear hx0 hx1 hspl
      have hcl : ∀ V, Fr nob w V → V.cell? ⟨ab, ao, none⟩ = some (.int .u8 x0) ∧ V.cell? ⟨ab, ao + 1, none⟩ = some (.int .u8 x1) := fun V h =>
        ⟨(h.cell (p := ⟨ab, ao, none⟩) hab (fun h => h)).trans hc0, (h.cell (p := ⟨ab, ao + 1, none⟩) hab (fun h => h)).trans hc1⟩
      have HCL := Lib.hid hcl
      obtain ⟨q0, q1⟩ := HCL.out wr hf
      clear hcl hc0 hc1
      obtain ⟨n1, hn1⟩ : ∃ n1 : Nat, x1 = (n1 : Int) := ⟨x1.toNat, by omega⟩
      subst hn1
      by_cases hfit : (m' : Int) - 2 < (n1 : Int)
      · have hd : objS d = none := by
          rw [heq.out, HSP.out, objS_cons, if_neg]
          · rfl
          · rw [List.length_drop, HL.out]; omega
        have HD := Lib.hid hd
        clear hd
        have hs1 : IntKind.i64.wrap ((m' : Int) - 2) = (m' : Int) - 2 := IntWalk.i64_in _ (by omega)
        go_wp2_with fail
        go_ret2
        exact ⟨none, 0, 0, [], by rw [HD.out]; rfl, ⟨World.ownsRow_nil _ _ _ _, by simp⟩, by rw [HD.out]; rfl, by omega, hf⟩
      · have hs1 : IntKind.i64.wrap ((m' : Int) - 2) = (m' : Int) - 2 := IntWalk.i64_in _ (by omega)
        have hnm : n1 + 2 ≤ m' := by omega
        obtain ⟨A3, hrun3, hcut3, hblk3⟩ := mid_run (size := 1) Try.underlying25 (by kernel_rfl) (some ⟨ab, ao, none⟩) m' c' 2 (2 + n1) 2 (2 + (n1 : Int)) rfl (by omega) (by omega) (by omega) hmc
        obtain ⟨A4, hrun4, hcut4, hblk4⟩ := cut_run (size := 1) Try.underlying25 (by kernel_rfl) (some ⟨ab, ao, none⟩) m' c' (2 + n1) (2 + (n1 : Int)) (by omega) (by omega) hmc
        have hr3 : Rd w 1 A3 n1 (nums .u8 ((rest.drop 2).take n1)) := by
          have h := hcut3 w _ hr
          rw [Nat.add_sub_cancel_left] at h
          rwa [show ((nums .u8 rest).take ((2 + n1) * 1)).drop (2 * 1) = nums .u8 ((rest.drop 2).take n1) by
            simp only [nums, Nat.mul_one]
            rw [List.drop_take, Nat.add_sub_cancel_left, ← List.map_drop, ← List.map_take]] at h
        have hr4 : Rd w 1 A4 (m' - (2 + n1)) (nums .u8 ((rest.drop 2).drop n1)) := by
          have h := hcut4 w _ hr
          rwa [show (nums .u8 rest).drop ((2 + n1) * 1) = nums .u8 ((rest.drop 2).drop n1) by
            simp only [nums, Nat.mul_one]
            rw [List.drop_drop, ← List.map_drop]] at h
        rw [Nat.add_sub_cancel_left] at hrun3
        clear hcut3 hcut4 hblk3 hblk4
        go_wp2_with fail
        have hownE : ((wr.alloc (.cells #[] 5)).drew).ownsRow wr.heap.size 5 1 (.slice (some ⟨wr.heap.size, 0, none⟩) 0 0) 0 [] := own_new wr 5 #[] 0 rfl (by omega)
        have hf1 : Fr nob w ((wr.alloc (.cells #[] 5)).drew) := (hf.alloc _).drew
        have hzz := hf.size
        have hwx : IntKind.i64.wrap x0 = x0 := IntWalk.i64_in _ (by omega)
        refine wp_region_held_drew (S := fun w' => w'.cell? ⟨ab, ao, none⟩ = some (.int .u8 x0)) (by kernel_rfl) (q0) (fun hHeld => ?_)
        first
          | (refine mix_skip 0 rfl (by kernel_rfl) (by kernel_rfl) (by kernel_rfl) (by rfl) (by assumption) (fun _ _ _ h => h) ?_)
          | (refine mix_pure 0 (v := ?_) rfl (by kernel_rfl) (by kernel_rfl) (by kernel_rfl) (by rfl) (by assumption) (fun _ _ _ h => h) ?_ ?_; rotate_left; · (intro wS hSw; (try dsimp only at hSw); go_simp; try with_reducible rfl))
        simp only [Act.put, List.setIfInBounds_toArray, List.set_cons_zero, List.set_cons_succ]
        first
          | (refine mix_skip 1 rfl (by kernel_rfl) (by kernel_rfl) (by kernel_rfl) (by rfl) (by assumption) (fun _ _ _ h => h) ?_)
          | (refine mix_pure 1 (v := ?_) rfl (by kernel_rfl) (by kernel_rfl) (by kernel_rfl) (by rfl) (by assumption) (fun _ _ _ h => h) ?_ ?_; rotate_left; · (intro wS hSw; (try dsimp only at hSw); go_simp; try with_reducible rfl))
        simp only [Act.put, List.setIfInBounds_toArray, List.set_cons_zero, List.set_cons_succ]
        first
          | (refine mix_skip 2 rfl (by kernel_rfl) (by kernel_rfl) (by kernel_rfl) (by rfl) (by assumption) (fun _ _ _ h => h) ?_)
          | (refine mix_pure 2 (v := ?_) rfl (by kernel_rfl) (by kernel_rfl) (by kernel_rfl) (by rfl) (by assumption) (fun _ _ _ h => h) ?_ ?_; rotate_left; · (intro wS hSw; (try dsimp only at hSw); go_simp; try with_reducible rfl))
        simp only [Act.put, List.setIfInBounds_toArray, List.set_cons_zero, List.set_cons_succ]
        first
          | (refine mix_skip 3 rfl (by kernel_rfl) (by kernel_rfl) (by kernel_rfl) (by rfl) (by assumption) (fun _ _ _ h => h) ?_)
          | (refine mix_pure 3 (v := ?_) rfl (by kernel_rfl) (by kernel_rfl) (by kernel_rfl) (by rfl) (by assumption) (fun _ _ _ h => h) ?_ ?_; rotate_left; · (intro wS hSw; (try dsimp only at hSw); go_simp; try with_reducible rfl))
        simp only [Act.put, List.setIfInBounds_toArray, List.set_cons_zero, List.set_cons_succ]
        first
          | (refine mix_skip 4 rfl (by kernel_rfl) (by kernel_rfl) (by kernel_rfl) (by rfl) (by assumption) (fun _ _ _ h => h) ?_)
          | (refine mix_pure 4 (v := ?_) rfl (by kernel_rfl) (by kernel_rfl) (by kernel_rfl) (by rfl) (by assumption) (fun _ _ _ h => h) ?_ ?_; rotate_left; · (intro wS hSw; (try dsimp only at hSw); go_simp; try with_reducible rfl))
        simp only [Act.put, List.setIfInBounds_toArray, List.set_cons_zero, List.set_cons_succ]
        first
          | (refine mix_skip 6 rfl (by kernel_rfl) (by kernel_rfl) (by kernel_rfl) (by rfl) (by assumption) (fun _ _ _ h => h) ?_)
          | (refine mix_pure 6 (v := ?_) rfl (by kernel_rfl) (by kernel_rfl) (by kernel_rfl) (by rfl) (by assumption) (fun _ _ _ h => h) ?_ ?_; rotate_left; · (intro wS hSw; (try dsimp only at hSw); go_simp; try with_reducible rfl))
        simp only [Act.put, List.setIfInBounds_toArray, List.set_cons_zero, List.set_cons_succ]
        first
          | (refine mix_skip 7 rfl (by kernel_rfl) (by kernel_rfl) (by kernel_rfl) (by rfl) (by assumption) (fun _ _ _ h => h) ?_)
          | (refine mix_pure 7 (v := ?_) rfl (by kernel_rfl) (by kernel_rfl) (by kernel_rfl) (by rfl) (by assumption) (fun _ _ _ h => h) ?_ ?_; rotate_left; · (intro wS hSw; (try dsimp only at hSw); go_simp; try with_reducible rfl))
        simp only [Act.put, List.setIfInBounds_toArray, List.set_cons_zero, List.set_cons_succ]
        first
          | (refine mix_skip 8 rfl (by kernel_rfl) (by kernel_rfl) (by kernel_rfl) (by rfl) (by assumption) (fun _ _ _ h => h) ?_)
          | (refine mix_pure 8 (v := ?_) rfl (by kernel_rfl) (by kernel_rfl) (by kernel_rfl) (by rfl) (by assumption) (fun _ _ _ h => h) ?_ ?_; rotate_left; · (intro wS hSw; (try dsimp only at hSw); go_simp; try with_reducible rfl))
        simp only [Act.put, List.setIfInBounds_toArray, List.set_cons_zero, List.set_cons_succ]
        refine mix_one 5 rfl (by kernel_rfl) (fun K hK => ?_)
        go_simp
        refine hK.out _ _ ((HCL.out _ hf1).1) (fun hHeld0 => ?_)
        clear hK K
        try simp only [Act.put, List.setIfInBounds_toArray, List.set_cons_zero, List.set_cons_succ]
        refine mix_one 9 rfl (by kernel_rfl) (fun K hK => ?_)
        rw [if_pos (by rfl)]
        refine app_row_op (P := Try.prog) (W := (wr.alloc (.cells #[] 5)).drew) wr.heap.size _ _ _ 5 (Value.int .u8 0) 1 1 rfl Try.underlying25 (by kernel_rfl) rfl (by omega) (.slice (some ⟨wr.heap.size, 0, none⟩) 0 0) 0 [] A3 n1 (c' - 2) (nums .u8 ((rest.drop 2).take n1)) rfl rfl (nums_one _ _) hownE (hr3.nob hf1) (by simp) (by omega) (by omega) ?_
        intro v5 w5 hown5 hg5 _
        have hown5' : w5.ownsRow wr.heap.size 5 1 v5 n1 (nums .u8 ((rest.drop 2).take n1)) := by simpa using hown5
        have hfg5 : Fr (fun b => wr.heap.size ≤ b) wr w5 := (((Fr.refl _ wr).alloc _).drew).grown hg5 (fun k hk => .inl (own_at hownE k hk))
        have hf5 : Fr nob w w5 := hf.newer hfg5 (fun i hi => by omega)
        obtain ⟨A5, c5, rfl, hle5, _⟩ := own_form hown5'
        refine hK.out _ _ ((HCL.out _ hf5).1) (fun hHeld1 => ?_)
        clear hK K
        try simp only [Act.put, List.setIfInBounds_toArray, List.set_cons_zero, List.set_cons_succ]
        first
          | (refine mix_skip 10 rfl (by kernel_rfl) (by kernel_rfl) (by kernel_rfl) (by rfl) (by assumption) (fun _ _ _ h => h) ?_)
          | (refine mix_pure 10 (v := ?_) rfl (by kernel_rfl) (by kernel_rfl) (by kernel_rfl) (by rfl) (by assumption) (fun _ _ _ h => h) ?_ ?_; rotate_left; · (intro wS hSw; (try dsimp only at hSw); go_simp; try with_reducible rfl))
        simp only [Act.put, List.setIfInBounds_toArray, List.set_cons_zero, List.set_cons_succ]
        refine mix_one 11 rfl (by kernel_rfl) (fun K hK => ?_)
        go_simp
        have hf6 : Fr nob w (w5.alloc (.cells #[.int .i64 x0, .slice A5 n1 c5] 49)) := hf5.alloc _
        refine hK.out _ _ ((HCL.out _ hf6).1) (fun hHeld2 => ?_)
        clear hK K
        try simp only [Act.put, List.setIfInBounds_toArray, List.set_cons_zero, List.set_cons_succ]
        refine mix_one 12 rfl (by kernel_rfl) (fun K hK => ?_)
        rw [if_pos (by rfl)]
        have hob5 := own_fr hown.1 hfg5 (fun k hk => by have := (hown.1.lt k hk).2; omega)
        have hdat5 : ∀ y ∈ L, w5.ownsRow w.heap.size 5 1 (.slice y.A y.n y.c) y.n (nums .u8 y.d) := fun y hy => own_fr (hown.2 y hy).1 hfg5 (fun k hk => by have := ((hown.2 y hy).1.lt k hk).2; omega)
        have hob6 := hob5.alloc (.cells #[.int .i64 x0, .slice A5 n1 c5] 49)
        have hr6 : Rd (w5.alloc (.cells #[.int .i64 x0, .slice A5 n1 c5] 49)) 2 (some ⟨w5.heap.size, 0, none⟩) 1 [.int .i64 x0, .slice A5 n1 c5] := Rd.of_blk (Blk.new w5 _ _) rfl (fun j u hu => by rw [Nat.zero_add]; simpa using hu)
        refine app_row_op (P := Try.prog) (W := w5.alloc (.cells #[.int .i64 x0, .slice A5 n1 c5] 49)) w.heap.size _ _ _ 49 (.agg #[.int .i64 0, .slice none 0 0]) 2 32 rfl Try.underlying22 info_object rfl (by omega) u2 k (L.flatMap Ob.cs) (some ⟨w5.heap.size, 0, none⟩) 1 1 [.int .i64 x0, .slice A5 n1 c5] rfl rfl (by simp [Value.oneCell']) hob6 hr6 (by have := hf6.size; omega) (by omega) (by omega) ?_
        intro v7 w7 hown7 hg7 _
        have hf7 : Fr nob w w7 := hf6.grown hg7 (fun k hk => .inr (own_at hob6 k hk))
        refine hK.out _ _ ((HCL.out _ hf7).1) (fun hHeld3 => ?_)
        clear hK K
        try simp only [Act.put, List.setIfInBounds_toArray, List.set_cons_zero, List.set_cons_succ]
        first
          | (refine mix_skip 13 rfl (by kernel_rfl) (by kernel_rfl) (by kernel_rfl) (by rfl) (by assumption) (fun _ _ _ h => h) ?_)
          | (refine mix_pure 13 (v := ?_) rfl (by kernel_rfl) (by kernel_rfl) (by kernel_rfl) (by rfl) (by assumption) (fun _ _ _ h => h) ?_ ?_; rotate_left; · (intro wS hSw; (try dsimp only at hSw); go_simp; try with_reducible rfl))
        simp only [Act.put, List.setIfInBounds_toArray, List.set_cons_zero, List.set_cons_succ]
        refine wpAnyH_done (by kernel_rfl) ?_ _
        clear hHeld hHeld0 hHeld1 hHeld2 hHeld3
        have hdat7 : ∀ y ∈ L, w7.ownsRow w.heap.size 5 1 (.slice y.A y.n y.c) y.n (nums .u8 y.d) := fun y hy => own_other ((hdat5 y hy).alloc _) hg7 (own_block hob6) (by decide)
        have hnew7 : w7.ownsRow w.heap.size 5 1 (.slice A5 n1 c5) n1 (nums .u8 ((rest.drop 2).take n1)) := own_base (own_other (hown5'.alloc _) hg7 (own_block hob6) (by decide)) (by omega)
        go_wp2_with fail
        go_roundw
        case rel =>
          refine ⟨A4, m' - (2 + n1), c' - (2 + n1), (rest.drop 2).drop n1, k + 1, L ++ [⟨x0, A5, n1, c5, (rest.drop 2).take n1⟩], rfl, by omega, by omega, hr4, ?_, ⟨?_, ?_⟩, ?_, by omega, hf7⟩
          · exact Lib.hid (fun z hz => h8.out z (List.mem_of_mem_drop (List.mem_of_mem_drop hz)))
          · simpa [List.flatMap_append, Ob.cs] using hown7
          · intro y hy
            rcases List.mem_append.1 hy with hy | hy
            · exact ⟨hdat7 y hy, (hown.2 y hy).2⟩
            · simp at hy
              subst hy
              exact ⟨hnew7, by dsimp only; omega⟩
          · refine Lib.hid ?_
            rw [heq.out, HSP.out, objS_cons, if_pos (by rw [List.length_drop, HL.out]; omega)]
            simp only [Int.toNat_natCast, List.drop_succ_cons, List.drop_zero]
            simp [Option.map_map, Function.comp_def, Ob.s]
        case measure => simp; omega
end Go.Proofs.Ythdenkmmiadeiaa
