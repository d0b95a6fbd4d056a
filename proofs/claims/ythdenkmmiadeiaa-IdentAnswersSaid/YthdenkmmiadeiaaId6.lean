/- Contract of part (package ident): as many objects as have room. -/
import Derived.Test.YthdenkmmiadeiaaId5
namespace Go.Proofs.Ythdenkmmiadeiaa
set_option linter.unusedSimpArgs false
set_option linter.unusedVariables false
open Go.RowKit

/-- How many objects have room. -/
def fitN (room : Nat) : List (Int × List Int) → Nat
  | [] => 0
  | x :: r => if room + (x.2.length + 2) ≤ 252 then 1 + fitN (room + (x.2.length + 2)) r else 0
def partS (p : Ps) (S : List (Int × List Int)) : Ps :=
  if fitN 6 S < S.length then { p with more := true, next := (S.getD (fitN 6 S) (0, [])).1, S := S.take (fitN 6 S) } else { p with S := S }
theorem fitN_le (S : List (Int × List Int)) : ∀ room, fitN room S ≤ S.length := by
  induction S with
  | nil => intro room; simp [fitN]
  | cons x r ih =>
    intro room
    rw [fitN]
    split
    · have := ih (room + (x.2.length + 2)); simp; omega
    · simp
/-- k objects have room. -/
def Fits (S : List (Int × List Int)) (k : Nat) : Prop := fitN 6 S = k + fitN (6 + (objsB (S.take k)).length) (S.drop k) ∧ 6 + (objsB (S.take k)).length ≤ 252
theorem fits_zero (S : List (Int × List Int)) : Fits S 0 := by simp [Fits, objsB]
theorem fits_yes {S : List (Int × List Int)} {k : Nat} {x : Int × List Int} (h : Fits S k) (hx : S[k]? = some x) (hr : 6 + (objsB (S.take k)).length + (x.2.length + 2) ≤ 252) : Fits S (k + 1) := by
  have hk := (List.getElem?_eq_some_iff.1 hx)
  obtain ⟨hk, hxe⟩ := hk
  obtain ⟨h1, h2⟩ := h
  have hlen : 6 + (objsB (S.take (k + 1))).length = 6 + (objsB (S.take k)).length + (x.2.length + 2) := by rw [objsB_snoc hx, List.length_append, obB_len]; omega
  refine ⟨?_, by omega⟩
  rw [h1, hlen, List.drop_eq_getElem_cons hk, fitN, hxe, if_pos hr]
  omega
theorem fits_no {S : List (Int × List Int)} {k : Nat} {x : Int × List Int} (h : Fits S k) (hx : S[k]? = some x) (hr : ¬ 6 + (objsB (S.take k)).length + (x.2.length + 2) ≤ 252) : fitN 6 S = k := by
  have hk := (List.getElem?_eq_some_iff.1 hx)
  obtain ⟨hk, hxe⟩ := hk
  obtain ⟨h1, h2⟩ := h
  rw [h1, List.drop_eq_getElem_cons hk, fitN, hxe, if_neg hr]
  omega
theorem fits_all {S : List (Int × List Int)} (h : Fits S S.length) : fitN 6 S = S.length := by
  rw [h.1]; simp [fitN]
theorem partS_no {p : Ps} {S : List (Int × List Int)} {k : Nat} {x : Int × List Int} (h : fitN 6 S = k) (hx : S[k]? = some x) : partS p S = { p with more := true, next := x.1, S := S.take k } := by
  have hk := (List.getElem?_eq_some_iff.1 hx).1
  rw [partS, if_pos (by omega), h]
  simp [List.getD_eq_getElem?_getD, hx]
theorem partS_all {p : Ps} {S : List (Int × List Int)} (h : fitN 6 S = S.length) : partS p S = { p with S := S } := by
  rw [partS, if_neg (by omega)]
def pval (p : Ps) (A : Option Addr) (n c : Nat) : Value := .agg #[.int .i64 p.code, .int .i64 p.level, .bool p.more, .int .i64 p.next, .slice A n c]
def partRes (q : Ps) (A : Option Addr) (c : Nat) (L : List Ob) (w : World) (e : Ending) (w' : World) : Prop :=
  e = .returned (pval q A q.S.length c) ∧ q.S = (L.take q.S.length).map Ob.s ∧ q.S.length ≤ L.length ∧ Fr nob w w'

set_option maxHeartbeats 4000000 in
set_option maxRecDepth 100000 in
theorem ident_part (p : Ps) (A0 : Option Addr) (n0 c0 : Nat) (A : Option Addr) (n c : Nat) (L : List Ob) (w : World) (hO : Obs w A n L) (hn : n ≤ c) (hc : c ≤ 9223372036854775807) (hL : ∀ x ∈ L, x.n ≤ 240 ∧ 0 ≤ x.id ∧ x.id ≤ 255) :
    Calls Try.prog 56 #[pval p A0 n0 c0, .slice A n c] w (partRes (partS p (L.map Ob.s)) A c L w) := by
  obtain ⟨code, level, more, next, S0⟩ := p
  have hl := hO.len
  have HLN := Lib.hid hl
  clear hl
  rw [pval]
  dsimp only
  have hmk : ∀ w, (Instr.makeSlice 25 (.int .i64 6) (.int .i64 6)).run Try.prog w = .ok (.slice (some ⟨w.heap.size, 0, none⟩) 6 6) (w.alloc (.cells #[.int .u8 0, .int .u8 0, .int .u8 0, .int .u8 0, .int .u8 0, .int .u8 0] 5)) := fun _ => by kernel_rfl
  have hbp : Blk ((((w.alloc (.cells #[.int .i64 code, .int .i64 level, .bool more, .int .i64 next, .slice A0 n0 c0] 24)).alloc (.cells #[.int .i64 0, .int .i64 0, .bool false, .int .i64 0, .slice none 0 0] 24)).alloc (.cells #[.int .u8 0, .int .u8 0, .int .u8 0, .int .u8 0, .int .u8 0, .int .u8 0] 5)).alloc (.cells #[.slice (some ⟨w.heap.size + 2, 0, none⟩) 6 6] 104)) w.heap.size 24 #[.int .i64 code, .int .i64 level, .bool more, .int .i64 next, .slice A0 n0 c0] := (((Blk.new w 24 #[.int .i64 code, .int .i64 level, .bool more, .int .i64 next, .slice A0 n0 c0]).alloc _).alloc _).alloc _
  have hbz : Blk ((((w.alloc (.cells #[.int .i64 code, .int .i64 level, .bool more, .int .i64 next, .slice A0 n0 c0] 24)).alloc (.cells #[.int .i64 0, .int .i64 0, .bool false, .int .i64 0, .slice none 0 0] 24)).alloc (.cells #[.int .u8 0, .int .u8 0, .int .u8 0, .int .u8 0, .int .u8 0, .int .u8 0] 5)).alloc (.cells #[.slice (some ⟨w.heap.size + 2, 0, none⟩) 6 6] 104)) (w.heap.size + 1) 24 #[.int .i64 0, .int .i64 0, .bool false, .int .i64 0, .slice none 0 0] := by
    have h := ((Blk.new (w.alloc (.cells #[.int .i64 code, .int .i64 level, .bool more, .int .i64 next, .slice A0 n0 c0] 24)) 24 #[.int .i64 0, .int .i64 0, .bool false, .int .i64 0, .slice none 0 0]).alloc (.cells #[.int .u8 0, .int .u8 0, .int .u8 0, .int .u8 0, .int .u8 0, .int .u8 0] 5)).alloc (.cells #[.slice (some ⟨w.heap.size + 2, 0, none⟩) 6 6] 104)
    rwa [World.size_alloc] at h
  have hsd : Sd ((((w.alloc (.cells #[.int .i64 code, .int .i64 level, .bool more, .int .i64 next, .slice A0 n0 c0] 24)).alloc (.cells #[.int .i64 0, .int .i64 0, .bool false, .int .i64 0, .slice none 0 0] 24)).alloc (.cells #[.int .u8 0, .int .u8 0, .int .u8 0, .int .u8 0, .int .u8 0, .int .u8 0] 5)).alloc (.cells #[.slice (some ⟨w.heap.size + 2, 0, none⟩) 6 6] 104)) (w.heap.size + 3) (w.heap.size + 2) 6 [0, 0, 0, 0, 0, 0] := by
    have hb := Blk.new (((w.alloc (.cells #[.int .i64 code, .int .i64 level, .bool more, .int .i64 next, .slice A0 n0 c0] 24)).alloc (.cells #[.int .i64 0, .int .i64 0, .bool false, .int .i64 0, .slice none 0 0] 24)).alloc (.cells #[.int .u8 0, .int .u8 0, .int .u8 0, .int .u8 0, .int .u8 0, .int .u8 0] 5)) 104 #[.slice (some ⟨w.heap.size + 2, 0, none⟩) 6 6]
    have ho := (own_new ((w.alloc (.cells #[.int .i64 code, .int .i64 level, .bool more, .int .i64 next, .slice A0 n0 c0] 24)).alloc (.cells #[.int .i64 0, .int .i64 0, .bool false, .int .i64 0, .slice none 0 0] 24)) 5 #[.int .u8 0, .int .u8 0, .int .u8 0, .int .u8 0, .int .u8 0, .int .u8 0] 6 rfl (by omega)).alloc (.cells #[.slice (some ⟨w.heap.size + 2, 0, none⟩) 6 6] 104)
    simp only [World.size_alloc] at hb ho
    exact ⟨_, hb, own_base ho (by omega)⟩
  have hf : Fr nob w ((((w.alloc (.cells #[.int .i64 code, .int .i64 level, .bool more, .int .i64 next, .slice A0 n0 c0] 24)).alloc (.cells #[.int .i64 0, .int .i64 0, .bool false, .int .i64 0, .slice none 0 0] 24)).alloc (.cells #[.int .u8 0, .int .u8 0, .int .u8 0, .int .u8 0, .int .u8 0, .int .u8 0] 5)).alloc (.cells #[.slice (some ⟨w.heap.size + 2, 0, none⟩) 6 6] 104)) := ((((Fr.refl nob w).alloc _).alloc _).alloc _).alloc _
  go_enter Try.func56, Try.ntmps56
  go_wp2_with fail
  go_loopw [1, 13] (fun fv i wr => ∃ (k : Nat) (bs : List Int), fv = .slice A n c ∧ k ≤ n ∧ i = .int .i64 k ∧ Fr nob w wr ∧ Blk wr w.heap.size 24 #[.int .i64 code, .int .i64 level, .bool more, .int .i64 next, .slice A0 n0 c0] ∧ Blk wr (w.heap.size + 1) 24 #[.int .i64 0, .int .i64 0, .bool false, .int .i64 0, .slice none 0 0] ∧ Sd wr (w.heap.size + 3) (w.heap.size + 2) (6 + (objsB ((L.map Ob.s).take k)).length) bs ∧ Hid (Fits (L.map Ob.s) k) ∧ w.heap.size + 4 ≤ wr.heap.size) (fun _ i _ => n - (intOf i).toNat)
  case atStart => exact ⟨0, _, rfl, by omega, rfl, hf, hbp, hbz, by simpa [objsB] using hsd, Lib.hid (fits_zero _), by simp⟩
  case round =>
    clear hf hbp hbz hsd hmk
    obtain ⟨k, bs, rfl, hk, rfl, hf, hbp, hbz, hsd, hfit, hz⟩ := hrel
    have hne03 : w.heap.size ≠ w.heap.size + 3 := by omega
    by_cases hlt : k < n
    · obtain ⟨b, o, x, rfl, hb, hx, hc0, hc1, hok⟩ := (hO.nob hf).at_ hlt
      have hpx : (L.map Ob.s)[k]? = some x.s := by simp [hx]
      have hxl : x.d.length = x.n := hok.len
      have hxb := hL x (List.mem_of_getElem? hx)
      have hokw := hO.ok x (List.mem_of_getElem? hx)
      have HPX := Lib.hid hpx
      have HXL := Lib.hid hxl
      clear hx hpx hxl hok
      obtain ⟨m, hm⟩ : ∃ m, m = 6 + (objsB ((L.map Ob.s).take k)).length := ⟨_, rfl⟩
      rw [← hm] at hsd
      have hm252 : m ≤ 252 := by rw [hm]; exact hfit.out.2
      have HMM := Lib.hid hm
      clear hm
      obtain ⟨xi, xA, xn, xc, xd⟩ := x
      dsimp only at hc0 hc1 hxb HXL
      have hi0 : (0 : Int) ≤ (k : Int) ∧ (k : Int) < (n : Int) := ⟨by omega, by omega⟩
      obtain ⟨sv, hsb, hso⟩ := hsd
      have hsd1 : Sd (wr.alloc (.cells #[.int .i64 xi, .slice xA xn xc] 49)) (w.heap.size + 3) (w.heap.size + 2) m bs := ⟨sv, hsb.alloc _, hso.alloc _⟩
      have hfo := hf.alloc (.cells #[.int .i64 xi, .slice xA xn xc] 49)
      have hbo := Blk.new wr 49 #[.int .i64 xi, .slice xA xn xc]
      clear hso
      go_wp2_with fail
      refine (said_object (w.heap.size + 3) (w.heap.size + 2) m bs ⟨xi, xA, xn, xc, xd⟩ _ hsd1 hm252 (by simp; omega) (by omega) (by dsimp only; omega) ⟨hxb.2.1, hxb.2.2⟩ (fun V h => hokw.nob (hfo.newer h (fun i hi => by omega))) (fun _ => by dsimp only; omega)).mono ?_
      rintro e w5 ⟨rfl, hf5, hsd5, hkt⟩
      dsimp only at hsd5 ⊢
      have hz5 := hf5.size
      simp at hz5
      have hbp5 := (hbp.alloc (.cells #[.int .i64 xi, .slice xA xn xc] 49)).fr hf5 (by omega)
      have hbz5 := (hbz.alloc (.cells #[.int .i64 xi, .slice xA xn xc] 49)).fr hf5 (by omega)
      have hf5w := hfo.newer hf5 (fun i hi => by omega)
      by_cases hfit5 : m + (xn + 2) ≤ 252
      · rw [if_pos hfit5] at hsd5
        rw [decide_eq_true hfit5]
        go_wp2_with fail
        go_roundw
        case rel =>
          refine ⟨k + 1, bs ++ obB (Ob.s ⟨xi, xA, xn, xc, xd⟩), rfl, by omega, by go_num, hf5w, hbp5, hbz5, ?_, ?_, by omega⟩
          · rw [objsB_snoc HPX.out, List.length_append, obB_len]
            have e2 : 6 + ((objsB ((L.map Ob.s).take k)).length + ((Ob.s ⟨xi, xA, xn, xc, xd⟩).2.length + 2)) = m + (xn + 2) := by rw [HMM.out, ← HXL.out]; simp [Ob.s]; omega
            rw [e2]
            exact hsd5
          · exact Lib.hid (fits_yes hfit.out HPX.out (by rw [← HMM.out]; show m + (xd.length + 2) ≤ 252; rw [HXL.out]; exact hfit5))
        case measure => simp [intOf]; omega
      · rw [decide_eq_false hfit5]
        have hno := fits_no hfit.out HPX.out (by rw [← HMM.out]; show ¬ m + (xd.length + 2) ≤ 252; rw [HXL.out]; exact hfit5)
        have hq := partS_no (p := ⟨code, level, more, next, S0⟩) hno HPX.out
        have HQ := Lib.hid hq
        have htk := fun w => take_run (size := 2) Try.underlying22 (by kernel_rfl) (some ⟨b, o, none⟩) n c k (k : Int) rfl (by omega) w
        have hbo5 := hkt _ _ _ hbo (by decide) (by decide)
        have hboS : ∀ V, Fr (fun i => i = w.heap.size) w5 V → V.cell? ⟨wr.heap.size, 0, none⟩ = some (.int .i64 xi) := fun V h => (hbo5.fr h (by omega)).cell 0
        have HBO := Lib.hid hboS
        have qp5 := hbp5.cell
        have qpf5 := hbp5.frozen
        have hz5p := hbp5.lt
        clear hq hno hboS hsd5
        go_wp2_with fail
        refine wp_region_held_drew (S := fun w' => w'.cell? ⟨wr.heap.size, 0, none⟩ = some (.int .i64 xi)) (by kernel_rfl) (HBO.out _ (Fr.refl _ _).drew) (fun hHeld => ?_)
        first
          | (refine mix_skip 0 rfl (by kernel_rfl) (by kernel_rfl) (by kernel_rfl) (by rfl) (by assumption) (fun _ _ _ h => h) ?_)
          | (refine mix_pure 0 (v := ?_) rfl (by kernel_rfl) (by kernel_rfl) (by kernel_rfl) (by rfl) (by assumption) (fun _ _ _ h => h) ?_ ?_; rotate_left; · (intro wS hSw; (try dsimp only at hSw); go_simp; try with_reducible rfl))
        simp only [Act.put, List.setIfInBounds_toArray, List.set_cons_zero, List.set_cons_succ]
        first
          | (refine mix_skip 1 rfl (by kernel_rfl) (by kernel_rfl) (by kernel_rfl) (by rfl) (by assumption) (fun _ _ _ h => h) ?_)
          | (refine mix_pure 1 (v := ?_) rfl (by kernel_rfl) (by kernel_rfl) (by kernel_rfl) (by rfl) (by assumption) (fun _ _ _ h => h) ?_ ?_; rotate_left; · (intro wS hSw; (try dsimp only at hSw); go_simp; try with_reducible rfl))
        simp only [Act.put, List.setIfInBounds_toArray, List.set_cons_zero, List.set_cons_succ]
        first
          | (refine mix_skip 2 rfl (by kernel_rfl) (by kernel_rfl) (by kernel_rfl) (by rfl) (by assumption) (fun _ _ _ h => h) ?_)
          | (refine mix_pure 2 (v := ?_) rfl (by kernel_rfl) (by kernel_rfl) (by kernel_rfl) (by rfl) (by assumption) (fun _ _ _ h => h) ?_ ?_; rotate_left; · (intro wS hSw; (try dsimp only at hSw); go_simp; try with_reducible rfl))
        simp only [Act.put, List.setIfInBounds_toArray, List.set_cons_zero, List.set_cons_succ]
        refine mix_one 3 rfl (by kernel_rfl) (fun K hK => ?_)
        go_simp
        have hs1 : Fr (fun i => i = w.heap.size) w5 ((w5.setCell ⟨w.heap.size, 2, none⟩ (.bool true)).drew) := ((Fr.refl (fun i => i = w.heap.size) w5).set_ (p := ⟨w.heap.size, 2, none⟩) (.inl rfl) (.bool true)).drew
        refine hK.out _ _ (HBO.out _ hs1) (fun hHeld0 => ?_)
        clear hK K
        try simp only [Act.put, List.setIfInBounds_toArray, List.set_cons_zero, List.set_cons_succ]
        first
          | (refine mix_skip 4 rfl (by kernel_rfl) (by kernel_rfl) (by kernel_rfl) (by rfl) (by assumption) (fun _ _ _ h => h) ?_)
          | (refine mix_pure 4 (v := ?_) rfl (by kernel_rfl) (by kernel_rfl) (by kernel_rfl) (by rfl) (by assumption) (fun _ _ _ h => h) ?_ ?_; rotate_left; · (intro wS hSw; (try dsimp only at hSw); go_simp; try with_reducible rfl))
        simp only [Act.put, List.setIfInBounds_toArray, List.set_cons_zero, List.set_cons_succ]
        refine mix_one 5 rfl (by kernel_rfl) (fun K hK => ?_)
        go_simp
        have hs2 : Fr (fun i => i = w.heap.size) w5 (((w5.setCell ⟨w.heap.size, 2, none⟩ (.bool true)).setCell ⟨w.heap.size, 3, none⟩ (.int .i64 xi)).drew) := (((Fr.refl (fun i => i = w.heap.size) w5).set_ (p := ⟨w.heap.size, 2, none⟩) (.inl rfl) (.bool true)).set_ (p := ⟨w.heap.size, 3, none⟩) (.inl rfl) (.int .i64 xi)).drew
        refine hK.out _ _ (HBO.out _ hs2) (fun hHeld1 => ?_)
        clear hK K
        try simp only [Act.put, List.setIfInBounds_toArray, List.set_cons_zero, List.set_cons_succ]
        refine wpAnyH_done (by kernel_rfl) ?_ _
        clear hHeld hHeld0 hHeld1
        have hbp6 : Blk (((w5.setCell ⟨w.heap.size, 2, none⟩ (.bool true)).setCell ⟨w.heap.size, 3, none⟩ (.int .i64 xi)).drew) w.heap.size 24 #[.int .i64 code, .int .i64 level, .bool true, .int .i64 xi, .slice A0 n0 c0] := ((hbp5.set_ 2 (.bool true)).set_ 3 (.int .i64 xi)).drew
        have hbz6 := hbz5.fr hs2 (by omega)
        have hf6 := hf5w.newer hs2 (fun i hi => by omega)
        obtain ⟨w6, hw6⟩ : ∃ w6, w6 = (((w5.setCell ⟨w.heap.size, 2, none⟩ (.bool true)).setCell ⟨w.heap.size, 3, none⟩ (.int .i64 xi)).drew) := ⟨_, rfl⟩
        rw [← hw6] at hbp6 hbz6 hf6
        rw [← hw6]
        clear hw6 hs1 hs2 qp5 qpf5
        have qp := hbp6.cell
        have qpf := hbp6.frozen
        have qz := hbz6.cell
        have qzf := hbz6.frozen
        have z1 := hbp6.lt
        have z2 := hbz6.lt
        go_wp2_with fail
        refine bodyPost_ret (v := Value.agg #[.int .i64 code, .int .i64 level, .bool true, .int .i64 xi, .slice (some ⟨b, o, none⟩) k c]) (by simp [results, Try.results56, go_sem, qp, qz]) rfl ?_
        rw [HQ.out]
        have hkl : ((L.map Ob.s).take k).length = k := by rw [List.length_take, List.length_map, HLN.out]; omega
        refine ⟨by rw [pval]; dsimp only; rw [hkl]; try rfl, by dsimp only; rw [hkl, List.map_take], by dsimp only; rw [hkl, HLN.out]; omega, ?_⟩
        exact (hf6.set_ (p := ⟨w.heap.size, 4, none⟩) (.inr (Nat.le_refl _)) (.slice (some ⟨b, o, none⟩) k c)).set5 (g := w.heap.size + 1) (.inr (by simp)) _ _ _ _ _
    · obtain rfl : k = n := by omega
      have hall := fits_all (S := L.map Ob.s) (by rw [List.length_map, HLN.out]; exact hfit.out)
      have hq := partS_all (p := ⟨code, level, more, next, S0⟩) hall
      have HQ := Lib.hid hq
      have qp := hbp.cell
      have qpf := hbp.frozen
      have qz := hbz.cell
      have qzf := hbz.frozen
      have z1 := hbp.lt
      have z2 := hbz.lt
      clear hall hq hsd
      go_wp2_with fail
      refine bodyPost_ret (v := Value.agg #[.int .i64 code, .int .i64 level, .bool more, .int .i64 next, .slice A k c]) (by simp [results, Try.results56, go_sem, qp, qz]) rfl ?_
      rw [HQ.out]
      have hkl : (L.map Ob.s).length = k := by rw [List.length_map, HLN.out]
      refine ⟨by rw [pval]; dsimp only; rw [hkl]; try rfl, by dsimp only; rw [hkl, List.take_of_length_le (by rw [HLN.out]; omega)], by dsimp only; rw [hkl, HLN.out]; omega, ?_⟩
      exact (hf.set_ (p := ⟨w.heap.size, 4, none⟩) (.inr (Nat.le_refl _)) (.slice A k c)).set5 (g := w.heap.size + 1) (.inr (by simp)) _ _ _ _ _
end Go.Proofs.Ythdenkmmiadeiaa
