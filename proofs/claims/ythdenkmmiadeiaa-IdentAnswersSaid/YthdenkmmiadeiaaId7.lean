/- Contract of Answer (package ident). -/
import Derived.Test.YthdenkmmiadeiaaId6
import Derived.Test.YthdenkmmiadeiaaObjLaw
namespace Go.Proofs.Ythdenkmmiadeiaa
set_option linter.unusedSimpArgs false
set_option linter.unusedVariables false
open Go.RowKit

def streamP (S : List (Int × List Int)) (code id : Int) : Ps := partS ⟨code, levelS S, false, 0, []⟩ (fromS S code id)
def oneP (S : List (Int × List Int)) (x : Int × List Int) : Ps := ⟨4, levelS S, false, 0, [x]⟩
def told (o : Option (List Int)) : List Int × Int := (o.getD [], errW o)
/-- What is said of objects, of what is asked. -/
def answerS (S : List (Int × List Int)) (d : List Int) : List Int × Int :=
  if rightS S = false then ([], 11)
  else if d = [] ∨ d.getD 0 0 ≠ 14 then ([], 1)
  else if d.length ≠ 3 then ([], 3)
  else if d.getD 1 0 = 1 ∨ d.getD 1 0 = 2 ∨ d.getD 1 0 = 3 then told (writeS (streamP S (d.getD 1 0) (d.getD 2 0)))
  else if d.getD 1 0 = 4 then match findS S (d.getD 2 0) with
    | none => ([], 2)
    | some x => told (writeS (oneP S x))
  else ([], 3)
theorem from_sub {S : List (Int × List Int)} {sort id : Int} {x : Int × List Int} (h : x ∈ fromS S sort id) : x ∈ S := by
  have h1 := List.mem_of_mem_drop h
  rw [ofS] at h1
  split at h1
  · cases h1
  · exact (List.mem_filter.1 h1).1
theorem right_in {S : List (Int × List Int)} (h : rightS S = true) : ∀ x ∈ S, 0 ≤ x.1 ∧ x.1 ≤ 255 ∧ x.2.length ≤ 240 := by
  rw [rightS, Bool.and_eq_true] at h
  intro x hx
  have := (right_pair h.1).2 x hx
  omega
theorem nilPost {w w' : World} {e : Int} (hf : Fr nob w w') : bytesPost [] e w (.returned (.tuple #[.slice none 0 0, .int .i64 e])) w' :=
  ⟨none, 0, 0, rfl, Rd.nil_ _ _ _, Nat.le_refl _, Nat.zero_le _, (fun ad h => by cases h), hf⟩

set_option maxHeartbeats 8000000 in
set_option maxRecDepth 100000 in
theorem ident_answer (A : Option Addr) (n c : Nat) (L : List Ob) (B : Option Addr) (m cb : Nat) (d : List Int) (w : World) (hO : Obs w A n L) (hn : n ≤ c) (hc : c ≤ 9223372036854775807) (hm140 : n ≤ 140)
    (hr : Rd w 1 B m (nums .u8 d)) (h8 : bytes8 d) (hmc : m ≤ cb) (hcb : cb ≤ 9223372036854775807) :
    Calls Try.prog 19 #[.slice A n c, .slice B m cb] w (bytesPost (answerS (L.map Ob.s) d).1 (answerS (L.map Ob.s) d).2 w) := by
  have hl := hr.numlen
  have HL := Lib.hid hl
  clear hl
  obtain ⟨S, hS⟩ : ∃ S, S = L.map Ob.s := ⟨_, rfl⟩
  have hright := right_any A n c L w hO hn hc
  have hlevel := fun V (hV : Fr nob w V) => level_any A n c L V (hO.nob hV) hn hc
  rw [← hS] at hright hlevel
  rw [← hS]
  obtain ⟨an, han⟩ : ∃ an, an = answerS S d := ⟨_, rfl⟩
  rw [← han]
  have HAN := Lib.hid han
  have HS := Lib.hid hS
  have HLV := Lib.hid hlevel
  clear han hS hlevel
  go_enter Try.func19, Try.ntmps19
  go_wp2_with fail
  refine hright.mono ?_
  rintro e w1 ⟨rfl, hf1⟩
  cases hrt : rightS S with
  | false =>
    have HRT := Lib.hid hrt
    clear hrt
    go_wp2_with fail
    go_ret2
    have ha : an = ([], 11) := by rw [HAN.out, answerS, if_pos HRT.out]
    rw [ha]
    exact nilPost hf1
  | true =>
    have HRT := Lib.hid hrt
    clear hrt
    have hin := right_in HRT.out
    by_cases hm0 : m = 0
    · have hd0 : d = [] := List.eq_nil_of_length_eq_zero (by rw [HL.out]; exact hm0)
      have ha : an = ([], 1) := by rw [HAN.out, answerS, if_neg (by rw [HRT.out]; simp), if_pos (.inl hd0)]
      have HA := Lib.hid ha
      subst hm0
      clear hd0 ha hin
      go_wp2_with fail
      go_ret2
      rw [HA.out]
      exact nilPost hf1
    obtain ⟨bB, oB, hB, hbB, _⟩ := hr.num (i := 0) (by omega)
    subst hB
    have c0 := num2 hr rfl 0 (by omega)
    rw [Nat.add_zero] at c0
    have hne0 : d ≠ [] := fun h => by have := HL.out; rw [h] at this; simp at this; omega
    obtain ⟨d0, hd0⟩ : ∃ x, x = d.getD 0 0 := ⟨_, rfl⟩
    rw [← hd0] at c0
    have HD0 := Lib.hid hd0
    clear hd0
    have p0 := (hf1.cell (p := ⟨bB, oB, none⟩) hbB (fun h => h)).trans c0
    have hmz : ((m : Int) == 0) = false := by rw [beq_eq_false_iff_ne]; omega
    have hmp : (0 : Int) < (m : Int) := by omega
    by_cases h14 : d0 = 14
    rotate_left
    · have e14 : (d0 != 14) = true := by rw [bne_iff_ne]; exact h14
      have ha : an = ([], 1) := by rw [HAN.out, answerS, if_neg (by rw [HRT.out]; simp), if_pos (.inr (by rw [← HD0.out]; exact h14))]
      have HA := Lib.hid ha
      clear h14 ha hin
      go_wp2_with fail
      go_ret2
      rw [HA.out]
      exact nilPost hf1
    have e14 : (d0 != 14) = false := by rw [bne_eq_false_iff_eq]; exact h14
    have H14 := Lib.hid h14
    clear h14
    by_cases hm3 : m = 3
    rotate_left
    · have e3 : ((m : Int) != 3) = true := by rw [bne_iff_ne]; omega
      have ha : an = ([], 3) := by rw [HAN.out, answerS, if_neg (by rw [HRT.out]; simp), if_neg (by rw [← HD0.out]; intro h; rcases h with h | h; exact hne0 h; exact h H14.out), if_pos (by rw [HL.out]; exact hm3)]
      have HA := Lib.hid ha
      clear hm3 ha hin hne0
      go_wp2_with fail
      go_ret2
      rw [HA.out]
      exact nilPost hf1
    subst hm3
    have c1 := num2 hr rfl 1 (by omega)
    have c2 := num2 hr rfl 2 (by omega)
    have b1 := h8.at_ 1
    have b2 := h8.at_ 2
    obtain ⟨d1, hd1⟩ : ∃ x, x = d.getD 1 0 := ⟨_, rfl⟩
    obtain ⟨d2, hd2⟩ : ∃ x, x = d.getD 2 0 := ⟨_, rfl⟩
    rw [← hd1] at c1 b1
    rw [← hd2] at c2 b2
    have p1 := (hf1.cell (p := ⟨bB, oB + 1, none⟩) hbB (fun h => h)).trans c1
    have p2 := (hf1.cell (p := ⟨bB, oB + 2, none⟩) hbB (fun h => h)).trans c2
    have ha3 : an = if d1 = 1 ∨ d1 = 2 ∨ d1 = 3 then told (writeS (streamP S d1 d2)) else if d1 = 4 then (match findS S d2 with | none => ([], 2) | some x => told (writeS (oneP S x))) else ([], 3) := by
      rw [HAN.out, answerS, if_neg (by rw [HRT.out]; simp), if_neg (by rw [← HD0.out]; intro h; rcases h with h | h; exact hne0 h; exact h H14.out), if_neg (by rw [HL.out]; simp), ← hd1, ← hd2]
    have HA3 := Lib.hid ha3
    have hw1 : IntKind.i64.wrap d1 = d1 := IntWalk.i64_in _ (by omega)
    have hw2 : IntKind.i64.wrap d2 = d2 := IntWalk.i64_in _ (by omega)
    clear ha3 hd1 hd2 c0 c1 c2 hne0 hmz hmp
    have HRW := Lib.hid hr
    clear hr
    go_wp2_with fail
    go_quiet (fail)
    go_wp2_with fail
    refine (HLV.out _ (hf1.drewN nq)).mono ?_
    rintro e w2 ⟨rfl, hf2⟩
    have hf02 : Fr nob w w2 := (hf1.drewN nq).trans hf2 (fun _ _ h => h)
    obtain ⟨lv, hlv⟩ : ∃ lv, lv = levelS S := ⟨_, rfl⟩
    rw [← hlv]
    have HLVE := Lib.hid hlv
    have hbp := Blk.new w2 24 #[.int .i64 d1, .int .i64 lv, .bool false, .int .i64 0, .slice none 0 0]
    have hf03 := hf02.alloc (.cells #[.int .i64 d1, .int .i64 lv, .bool false, .int .i64 0, .slice none 0 0] 24)
    have hxl : ∀ x ∈ L, x.n ≤ 240 ∧ 0 ≤ x.id ∧ x.id ≤ 255 := fun x hx => by
      have h1 := hin x.s (by rw [HS.out]; exact List.mem_map.2 ⟨x, hx, rfl⟩)
      have h2 := (hO.ok x hx).len
      simp only [Ob.s] at h1
      omega
    clear hlv hright hf1 hf2 p0 p1 p2
    by_cases h123 : d1 = 1 ∨ d1 = 2 ∨ d1 = 3
    · have ha : an = told (writeS (streamP S d1 d2)) := by rw [HA3.out, if_pos h123]
      have HA := Lib.hid ha
      have htests : ((d1 == 1) = true) ∨ ((d1 == 1) = false ∧ (d1 == 2) = true) ∨ ((d1 == 1) = false ∧ (d1 == 2) = false ∧ (d1 == 3) = true) := by
        rcases h123 with h | h | h
        · exact .inl (by rw [beq_iff_eq]; exact h)
        · exact .inr (.inl ⟨by rw [beq_eq_false_iff_ne]; omega, by rw [beq_iff_eq]; exact h⟩)
        · exact .inr (.inr ⟨by rw [beq_eq_false_iff_ne]; omega, by rw [beq_eq_false_iff_ne]; omega, by rw [beq_iff_eq]; exact h⟩)
      clear ha h123
      obtain ⟨W3, hW3⟩ : ∃ W3, W3 = w2.alloc (.cells #[.int .i64 d1, .int .i64 lv, .bool false, .int .i64 0, .slice none 0 0] 24) := ⟨_, rfl⟩
      rw [← hW3] at hbp hf03
      have HW3 := Lib.hid hW3
      clear hW3
      have hfrom := Lib.hid (fun V (hV : Fr nob w V) => from_any A n c L d1 d2 V (hO.nob hV) hn hc (fun x hx => by have := hxl x hx; omega) (by omega))
      obtain ⟨q, hq⟩ : ∃ q, q = streamP S d1 d2 := ⟨_, rfl⟩
      have HQ := Lib.hid hq
      clear hq
      rcases htests with t1 | ⟨t1, t2⟩ | ⟨t1, t2, t3⟩
      all_goals
        go_wp2_with fail
        rw [← HW3.out]
        have qp3 := hbp.cell
        refine wp_region_held_drew (S := fun _ => True) (by kernel_rfl) trivial (fun hHeld => ?_)
        first
          | (refine mix_skip 1 rfl (by kernel_rfl) (by kernel_rfl) (by kernel_rfl) (by rfl) (by assumption) (fun _ _ _ h => h) ?_)
          | (refine mix_pure 1 (v := ?_) rfl (by kernel_rfl) (by kernel_rfl) (by kernel_rfl) (by rfl) (by assumption) (fun _ _ _ h => h) ?_ ?_; rotate_left; · (intro wS hSw; (try dsimp only at hSw); go_simp; try with_reducible rfl))
        simp only [Act.put, List.setIfInBounds_toArray, List.set_cons_zero, List.set_cons_succ]
        first
          | (refine mix_skip 2 rfl (by kernel_rfl) (by kernel_rfl) (by kernel_rfl) (by rfl) (by assumption) (fun _ _ _ h => h) ?_)
          | (refine mix_pure 2 (v := ?_) rfl (by kernel_rfl) (by kernel_rfl) (by kernel_rfl) (by rfl) (by assumption) (fun _ _ _ h => h) ?_ ?_; rotate_left; · (intro wS hSw; (try dsimp only at hSw); go_simp; try with_reducible rfl))
        simp only [Act.put, List.setIfInBounds_toArray, List.set_cons_zero, List.set_cons_succ]
        first
          | (refine mix_skip 3 rfl (by kernel_rfl) (by kernel_rfl) (by kernel_rfl) (by rfl) (by assumption) (fun _ _ _ h => h) ?_)
          | (refine mix_pure 3 (v := ?_) rfl (by kernel_rfl) (by kernel_rfl) (by kernel_rfl) (by rfl) (by assumption) (fun _ _ _ h => h) ?_ ?_; rotate_left; · (intro wS hSw; (try dsimp only at hSw); go_simp; try with_reducible rfl))
        simp only [Act.put, List.setIfInBounds_toArray, List.set_cons_zero, List.set_cons_succ]
        refine mix_two 0 4 rfl rfl (by kernel_rfl) (fun K hK => ?_) (fun K hK => ?_)
        · go_simp
          refine hK.out _ _ (trivial) (fun hHeld0 => ?_)
          clear hK K
          try simp only [Act.put, List.setIfInBounds_toArray, List.set_cons_zero, List.set_cons_succ]
          refine mix_one 4 rfl (by kernel_rfl) (fun K hK => ?_)
          go_simp
          refine (hfrom.out _ hf03.drew).mono ?_
          rintro e w4 ⟨hf4, A4, n4, c4, L4, rfl, hL4, hO4, hn4, hc4, hx4, hN4⟩
          have hf34 : Fr nob W3 w4 := ((Fr.refl nob W3).drew).trans hf4 (fun _ _ h => h)
          have hfit4 : ∀ x ∈ L4, x.n ≤ 240 ∧ 0 ≤ x.id ∧ x.id ≤ 255 := fun x hx => by
            have h1 : x.s ∈ S := by
              rw [HS.out]
              refine from_sub (sort := d1) (id := d2) ?_
              rw [← hL4]
              exact List.mem_map.2 ⟨x, hx, rfl⟩
            have h2 := hin x.s h1
            have h3 := (hO4.ok x hx).len
            simp only [Ob.s] at h2
            omega
          have HL4 := Lib.hid hL4
          have HN4 := Lib.hid hN4
          clear hL4 hx4 hN4
          refine hK.out _ _ (trivial) (fun hHeld1 => ?_)
          clear hK K
          try simp only [Act.put, List.setIfInBounds_toArray, List.set_cons_zero, List.set_cons_succ]
          refine mix_one 5 rfl (by kernel_rfl) (fun K hK => ?_)
          go_simp
          have hpc := ident_part ⟨d1, lv, false, 0, []⟩ none 0 0 A4 n4 c4 L4 w4 hO4 hn4 hc4 hfit4
          rw [HL4.out, ← HS.out, show partS ⟨d1, lv, false, 0, []⟩ (fromS S d1 d2) = q by rw [HQ.out, streamP, ← HLVE.out]] at hpc
          refine hpc.mono ?_
          clear hpc
          rintro e w5 ⟨rfl, hqS, hqle, hf5⟩
          obtain ⟨qc, ql, qm, qn, qS⟩ := q
          rw [pval]
          dsimp only at hqS hqle ⊢
          have HQS := Lib.hid hqS
          obtain ⟨k5, hk5⟩ : ∃ k5, k5 = qS.length := ⟨_, rfl⟩
          rw [← hk5] at hqle ⊢
          have HK5 := Lib.hid hk5
          clear hqS hk5
          have hf35 := hf34.trans hf5 (fun _ _ h => h)
          have hbp5 := hbp.fr hf35 (fun h => h)
          have qp5 := hbp5.cell
          have qpf5 := hbp5.frozen
          have zp5 := hbp5.lt
          refine hK.out _ _ (trivial) (fun hHeld2 => ?_)
          clear hK K
          try simp only [Act.put, List.setIfInBounds_toArray, List.set_cons_zero, List.set_cons_succ]
          refine mix_one 6 rfl (by kernel_rfl) (fun K hK => ?_)
          go_simp
          have hbp6 := hbp5.set5 (.int .i64 qc) (.int .i64 ql) (.bool qm) (.int .i64 qn) (.slice A4 k5 c4)
          have hs6 := (Fr.refl (fun i => i = w2.heap.size) w5).set5 (g := w2.heap.size) (.inl rfl) (.int .i64 qc) (.int .i64 ql) (.bool qm) (.int .i64 qn) (.slice A4 k5 c4)
          have hf6 := (hf03.trans hf35 (fun _ _ h => h)).newer hs6 (fun i hi => by have := hf02.size; omega)
          have hO6 := (hO4.nob hf5).take_ (k := k5) (by have := hO4.len; omega)
          have hge4 : True := trivial
          refine hK.out _ _ (trivial) (fun hHeld3 => ?_)
          clear hK K
          try simp only [Act.put, List.setIfInBounds_toArray, List.set_cons_zero, List.set_cons_succ]
          refine wpAnyH_done (by kernel_rfl) ?_ _
          obtain ⟨w6, hw6⟩ : ∃ w6, w6 = (((((w5.setCell ⟨w2.heap.size, 0, none⟩ (.int .i64 qc)).setCell ⟨w2.heap.size, 1, none⟩ (.int .i64 ql)).setCell ⟨w2.heap.size, 2, none⟩ (.bool qm)).setCell ⟨w2.heap.size, 3, none⟩ (.int .i64 qn)).setCell ⟨w2.heap.size, 4, none⟩ (.slice A4 k5 c4)) := ⟨_, rfl⟩
          rw [← hw6] at hbp6 hs6 hf6
          rw [← hw6]
          clear hw6 qp5 qpf5
          have qp6 := hbp6.cell
          have hok6 : (⟨qc, ql, qm, qn, A4, k5, c4, L4.take k5⟩ : Pt).ok w6 := by
            refine ⟨?_, ?_, hc4⟩
            · have hz3 : w2.heap.size < W3.heap.size := by rw [HW3.out]; simp
              refine (hO6.frS hs6 (fun ad h e => ?_) (fun x hx ad h e => ?_))
              · have := HN4.out.1 ad h; simp at this; omega
              · have := HN4.out.2 x (List.mem_of_mem_take hx) ad h; simp at this; omega
            · dsimp only; have := hO4.len; omega
          have hwr := Lib.hid (ident_write _ w6 hok6)
          simp only [Pt.val, Pt.cells] at hwr
          clear hHeld hHeld0 hHeld1 hHeld2 hHeld3
          go_wp2_with fail
          refine hwr.out.mono ?_
          rintro e w7 ⟨A7, k7, c7, rfl, hr7, hk7, hc7, hn7, hf7⟩
          go_wp2_with fail
          go_ret2
          have hps : (⟨qc, ql, qm, qn, A4, k5, c4, L4.take k5⟩ : Pt).s = streamP S d1 d2 := by
            rw [← HQ.out]
            simp only [Pt.s]
            congr 1
            rw [HQS.out, HK5.out]
          rw [hps] at hr7
          rw [HA.out]
          exact ⟨A7, k7, c7, by rw [hps]; rfl, hr7, hk7, hc7, fun ad h => Nat.le_trans hf6.size (hn7 ad h), hf6.trans hf7 (fun _ _ h => h)⟩
        · go_simp
          refine (hfrom.out _ hf03.drew).mono ?_
          rintro e w4 ⟨hf4, A4, n4, c4, L4, rfl, hL4, hO4, hn4, hc4, hx4, hN4⟩
          have hf34 : Fr nob W3 w4 := ((Fr.refl nob W3).drew).trans hf4 (fun _ _ h => h)
          have hfit4 : ∀ x ∈ L4, x.n ≤ 240 ∧ 0 ≤ x.id ∧ x.id ≤ 255 := fun x hx => by
            have h1 : x.s ∈ S := by
              rw [HS.out]
              refine from_sub (sort := d1) (id := d2) ?_
              rw [← hL4]
              exact List.mem_map.2 ⟨x, hx, rfl⟩
            have h2 := hin x.s h1
            have h3 := (hO4.ok x hx).len
            simp only [Ob.s] at h2
            omega
          have HL4 := Lib.hid hL4
          have HN4 := Lib.hid hN4
          clear hL4 hx4 hN4
          have hbp4 := hbp.fr hf34 (fun h => h)
          have qp4 := hbp4.cell
          refine hK.out _ _ (trivial) (fun hHeld0 => ?_)
          clear hK K
          try simp only [Act.put, List.setIfInBounds_toArray, List.set_cons_zero, List.set_cons_succ]
          refine mix_one 0 rfl (by kernel_rfl) (fun K hK => ?_)
          go_simp
          refine hK.out _ _ (trivial) (fun hHeld1 => ?_)
          clear hK K
          try simp only [Act.put, List.setIfInBounds_toArray, List.set_cons_zero, List.set_cons_succ]
          clear qp4
          refine mix_one 5 rfl (by kernel_rfl) (fun K hK => ?_)
          go_simp
          have hpc := ident_part ⟨d1, lv, false, 0, []⟩ none 0 0 A4 n4 c4 L4 w4 hO4 hn4 hc4 hfit4
          rw [HL4.out, ← HS.out, show partS ⟨d1, lv, false, 0, []⟩ (fromS S d1 d2) = q by rw [HQ.out, streamP, ← HLVE.out]] at hpc
          refine hpc.mono ?_
          clear hpc
          rintro e w5 ⟨rfl, hqS, hqle, hf5⟩
          obtain ⟨qc, ql, qm, qn, qS⟩ := q
          rw [pval]
          dsimp only at hqS hqle ⊢
          have HQS := Lib.hid hqS
          obtain ⟨k5, hk5⟩ : ∃ k5, k5 = qS.length := ⟨_, rfl⟩
          rw [← hk5] at hqle ⊢
          have HK5 := Lib.hid hk5
          clear hqS hk5
          have hf35 := hf34.trans hf5 (fun _ _ h => h)
          have hbp5 := hbp.fr hf35 (fun h => h)
          have qp5 := hbp5.cell
          have qpf5 := hbp5.frozen
          have zp5 := hbp5.lt
          refine hK.out _ _ (trivial) (fun hHeld2 => ?_)
          clear hK K
          try simp only [Act.put, List.setIfInBounds_toArray, List.set_cons_zero, List.set_cons_succ]
          refine mix_one 6 rfl (by kernel_rfl) (fun K hK => ?_)
          go_simp
          have hbp6 := hbp5.set5 (.int .i64 qc) (.int .i64 ql) (.bool qm) (.int .i64 qn) (.slice A4 k5 c4)
          have hs6 := (Fr.refl (fun i => i = w2.heap.size) w5).set5 (g := w2.heap.size) (.inl rfl) (.int .i64 qc) (.int .i64 ql) (.bool qm) (.int .i64 qn) (.slice A4 k5 c4)
          have hf6 := (hf03.trans hf35 (fun _ _ h => h)).newer hs6 (fun i hi => by have := hf02.size; omega)
          have hO6 := (hO4.nob hf5).take_ (k := k5) (by have := hO4.len; omega)
          have hge4 : True := trivial
          refine hK.out _ _ (trivial) (fun hHeld3 => ?_)
          clear hK K
          try simp only [Act.put, List.setIfInBounds_toArray, List.set_cons_zero, List.set_cons_succ]
          refine wpAnyH_done (by kernel_rfl) ?_ _
          obtain ⟨w6, hw6⟩ : ∃ w6, w6 = (((((w5.setCell ⟨w2.heap.size, 0, none⟩ (.int .i64 qc)).setCell ⟨w2.heap.size, 1, none⟩ (.int .i64 ql)).setCell ⟨w2.heap.size, 2, none⟩ (.bool qm)).setCell ⟨w2.heap.size, 3, none⟩ (.int .i64 qn)).setCell ⟨w2.heap.size, 4, none⟩ (.slice A4 k5 c4)) := ⟨_, rfl⟩
          rw [← hw6] at hbp6 hs6 hf6
          rw [← hw6]
          clear hw6 qp5 qpf5
          have qp6 := hbp6.cell
          have hok6 : (⟨qc, ql, qm, qn, A4, k5, c4, L4.take k5⟩ : Pt).ok w6 := by
            refine ⟨?_, ?_, hc4⟩
            · have hz3 : w2.heap.size < W3.heap.size := by rw [HW3.out]; simp
              refine (hO6.frS hs6 (fun ad h e => ?_) (fun x hx ad h e => ?_))
              · have := HN4.out.1 ad h; simp at this; omega
              · have := HN4.out.2 x (List.mem_of_mem_take hx) ad h; simp at this; omega
            · dsimp only; have := hO4.len; omega
          have hwr := Lib.hid (ident_write _ w6 hok6)
          simp only [Pt.val, Pt.cells] at hwr
          clear hHeld hHeld0 hHeld1 hHeld2 hHeld3
          go_wp2_with fail
          refine hwr.out.mono ?_
          rintro e w7 ⟨A7, k7, c7, rfl, hr7, hk7, hc7, hn7, hf7⟩
          go_wp2_with fail
          go_ret2
          have hps : (⟨qc, ql, qm, qn, A4, k5, c4, L4.take k5⟩ : Pt).s = streamP S d1 d2 := by
            rw [← HQ.out]
            simp only [Pt.s]
            congr 1
            rw [HQS.out, HK5.out]
          rw [hps] at hr7
          rw [HA.out]
          exact ⟨A7, k7, c7, by rw [hps]; rfl, hr7, hk7, hc7, fun ad h => Nat.le_trans hf6.size (hn7 ad h), hf6.trans hf7 (fun _ _ h => h)⟩
    · have n1 : (d1 == 1) = false := by rw [beq_eq_false_iff_ne]; omega
      have n2 : (d1 == 2) = false := by rw [beq_eq_false_iff_ne]; omega
      have n3 : (d1 == 3) = false := by rw [beq_eq_false_iff_ne]; omega
      by_cases h4 : d1 = 4
      rotate_left
      · have n4 : (d1 == 4) = false := by rw [beq_eq_false_iff_ne]; exact h4
        have ha : an = ([], 3) := by rw [HA3.out, if_neg h123, if_neg h4]
        have HA := Lib.hid ha
        clear ha h123 h4
        go_wp2_with fail
        go_ret2
        rw [HA.out]
        exact nilPost hf03
      · have n4 : (d1 == 4) = true := by rw [beq_iff_eq]; exact h4
        have ha : an = (match findS S d2 with | none => ([], 2) | some x => told (writeS (oneP S x))) := by rw [HA3.out, if_neg h123, if_pos h4]
        have HA := Lib.hid ha
        have H4 := Lib.hid h4
        have hfind := find_any A n c L d2 (w2.alloc (.cells #[.int .i64 d1, .int .i64 lv, .bool false, .int .i64 0, .slice none 0 0] 24)) (hO.nob hf03) hn hc (fun x hx => by have := hxl x hx; omega)
        rw [← HS.out] at hfind
        have HFD := Lib.hid hfind
        clear ha h123 h4 hfind
        go_wp2_with fail
        refine HFD.out.mono ?_
        rintro e w4 ⟨hf4, y, ok, rfl, hyok, hfs, -, hyn⟩
        have hbp4 := hbp.fr hf4 (fun h => h)
        have hf34 := hf03.trans hf4 (fun _ _ h => h)
        obtain ⟨yi, yA, yn, yc, yd⟩ := y
        rw [Ob.val]
        dsimp only
        cases ok with
        | false =>
          have ha2 : an = ([], 2) := by
            rw [HA.out]
            rw [if_neg (by simp)] at hfs
            rw [hfs]
          have HA2 := Lib.hid ha2
          clear ha2 hfs
          go_wp2_with fail
          go_ret2
          rw [HA2.out]
          exact nilPost (hf34.alloc _)
        | true =>
          have ha2 : an = told (writeS (oneP S (yi, yd))) := by
            rw [HA.out]
            rw [if_pos rfl] at hfs
            rw [hfs]
            rfl
          have HA2 := Lib.hid ha2
          clear ha2 hfs
          have qp4 := hbp4.cell
          have qpf4 := hbp4.frozen
          have zp4 := hbp4.lt
          go_wp2_with fail
          have hs5 : Fr (fun i => i = w2.heap.size) w4 (w4.setCell ⟨w2.heap.size, 4, none⟩ (.slice (some ⟨w4.heap.size + 1, 0, none⟩) 1 1)) := (Fr.refl (fun i => i = w2.heap.size) w4).set_ (p := ⟨w2.heap.size, 4, none⟩) (.inl rfl) (.slice (some ⟨w4.heap.size + 1, 0, none⟩) 1 1)
          have hyok6 : (⟨yi, yA, yn, yc, yd⟩ : Ob).ok (((w4.setCell ⟨w2.heap.size, 4, none⟩ (.slice (some ⟨w4.heap.size + 1, 0, none⟩) 1 1)).alloc (.cells #[.int .i64 yi, .slice yA yn yc] 49)).alloc (.cells #[.int .i64 yi, .slice yA yn yc] 49)) := by
            refine Ob.ok.alloc (Ob.ok.alloc ?_ _) _
            exact ⟨hyok.1.fr hs5 (fun ad h e => by have := hyn ad h; simp at this; omega), hyok.2⟩
          have hb6 : Blk (((w4.setCell ⟨w2.heap.size, 4, none⟩ (.slice (some ⟨w4.heap.size + 1, 0, none⟩) 1 1)).alloc (.cells #[.int .i64 yi, .slice yA yn yc] 49)).alloc (.cells #[.int .i64 yi, .slice yA yn yc] 49)) (w4.heap.size + 1) 49 #[.int .i64 yi, .slice yA yn yc] := by
            have h := Blk.new ((w4.setCell ⟨w2.heap.size, 4, none⟩ (.slice (some ⟨w4.heap.size + 1, 0, none⟩) 1 1)).alloc (.cells #[.int .i64 yi, .slice yA yn yc] 49)) 49 #[.int .i64 yi, .slice yA yn yc]
            rw [World.size_alloc] at h
            simpa using h
          have hf6 : Fr nob w (((w4.setCell ⟨w2.heap.size, 4, none⟩ (.slice (some ⟨w4.heap.size + 1, 0, none⟩) 1 1)).alloc (.cells #[.int .i64 yi, .slice yA yn yc] 49)).alloc (.cells #[.int .i64 yi, .slice yA yn yc] 49)) := ((hf34.newer hs5 (fun i hi => by have := hf02.size; omega)).alloc _).alloc _
          have hok6 : (⟨d1, lv, false, 0, some ⟨w4.heap.size + 1, 0, none⟩, 1, 1, [⟨yi, yA, yn, yc, yd⟩]⟩ : Pt).ok (((w4.setCell ⟨w2.heap.size, 4, none⟩ (.slice (some ⟨w4.heap.size + 1, 0, none⟩) 1 1)).alloc (.cells #[.int .i64 yi, .slice yA yn yc] 49)).alloc (.cells #[.int .i64 yi, .slice yA yn yc] 49)) := by
            refine ⟨⟨Rd.of_blk hb6 rfl (fun j u hu => ?_), fun x hx => ?_⟩, by dsimp only; omega, by dsimp only; omega⟩
            · rw [Nat.zero_add]
              simpa [Ob.cs] using hu
            · simp at hx
              subst hx
              exact hyok6
          have hwr := Lib.hid (ident_write _ _ hok6)
          simp only [Pt.val, Pt.cells] at hwr
          refine hwr.out.mono ?_
          rintro e w7 ⟨A7, k7, c7, rfl, hr7, hk7, hc7, hn7, hf7⟩
          have hps : (⟨d1, lv, false, 0, some ⟨w4.heap.size + 1, 0, none⟩, 1, 1, [⟨yi, yA, yn, yc, yd⟩]⟩ : Pt).s = oneP S (yi, yd) := by
            rw [oneP, Pt.s, ← HLVE.out, H4.out]
            rfl
          have HPSS := Lib.hid hps
          have hge7 : ∀ ad, A7 = some ad → w.heap.size ≤ ad.block := fun ad h => Nat.le_trans hf6.size (hn7 ad h)
          have hfin := hf6.trans hf7 (fun _ _ h => h)
          rw [hps] at hr7
          clear hps
          rw [HPSS.out]
          go_wp2_with fail
          go_ret2
          rw [HA2.out]
          exact ⟨A7, k7, c7, rfl, hr7, hk7, hc7, hge7, hfin⟩
end Go.Proofs.Ythdenkmmiadeiaa
