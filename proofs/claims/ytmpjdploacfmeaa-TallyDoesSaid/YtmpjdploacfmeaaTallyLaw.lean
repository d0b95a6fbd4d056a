/- Layer 8's laws, walked: TallySums, TallyDoes. -/
import Derived.Test.YtmpjdploacfmeaaTally
import Derived.Test.YtmpjdploacfmeaaRef01
namespace Go.Proofs.Ytmpjdploacfmeaa
open Go.RowKit

theorem TS.fr {S : Nat → Prop} {w w' : World} {b : Nat} {c : List Int} (h : TS w b c) (hf : Fr S w w') (hn : ¬ S b) : TS w' b c := ⟨h.1, h.2.1, h.2.2.fr hf hn⟩
theorem TS.lt {w : World} {b : Nat} {c : List Int} (h : TS w b c) : b < w.heap.size := h.2.2.lt
theorem TS.new (w : World) : TS (w.alloc (.cells (tcells (List.replicate 8 0)) 79)) w.heap.size (List.replicate 8 0) := ⟨rfl, by simp, Blk.new _ _ _⟩
theorem NewWords.rd {w w' : World} {A : Option Addr} {n c : Nat} {l : List Int} (h : NewWords w w' (.slice A n c) l) : Rd w' 1 A n (nums .u16 l) := by
  have h1 := h.1
  have hn : l.length = n := by
    rcases h1.2 with ⟨e, h0⟩ | ⟨g, cap, cur, e, _⟩
    · injection e with e1 e2; omega
    · injection e with e1 e2; exact e2.symm
  rw [hn] at h1
  exact Rd.of_own h1

set_option maxHeartbeats 1000000 in
theorem tally_sure (w : World) : Calls Try.prog 8 #[] w fun e w' => e = .returned (.bool true) ∧ Fr nob w w' := by
  have a1 : addErr 0 65536 = 0 := rfl
  have a2 : addErr 7 2 = 0 := rfl
  have a3 : addErr 8 1 = 11 := rfl
  have a4 : ∀ c, addTo c 8 1 = c := fun _ => rfl
  go_enter Try.func8, Try.ntmps8
  go_wp2_with fail
  refine (tally_new _).mono ?_
  rintro e w1 ⟨rfl, rfl⟩
  have h0 := TS.new w
  have hf0 : Fr nob w (w.alloc (.cells (tcells (List.replicate 8 0)) 79)) := (Fr.refl _ _).alloc _
  obtain ⟨b, hb⟩ : ∃ b, b = w.heap.size := ⟨_, rfl⟩
  obtain ⟨W, hW⟩ : ∃ W, W = w.alloc (.cells (tcells (List.replicate 8 0)) 79) := ⟨_, rfl⟩
  rw [← hW, ← hb] at h0
  rw [← hW] at hf0
  rw [← hW, ← hb]
  have HB := Lib.hid hb
  clear hb hW
  go_wp2_with fail
  refine (tally_add b _ _ _ _ h0).mono ?_
  rintro e w1 ⟨rfl, h1, hf1⟩
  go_wp2_with fail
  refine (tally_add b _ _ _ _ h1).mono ?_
  rintro e w2 ⟨rfl, h2, hf2⟩
  go_wp2_with fail
  refine (tally_add b _ _ _ _ h2).mono ?_
  rintro e w3 ⟨rfl, h3, hf3⟩
  go_wp2_with fail
  refine (tally_get b _ _ _ h3 (by omega) (by omega)).mono ?_
  rintro e w4 ⟨rfl, rfl⟩
  have g0 : addTo (addTo (addTo (List.replicate 8 0) 0 65536) 7 2) 8 1 = [0, 0, 0, 0, 0, 0, 0, 2] := by decide
  have g1 : ([0, 0, 0, 0, 0, 0, 0, 2] : List Int).getD (Int.toNat 7) 0 = 2 := by decide
  rw [g0, g1]
  rw [g0] at h3
  go_wp2_with fail
  refine (tally_get_nil _ _).mono ?_
  rintro e w4 ⟨rfl, rfl⟩
  go_wp2_with fail
  refine (tally_all b _ _ h3).mono ?_
  rintro e w4 ⟨A, c, rfl, hv⟩
  go_wp2_with fail
  have hr1 := (hv.rd).alloc (.cells (nums .u16 [0, 0, 0, 0, 0, 0, 0, 2]).toArray 31)
  have hr2 : Rd (w4.alloc (.cells (nums .u16 [0, 0, 0, 0, 0, 0, 0, 2]).toArray 31)) 1 (some ⟨w4.heap.size, 0, none⟩) 8 (nums .u16 [0, 0, 0, 0, 0, 0, 0, 2]) :=
    Rd.of_blk (Blk.new _ _ _) rfl (fun j u hu => by simpa using hu)
  refine (words_any _ _ _ _ _ _ _ _ _ hr1 hr2 (by omega) (by omega)).mono ?_
  rintro e w5 ⟨rfl, k, rfl⟩
  have g3 : sameInts [0, 0, 0, 0, 0, 0, 0, 2] [0, 0, 0, 0, 0, 0, 0, 2] = true := by decide
  rw [g3]
  go_wp2_with fail
  refine (tally_add_nil _ _ _).mono ?_
  rintro e w6 ⟨rfl, rfl⟩
  go_wp2_with fail
  refine (tally_all_nil _).mono ?_
  rintro e w6 ⟨rfl, rfl⟩
  go_wp2_with fail
  go_ret
  refine ⟨rfl, ?_⟩
  have hlt : w.heap.size ≤ b := by rw [HB.out]; omega
  have f1 : Fr nob w w1 := hf0.trans hf1 (fun i hi hb => by omega)
  have f2 : Fr nob w w2 := f1.trans hf2 (fun i hi hb => by omega)
  have f3 : Fr nob w w3 := f2.trans hf3 (fun i hi hb => by omega)
  exact ((f3.trans hv.2 (fun i hi hb => hb.elim)).alloc _).drewN _

/-- The cells of an Op: Kind, I, N. -/
def opCells (x : Int × Int × Int) : List Value := [.int .i64 x.1, .int .i64 x.2.1, .int .i64 x.2.2]
theorem Rd.op {w : World} {A : Option Addr} {n : Nat} {L : List (Int × Int × Int)} (h : Rd w 3 A n (L.flatMap opCells)) {k : Nat} (hk : k < n) :
    ∃ b o x, A = some ⟨b, o, none⟩ ∧ b < w.heap.size ∧ L[k]? = some x ∧ w.cell? ⟨b, o + k * 3, none⟩ = some (.int .i64 x.1) ∧ w.cell? ⟨b, o + k * 3 + 1, none⟩ = some (.int .i64 x.2.1) ∧ w.cell? ⟨b, o + k * 3 + 2, none⟩ = some (.int .i64 x.2.2) := by
  obtain ⟨b, o, x, e, hb, hx, hc⟩ := h.row (size := 3) (fun _ => rfl) (by decide) hk
  exact ⟨b, o, x, e, hb, hx, hc 0 _ rfl, hc 1 _ rfl, hc 2 _ rfl⟩
theorem addErr_or (i n : Int) : addErr i n = 0 ∨ addErr i n = 11 := by unfold addErr; split <;> simp
theorem dropErr_or (i : Int) : dropErr i = 0 ∨ dropErr i = 11 := by unfold dropErr; split <;> simp

theorem addErr_ok {i n : Int} (h : addErr i n = 0) : 0 ≤ i ∧ i < 8 ∧ 0 ≤ n ∧ n ≤ 65536 := by unfold addErr at h; split at h; assumption; cases h
theorem dropErr_ok {i : Int} (h : dropErr i = 0) : 0 ≤ i ∧ i < 8 := by unfold dropErr at h; split at h; assumption; cases h
theorem addTo_bad {i n : Int} (h : addErr i n = 11) (c : List Int) : addTo c i n = c := by
  unfold addErr at h; unfold addTo; split at h
  · cases h
  · rename_i hh; rw [if_neg hh]
theorem dropOf_bad {i : Int} (h : dropErr i = 11) (c : List Int) : dropOf c i = c := by
  unfold dropErr at h; unfold dropOf; split at h
  · cases h
  · rename_i hh; rw [if_neg hh]
theorem set_same (c : List Int) (i : Nat) (x : Int) (h : i < c.length) : (c.set i x).getD i 0 = x := by simp [List.getD_eq_getElem?_getD, h]
theorem set_other (c : List Int) (i j : Nat) (x : Int) (h : i ≠ j) : (c.set i x).getD j 0 = c.getD j 0 := by simp [List.getD_eq_getElem?_getD, h]
theorem addTo_same {i n sv : Int} {c : List Int} (h : addErr i n = 0) (hl : c.length = 8) (hs : c.getD i.toNat 0 = sv % 65536) : (addTo c i n).getD i.toNat 0 = (sv + n) % 65536 := by
  have hh := addErr_ok h
  unfold addTo
  rw [if_pos hh, set_same _ _ _ (by omega), hs]
  omega
theorem addTo_other {i n k : Int} {c : List Int} (hk : 0 ≤ k) (h : addErr i n = 0) (hne : i ≠ k) : (addTo c i n).getD k.toNat 0 = c.getD k.toNat 0 := by
  have hh := addErr_ok h
  unfold addTo
  rw [if_pos hh, set_other _ _ _ _ (by omega)]
theorem dropOf_same {i : Int} {c : List Int} (h : dropErr i = 0) (hl : c.length = 8) : (dropOf c i).getD i.toNat 0 = 0 := by
  have hh := dropErr_ok h
  unfold dropOf
  rw [if_pos hh, set_same _ _ _ (by omega)]
theorem dropOf_other {i k : Int} {c : List Int} (hk : 0 ≤ k) (h : dropErr i = 0) (hne : i ≠ k) : (dropOf c i).getD k.toNat 0 = c.getD k.toNat 0 := by
  have hh := dropErr_ok h
  unfold dropOf
  rw [if_pos hh, set_other _ _ _ _ (by omega)]

set_option maxHeartbeats 1000000 in
theorem tallySums_any (A : Option Addr) (n cp : Nat) (L : List (Int × Int × Int)) (q : Int) (w : World) (hl : Rd w 3 A n (L.flatMap opCells)) (hn : n ≤ 9223372036854775807) (hq : 0 ≤ q ∧ q ≤ 255) :
    Calls Try.prog 3 #[.slice A n cp, .int .u8 q] w fun e w' => e = .returned (.bool true) ∧ Fr nob w w' := by
  obtain ⟨hq0, hq1⟩ := hq
  by_cases h300 : 300 < n
  · go_enter Try.func3, Try.ntmps3
    go_wp2_with (go_at_call 8; refine (tally_sure _).mono ?_; rintro e w' ⟨rfl, hf⟩)
    go_ret
    exact ⟨rfl, hf⟩
  · go_enter Try.func3, Try.ntmps3
    go_wp2_with fail
    refine (tally_new _).mono ?_
    rintro e w1 ⟨rfl, rfl⟩
    have h0 := TS.new w
    have hf0 : Fr nob w (w.alloc (.cells (tcells (List.replicate 8 0)) 79)) := (Fr.refl _ _).alloc _
    obtain ⟨b, hb⟩ : ∃ b, b = w.heap.size := ⟨_, rfl⟩
    obtain ⟨W, hW⟩ : ∃ W, W = w.alloc (.cells (tcells (List.replicate 8 0)) 79) := ⟨_, rfl⟩
    rw [← hW, ← hb] at h0
    rw [← hW] at hf0
    rw [← hW, ← hb]
    have HB := Lib.hid hb
    clear hb hW
    have hlt0 : w.heap.size ≤ b := by rw [HB.out]; omega
    go_wp2_with fail
    go_loopw [7, 8] (fun s i wr => ∃ (j : Nat) (sv : Int) (c : List Int), j ≤ n ∧ i = .int .i64 j ∧ s = .int .i64 sv ∧ TS wr b c ∧ Fr nob w wr ∧ 0 ≤ sv ∧ sv ≤ 65536 * j ∧ Hid (c.getD (q % 8).toNat 0 = sv % 65536)) (fun _ i _ => n - (intOf i).toNat)
    case atStart =>
      refine ⟨0, 0, _, by omega, rfl, rfl, h0, hf0, by omega, by omega, ?_⟩
      have : (q % 8).toNat < 8 := by omega
      show (List.replicate 8 0).getD (q % 8).toNat 0 = 0 % 65536
      rw [List.getD_eq_getElem?_getD, List.getElem?_replicate, if_pos this]; rfl
    case round =>
      obtain ⟨j, sv, c, hj, rfl, rfl, hts, hfr, hs0, hs1, hsum⟩ := hrel
      by_cases hlt : j < n
      · obtain ⟨bl, o, ⟨xk, xi, xn⟩, rfl, hbl, hx, hc0, hc1, hc2⟩ := (hl.nob hfr).op hlt
        have hj0 : (0 : Int) ≤ (j : Int) ∧ (j : Int) < (n : Int) := ⟨by omega, by omega⟩
        have hbw : wr.heap.size ≠ b := by have := hts.lt; omega
        dsimp only at hc0 hc1 hc2
        clear hx hl
        have hkk : (0 : Int) ≤ q % 8 := by omega
        have hkeep : Fr nob w (wr.alloc (.cells #[.int .i64 xk, .int .i64 xi, .int .i64 xn] 27)) := hfr.alloc _
        have hts' : TS (wr.alloc (.cells #[.int .i64 xk, .int .i64 xi, .int .i64 xn] 27)) b c := hts.fr ((Fr.refl nob _).alloc _) id
        have Hts := Lib.hid hts
        clear hts
        by_cases hk : xk = 0
        · have hkb : (xk == 0) = true := by rw [hk]; rfl
          have HK := Lib.hid hk
          clear hk
          rcases addErr_or xi xn with he | he
          · obtain ⟨hx0, hx1, hn0, hn1⟩ := addErr_ok he
            by_cases hi : xi = q % 8
            · have hib : (xi == q % 8) = true := by rw [hi]; simp
              have HI := Lib.hid hi
              clear hi
              go_wp2_with fail
              refine (tally_add b c _ _ _ hts').mono ?_
              rintro e w2 ⟨rfl, hts2, hf2⟩
              have hoc := ((Blk.new wr 27 #[.int .i64 xk, .int .i64 xi, .int .i64 xn]).fr hf2 hbw).cell
              rw [he]
              go_wp2_with fail
              go_roundw
              case rel => exact ⟨j + 1, sv + xn, _, by omega, by go_num, rfl, hts2, hkeep.trans hf2 (fun i hi hb => by omega), by omega, by omega, by
                  rw [← HI.out]; exact addTo_same he Hts.out.1 (by rw [HI.out]; exact hsum.out)⟩
              case measure => simp [intOf]; omega
            · have hib : (xi == q % 8) = false := by rw [beq_eq_false_iff_ne]; exact hi
              go_wp2_with fail
              refine (tally_add b c _ _ _ hts').mono ?_
              rintro e w2 ⟨rfl, hts2, hf2⟩
              have hoc := ((Blk.new wr 27 #[.int .i64 xk, .int .i64 xi, .int .i64 xn]).fr hf2 hbw).cell
              rw [he]
              go_wp2_with fail
              go_roundw
              case rel => exact ⟨j + 1, sv, _, by omega, by go_num, rfl, hts2, hkeep.trans hf2 (fun i hi hb => by omega), by omega, by omega, by
                  rw [addTo_other hkk he hi]; exact hsum.out⟩
              case measure => simp [intOf]; omega
          · go_wp2_with fail
            refine (tally_add b c _ _ _ hts').mono ?_
            rintro e w2 ⟨rfl, hts2, hf2⟩
            rw [he]
            go_wp2_with fail
            go_roundw
            case rel => exact ⟨j + 1, sv, _, by omega, by go_num, rfl, hts2, hkeep.trans hf2 (fun i hi hb => by omega), by omega, by omega, by
                rw [addTo_bad he]; exact hsum.out⟩
            case measure => simp [intOf]; omega
        · have hkb : (xk == 0) = false := by rw [beq_eq_false_iff_ne]; exact hk
          rcases dropErr_or xi with he | he
          · by_cases hi : xi = q % 8
            · have hib : (xi == q % 8) = true := by rw [hi]; simp
              have HI := Lib.hid hi
              clear hi
              go_wp2_with fail
              refine (tally_drop b c _ _ hts').mono ?_
              rintro e w2 ⟨rfl, hts2, hf2⟩
              have hoc := ((Blk.new wr 27 #[.int .i64 xk, .int .i64 xi, .int .i64 xn]).fr hf2 hbw).cell
              rw [he]
              go_wp2_with fail
              go_roundw
              case rel => exact ⟨j + 1, 0, _, by omega, by go_num, rfl, hts2, hkeep.trans hf2 (fun i hi hb => by omega), by omega, by omega, by
                  rw [← HI.out]; exact dropOf_same he Hts.out.1⟩
              case measure => simp [intOf]; omega
            · have hib : (xi == q % 8) = false := by rw [beq_eq_false_iff_ne]; exact hi
              go_wp2_with fail
              refine (tally_drop b c _ _ hts').mono ?_
              rintro e w2 ⟨rfl, hts2, hf2⟩
              have hoc := ((Blk.new wr 27 #[.int .i64 xk, .int .i64 xi, .int .i64 xn]).fr hf2 hbw).cell
              rw [he]
              go_wp2_with fail
              go_roundw
              case rel => exact ⟨j + 1, sv, _, by omega, by go_num, rfl, hts2, hkeep.trans hf2 (fun i hi hb => by omega), by omega, by omega, by
                  rw [dropOf_other hkk he hi]; exact hsum.out⟩
              case measure => simp [intOf]; omega
          · go_wp2_with fail
            refine (tally_drop b c _ _ hts').mono ?_
            rintro e w2 ⟨rfl, hts2, hf2⟩
            rw [he]
            go_wp2_with fail
            go_roundw
            case rel => exact ⟨j + 1, sv, _, by omega, by go_num, rfl, hts2, hkeep.trans hf2 (fun i hi hb => by omega), by omega, by omega, by
                rw [dropOf_bad he]; exact hsum.out⟩
            case measure => simp [intOf]; omega
      · go_wp2_with fail
        refine (tally_get b _ _ _ hts (by omega) (by omega)).mono ?_
        rintro e w4 ⟨rfl, rfl⟩
        rw [hsum.out]
        have hlast : (sv % 65536 == sv % 65536) = true := by simp
        go_wp2_with fail
        refine (tally_sure _).mono ?_
        rintro e w4 ⟨rfl, hf4⟩
        go_wp2_with fail
        go_ret
        exact ⟨rfl, hfr.trans hf4 (fun i hi hb => hb.elim)⟩
end Go.Proofs.Ytmpjdploacfmeaa
