/- Layer 6's law TimerOrder, walked. -/
import Derived.Test.YtmpjdploacfmeaaTimLaw
import Derived.Test.YtmpjdploacfmeaaTim12
import Derived.Deep.RegionWith
import Derived.Deep.DeepCutAuto
import Derived.Deep.CutBlock
namespace Go.Proofs.Ytmpjdploacfmeaa
set_option linter.unusedSimpArgs false
set_option linter.unusedVariables false
open Go.RowKit

theorem bool_info : (Try.prog.info? 4).map (fun i => (i.zero, i.size, i.bytes)) = some (some (.bool false), 1, 1) := by kernel_rfl
theorem made_bools (n : Nat) : (madeCells (Value.bool false).cells (n * 1)).toList = (List.replicate n false).map Value.bool := by
  apply List.ext_getElem (by simp [madeCells])
  intro i h1 h2
  simp [madeCells, Value.cells, Nat.mod_one]
theorem Rd.bools {w : World} {A : Option Addr} {n : Nat} {tl : List Bool} (h : Rd w 1 A n (tl.map Value.bool)) {i : Nat} (hi : i < n) : ∃ b o, A = some ⟨b, o, none⟩ ∧ b < w.heap.size ∧ w.cell? ⟨b, o + i, none⟩ = some (.bool (tl.getD i false)) := by
  obtain ⟨b, o, e, hb, u, hu, hc⟩ := h.at_ hi
  have hl : tl.length = n := by have := h.len; simpa using this
  rw [List.getElem?_map, List.getElem?_eq_getElem (by omega)] at hu
  injection hu with hu
  refine ⟨b, o, e, hb, ?_⟩
  rw [hc, ← hu, List.getD_eq_getElem?_getD, List.getElem?_eq_getElem (by omega)]
  rfl

set_option maxHeartbeats 8000000 in
set_option maxRecDepth 100000 in
theorem timerOrder_any (A : Option Addr) (n c : Nat) (la : List Int) (B : Option Addr) (m d : Nat) (lb : List Int) (w : World) (ha : Rd w 1 A n (nums .u16 la)) (ha8 : ∀ x ∈ la, 0 ≤ x ∧ x ≤ 65535) (hb : Rd w 1 B m (nums .u16 lb)) (hb8 : ∀ x ∈ lb, 0 ≤ x ∧ x ≤ 65535) (hnc : n ≤ 9223372036854775807) (hmd : m ≤ 9223372036854775807) :
    Calls Try.prog 6 #[.slice A n c, .slice B m d] w fun e w' => e = .returned (.bool true) ∧ Fr nob w w' := by
  have hSure := timer_sure
  have HSU := Lib.hid hSure
  clear hSure
  by_cases hbig : 200 < n ∨ 60 < m
  · have hb2 : 200 < n ∨ (n ≤ 200 ∧ 60 < m) := by omega
    clear hbig
    rcases hb2 with hb2 | ⟨hb2, hb3⟩
    all_goals
      go_enter Try.func6, Try.ntmps6
      go_wp2_with fail
      refine (HSU.out _).mono ?_
      rintro e w1 ⟨rfl, hf⟩
      go_wp2_with fail
      go_ret
      exact ⟨rfl, hf⟩
  have hn200 : n ≤ 200 := by omega
  have hm60 : m ≤ 60 := by omega
  clear hbig
  have hal := ha.numlen
  have hA8 := fun i => (show 0 ≤ la.getD i 0 ∧ la.getD i 0 ≤ 65535 from by
    rcases Nat.lt_or_ge i la.length with hi | hi
    · rw [List.getD_eq_getElem?_getD, List.getElem?_eq_getElem hi]; exact ha8 _ (List.getElem_mem hi)
    · rw [List.getD_eq_getElem?_getD, List.getElem?_eq_none hi]; simp)
  have hB8 := fun i => (show 0 ≤ lb.getD i 0 ∧ lb.getD i 0 ≤ 65535 from by
    rcases Nat.lt_or_ge i lb.length with hi | hi
    · rw [List.getD_eq_getElem?_getD, List.getElem?_eq_getElem hi]; exact hb8 _ (List.getElem_mem hi)
    · rw [List.getD_eq_getElem?_getD, List.getElem?_eq_none hi]; simp)
  have HA8 := Lib.hid hA8
  have HB8 := Lib.hid hB8
  have HAL := Lib.hid hal
  clear hA8 hB8 ha8 hb8 hal
  go_enter Try.func6, Try.ntmps6
  go_wp2_with fail
  refine (tnew_any w).mono ?_
  rintro e w1 ⟨rfl, hq1, hf1⟩
  obtain ⟨g, hg⟩ : ∃ g, g = w.heap.size + 1 := ⟨_, rfl⟩
  rw [← hg] at hq1 ⊢
  have HQ1 := Lib.hid hq1
  have HF1 := Lib.hid hf1
  clear hq1 hg hf1
  go_wp2_with fail
  go_loopw [6] (fun iv wr => ∃ (k : Nat) (v1 : Value) (E1 : List Ent) (L : List Tm), iv = .int .i64 k ∧ k ≤ n ∧ Hid (QS wr w.heap.size g w.heap.size v1 E1 L) ∧ Hid (Upto la k L) ∧ Hid (Fr nob w wr)) (fun iv _ => n - (intOf iv).toNat)
  case atStart => exact ⟨0, _, [], [], rfl, by omega, HQ1, Lib.hid (upto_zero la), HF1⟩
  case round =>
    clear HQ1 HF1
    obtain ⟨k, v1, E1, L, rfl, hk, hq, hu, hf⟩ := hrel
    by_cases hlt : k < n
    · obtain ⟨m1, hm1⟩ : ∃ m1 : Nat, m1 = n - 1 - k := ⟨_, rfl⟩
      obtain ⟨ab, ao, rfl, hab, hc1⟩ := ha.num (i := m1) (by omega)
      obtain ⟨ab', ao', e', _, hc2⟩ := ha.num (i := k) hlt
      cases e'
      have hidx : (n : Int) - 1 - (k : Int) = (m1 : Int) := by omega
      have hm1n : (0 : Int) ≤ (m1 : Int) ∧ (m1 : Int) < (n : Int) := ⟨by omega, by omega⟩
      have hi0 : (0 : Int) ≤ (k : Int) ∧ (k : Int) < (n : Int) := ⟨by omega, by omega⟩
      have b1 := HA8.out m1
      have b2 := HA8.out k
      obtain ⟨h1, h2, h3, h4, h5⟩ := upto_one hu.out (by omega) b1
      have hs1 := qset_any wr _ g _ v1 E1 L k (la.getD m1 0) hq.out (w64_of (by omega))
      rw [h1, h2] at hs1
      obtain ⟨x1, hx1⟩ : ∃ x, x = la.getD m1 0 := ⟨_, rfl⟩
      obtain ⟨x2, hx2⟩ : ∃ x, x = la.getD k 0 := ⟨_, rfl⟩
      rw [← hx1] at hc1 hs1 b1 h3 h4 h5
      rw [← hx2] at hc2 b2
      have hcl : ∀ V, Fr nob w V → V.cell? ⟨ab, ao + m1, none⟩ = some (.int .u16 x1) ∧ V.cell? ⟨ab, ao + k, none⟩ = some (.int .u16 x2) := fun V h =>
        ⟨(h.cell (p := ⟨ab, _, none⟩) hab (fun h => h)).trans hc1, (h.cell (p := ⟨ab, _, none⟩) hab (fun h => h)).trans hc2⟩
      have HCL := Lib.hid hcl
      obtain ⟨q1, q2⟩ := HCL.out wr hf.out
      have HS1 := Lib.hid hs1
      have H3 := Lib.hid h3
      have H4 := Lib.hid h4
      have H5 := Lib.hid h5
      have HX2 := Lib.hid hx2
      have w1' : IntKind.i64.wrap x1 = x1 := IntWalk.i64_in _ (by omega)
      have w2' : IntKind.i64.wrap x2 = x2 := IntWalk.i64_in _ (by omega)
      clear hm1 hs1 h1 h2 h3 h4 h5 hx1 hx2 hcl hc1 hc2
      go_wp2_with fail
      refine HS1.out.mono ?_
      rintro e w2 ⟨rfl, hs2⟩
      obtain ⟨v2, E2, hq2, hf2⟩ := hs2.old hf.out hq.out
      obtain ⟨p1, p2⟩ := HCL.out w2 hf2
      obtain ⟨h1, h2⟩ := upto_two H3.out H4.out H5.out (by omega) (HA8.out k)
      have hs3 := qset_any w2 _ g _ v2 E2 _ k (la.getD k 0) hq2 (w64_of (by omega))
      rw [h1] at hs3
      rw [← HX2.out] at h2 hs3
      have HS3 := Lib.hid hs3
      have HU2 := Lib.hid h2
      have HQ2 := Lib.hid hq2
      have HF2 := Lib.hid hf2
      clear hs2 hq2 hf2 h1 h2 hs3 q1 q2 HS1 H3 H4 H5
      go_wp2_with fail
      refine HS3.out.mono ?_
      rintro e w3 ⟨rfl, hs4⟩
      obtain ⟨v3, E3, hq3, hf3⟩ := hs4.old HF2.out HQ2.out
      have HQ3 := Lib.hid hq3
      have HF3 := Lib.hid hf3
      clear hs4 hq3 hf3 p1 p2
      go_wp2_with fail
      go_roundw
      case rel => exact ⟨k + 1, v3, E3, _, by go_num, by omega, HQ3, HU2, HF3⟩
      case measure => simp [intOf]; omega
    · obtain rfl : k = n := by omega
      obtain ⟨ib, hib, hb0, hb1, hb2⟩ := info_parts bool_info
      have HUP := Lib.hid hu.out
      clear hu
      have hbz : w.heap.size ≤ wr.heap.size := hf.out.size
      go_wp2_with (at_make; refine wpList_make_full (P := Try.prog) _ rfl _ _ 56 rfl w.heap.size 4 ib (.bool false) 1 Try.underlying56 hib hb0 hb1 .i64 .i64 _ _ k rfl rfl rfl rfl (by rw [hb2]; omega) (by unfold maxLen; omega) hbz ?_; intro w4 hown4 hg4)
      rw [made_bools] at hown4
      have hf4 : Fr nob wr w4 := (Fr.refl nob wr).grown hg4 (fun k hk => by cases hk)
      have HQ4 := Lib.hid (hq.out.keep hf4)
      have HF4 := Lib.hid (hf.out.trans hf4 (fun _ _ h => h))
      have HO4 := Lib.hid hown4
      obtain ⟨gt, hgt⟩ : ∃ gt, gt = wr.heap.size := ⟨_, rfl⟩
      rw [← hgt] at HO4 ⊢
      have HT0 := Lib.hid (told_start HUP.out)
      clear hown4 hg4 hf4 hq hf hbz hgt hib hb0 hb1 hb2 hlt hk
      go_loopw [8, 9, 10] (fun nv nowv iv wr => ∃ (i r : Nat) (now : Int) (v1 : Value) (E1 : List Ent) (tl : List Bool), iv = .int .i64 i ∧ i ≤ m + 1 ∧ nv = .int .i64 r ∧ r ≤ k ∧ nowv = .int .i64 now ∧ 0 ≤ now ∧ now ≤ 65536 ∧ Hid (QS wr w.heap.size g w.heap.size v1 E1 (L.drop r)) ∧ Hid (Told k L r tl) ∧ Hid (wr.ownsRow w.heap.size 4 1 (.slice (some ⟨gt, 0, none⟩) k k) k (tl.map Value.bool)) ∧ Hid (Fr nob w wr) ∧ Hid (0 < i → ∀ x ∈ L.drop r, now < x.2) ∧ Hid (i = m + 1 → now = 65536)) (fun _ _ iv _ => m + 1 - (intOf iv).toNat)
      case atStart => exact ⟨0, 0, 0, v1, E1, _, rfl, by omega, rfl, by omega, rfl, by omega, by omega, HQ4, HT0, HO4, HF4, Lib.hid (fun h => absurd h (by omega)), Lib.hid (fun h => by omega)⟩
      case round =>
        clear HQ4 HT0 HO4 HF4
        obtain ⟨i, r, now, v2, E2, tl, rfl, hi, rfl, hr, rfl, hnow0, hnow1, hq, htold, hown, hf, hgt, hlast⟩ := hrel
        by_cases him : i ≤ m
        · go_upto_if 70 with fail
          go_cut [9] (fun nv wc => wc = wr ∧ ∃ nw : Int, nv = .int .i64 nw ∧ now ≤ nw ∧ nw ≤ 65536 ∧ Hid (i = m → nw = 65536))
          case first =>
            by_cases hilt : i < m
            · obtain ⟨bb, bo, rfl, hbb, hbc⟩ := hb.num (i := i) hilt
              have hx := HB8.out i
              obtain ⟨x, hxe⟩ : ∃ x, x = lb.getD i 0 := ⟨_, rfl⟩
              rw [← hxe] at hbc hx
              have hbc' := (hf.out.cell (p := ⟨bb, bo + i, none⟩) hbb (fun h => h)).trans hbc
              have hi0 : (0 : Int) ≤ (i : Int) ∧ (i : Int) < (m : Int) := ⟨by omega, by omega⟩
              have wx : IntKind.i64.wrap x = x := IntWalk.i64_in _ (by omega)
              clear hxe hbc
              go_wp2_with fail
              all_goals
                go_meet
                exact ⟨rfl, _, rfl, by omega, by omega, Lib.hid (fun h => by omega)⟩
            · go_wp2_with fail
              go_meet
              exact ⟨rfl, _, rfl, by omega, by omega, Lib.hid (fun _ => rfl)⟩
          case rest =>
            obtain ⟨rfl, nw, rfl, hnw0, hnw1, hnwl⟩ := hcut
            have hdc := Lib.hid (qdue_any wc w.heap.size g w.heap.size v2 E2 (L.drop r) nw hq.out)
            go_wp2_with fail
            refine hdc.out.mono ?_
            rintro e w5 hd
            rw [duePost] at hd
            obtain ⟨A6, c6, rfl, hown6, v6, E6, hq6, hf2, -⟩ := hd
            obtain ⟨hcut1, hcut2⟩ := due_cut nw (L.drop r)
            have hgd := good_drop HUP.out.1 r
            have hrest := rest_gt (now := nw) _ hgd.1
            have hdle := fun x hx => due_le (L := L.drop r) (now := nw) x hx
            rw [hcut2, List.drop_drop] at hrest hq6
            rw [hcut1] at hdle
            obtain ⟨p, hp⟩ : ∃ p, p = (dueS (L.drop r) nw).length := ⟨_, rfl⟩
            have hown6' : w5.ownsRow wc.heap.size 3 1 (.slice A6 p c6) p (nums .i64 (((L.drop r).take p).map (·.1))) := by
              rw [hp, ← hcut1]
              exact hown6
            rw [← hp] at hrest hq6 hdle ⊢
            have hpl : r + p ≤ L.length := by
              have h1 : (dueS (L.drop r) nw).length ≤ (L.drop r).length := (List.takeWhile_sublist _).length_le
              rw [List.length_drop] at h1
              have := HUP.out.2.1
              omega
            have htown := own_fr hown.out hf2 (fun b hb => by
              obtain ⟨cs, hcs⟩ := own_block hown.out b hb
              exact hq.out.out hcs (by decide) (by decide) (by decide))
            have hf5 := hf.out.newer hf2 (fun i hi => hq.out.ge hi)
            have HDUE := Lib.hid (own_base hown6' hf.out.size)
            have HQ6 := Lib.hid hq6
            have HTO := Lib.hid htown
            have HF5 := Lib.hid hf5
            have HREST := Lib.hid hrest
            have HDLE := Lib.hid hdle
            clear hcut1 hcut2 hgd hrest hdle hp hown6 hown6' hq6 htown hf5 hf2 hdc hown hf hq
            go_wp2_with fail
            go_loopw [8, 13] (fun nv jv wr2 => ∃ (j : Nat) (tl' : List Bool), jv = .int .i64 j ∧ j ≤ p ∧ nv = .int .i64 ((r + j : Nat) : Int) ∧ Hid (Told k L (r + j) tl') ∧ Hid (wr2.ownsRow w.heap.size 4 1 (.slice (some ⟨gt, 0, none⟩) k k) k (tl'.map Value.bool)) ∧ Hid (QS wr2 w.heap.size g w.heap.size v6 E6 (L.drop (r + p))) ∧ Hid (wr2.ownsRow w.heap.size 3 1 (.slice A6 p c6) p (nums .i64 (((L.drop r).take p).map (·.1)))) ∧ Hid (Fr nob w wr2)) (fun _ jv _ => p - (intOf jv).toNat)
            case atStart => exact ⟨0, tl, rfl, by omega, rfl, htold, HTO, HQ6, HDUE, HF5⟩
            case round =>
              clear htold HTO HQ6 HDUE HF5
              obtain ⟨j, tl', rfl, hj, rfl, htd, hto, hq6, hdue, hf5⟩ := hrel
              by_cases hjp : j < p
              · have hxl : r + j < L.length := by omega
                obtain ⟨x, hx⟩ : ∃ x, L[r + j]? = some x := ⟨_, List.getElem?_eq_getElem hxl⟩
                have hxd : (L.drop r)[j]? = some x := by rw [List.getElem?_drop]; exact hx
                have hxt : ((L.drop r).take p)[j]? = some x := by rw [List.getElem?_take_of_lt hjp]; exact hxd
                obtain ⟨y, hy, hxy⟩ := (HUP.out.2.2 x).1 (List.mem_of_getElem? hx)
                have hle := HDLE.out x (List.mem_of_getElem? hxt)
                have hgt2 : 0 < i → now < x.2 := fun h => hgt.out h x (List.mem_of_getElem? hxd)
                have hts := told_step htd.out HUP.out.1 (j := y) (a := la.getD y 0) (by rw [hx, hxy]) hy
                obtain ⟨ab, ao, rfl, hab, hac⟩ := ha.num (i := y) hy
                have hac' := (hf5.out.cell (p := ⟨ab, ao + y, none⟩) hab (fun h => h)).trans hac
                have hay := HA8.out y
                obtain ⟨db, rfl, hdb⟩ := own_addr hdue.out (by omega)
                obtain ⟨db', do', e', _, hdc⟩ := (Rd.of_own hdue.out).num (i := j) hjp
                cases e'
                have hdv : (((L.drop r).take p).map (·.1)).getD j 0 = (y : Int) := by
                  rw [List.getD_eq_getElem?_getD, List.getElem?_map, hxt, hxy]
                  rfl
                rw [hdv, Nat.zero_add] at hdc
                obtain ⟨tb, to', e', _, htc⟩ := (Rd.of_own hto.out).bools (i := y) hy
                cases e'
                rw [hts.1, Nat.zero_add] at htc
                have htz : wr.frozen? ⟨gt, y, none⟩ = false := by
                  obtain ⟨cs, hcs⟩ := own_block hto.out gt rfl
                  exact Blk.frozen hcs y
                obtain ⟨av, hav⟩ : ∃ a, a = la.getD y 0 := ⟨_, rfl⟩
                have hx2 : x.2 = av := by rw [hxy, hav]
                rw [hx2] at hle hgt2
                rw [← hav] at hac' hay
                have hi0 : (0 : Int) ≤ (j : Int) ∧ (j : Int) < (p : Int) := ⟨by omega, by omega⟩
                have hy0 : (0 : Int) ≤ (y : Int) ∧ (y : Int) < (k : Int) := ⟨by omega, by omega⟩
                have wav : IntKind.i64.wrap av = av := IntWalk.i64_in _ (by omega)
                have HTS := Lib.hid hts.2
                have HXY := Lib.hid (show x = ((y : Int), av) by rw [hxy, hav])
                have HX := Lib.hid hx
                have HAV := Lib.hid hav
                clear hx hxd hxt hxy hts hdv hx2 hav hac
                go_upto_region 25 with fail
                go_cut [126] (fun bv wc2 => bv = .bool false ∧ wc2 = wr)
                case first =>
                  have hn1 : decide (nw < av) = false := decide_eq_false (by omega)
                  have hn2 : decide ((k : Int) ≤ (y : Int)) = false := decide_eq_false (by omega)
                  have hn2' : decide (k ≤ y) = false := decide_eq_false (by omega)
                  have hn3 : decide ((y : Int) < 0) = false := decide_eq_false (by omega)
                  by_cases hi1 : 0 < i
                  · have hn4' : decide (0 < i) = true := decide_eq_true hi1
                    have hn4 : decide ((0 : Int) < (i : Int)) = true := decide_eq_true (by omega)
                    have hn5 : decide (av ≤ now) = false := decide_eq_false (by have := hgt2 hi1; omega)
                    go_wp2_with fail
                    go_meet
                    exact ⟨rfl, rfl⟩
                  · obtain rfl : i = 0 := by omega
                    go_wp2_with fail
                    go_meet
                    exact ⟨rfl, rfl⟩
                case rest =>
                  obtain ⟨rfl, rfl⟩ := hcut
                  go_upto_region 27 with fail
                  go_cut [167] (fun bv wc2 => bv = .bool false ∧ ∃ q, wc2 = wc.drewN q)
                  case first =>
                    rcases j with _ | j'
                    · go_wp2_with fail
                      refine wp_region_held_drew (S := fun _ => True) (by kernel_rfl) trivial (fun hHeld => ?_)
                      first
                        | (refine mix_skip 0 rfl (by kernel_rfl) (by kernel_rfl) (by kernel_rfl) (by rfl) (by assumption) (fun _ _ _ h => h) ?_)
                        | (refine mix_pure 0 (v := ?_) rfl (by kernel_rfl) (by kernel_rfl) (by kernel_rfl) (by rfl) (by assumption) (fun _ _ _ h => h) ?_ ?_; rotate_left; · (intro wS hSw; (try dsimp only at hSw); go_simp; try with_reducible rfl))
                      simp only [Act.put, List.setIfInBounds_toArray, List.set_cons_zero, List.set_cons_succ]
                      first
                        | (refine mix_skip 1 rfl (by kernel_rfl) (by kernel_rfl) (by kernel_rfl) (by rfl) (by assumption) (fun _ _ _ h => h) ?_)
                        | (refine mix_pure 1 (v := ?_) rfl (by kernel_rfl) (by kernel_rfl) (by kernel_rfl) (by rfl) (by assumption) (fun _ _ _ h => h) ?_ ?_; rotate_left; · (intro wS hSw; (try dsimp only at hSw); go_simp; try with_reducible rfl))
                      simp only [Act.put, List.setIfInBounds_toArray, List.set_cons_zero, List.set_cons_succ]
                      first
                        | (refine mix_skip 2 rfl (by kernel_rfl) (by kernel_rfl) (by kernel_rfl) (by rfl) (by assumption) (fun _ _ _ h => h) ?_)
                        | (refine mix_pure 2 (v := ?_) rfl (by kernel_rfl) (by kernel_rfl) (by kernel_rfl) (by rfl) (by assumption) (fun _ _ _ h => h) ?_ ?_; rotate_left; · (intro wS hSw; (try dsimp only at hSw); go_simp; try with_reducible rfl))
                      simp only [Act.put, List.setIfInBounds_toArray, List.set_cons_zero, List.set_cons_succ]
                      first
                        | (refine mix_skip 3 rfl (by kernel_rfl) (by kernel_rfl) (by kernel_rfl) (by rfl) (by assumption) (fun _ _ _ h => h) ?_)
                        | (refine mix_pure 3 (v := ?_) rfl (by kernel_rfl) (by kernel_rfl) (by kernel_rfl) (by rfl) (by assumption) (fun _ _ _ h => h) ?_ ?_; rotate_left; · (intro wS hSw; (try dsimp only at hSw); go_simp; try with_reducible rfl))
                      simp only [Act.put, List.setIfInBounds_toArray, List.set_cons_zero, List.set_cons_succ]
                      first
                        | (refine mix_skip 4 rfl (by kernel_rfl) (by kernel_rfl) (by kernel_rfl) (by rfl) (by assumption) (fun _ _ _ h => h) ?_)
                        | (refine mix_pure 4 (v := ?_) rfl (by kernel_rfl) (by kernel_rfl) (by kernel_rfl) (by rfl) (by assumption) (fun _ _ _ h => h) ?_ ?_; rotate_left; · (intro wS hSw; (try dsimp only at hSw); go_simp; try with_reducible rfl))
                      simp only [Act.put, List.setIfInBounds_toArray, List.set_cons_zero, List.set_cons_succ]
                      first
                        | (refine mix_skip 5 rfl (by kernel_rfl) (by kernel_rfl) (by kernel_rfl) (by rfl) (by assumption) (fun _ _ _ h => h) ?_)
                        | (refine mix_pure 5 (v := ?_) rfl (by kernel_rfl) (by kernel_rfl) (by kernel_rfl) (by rfl) (by assumption) (fun _ _ _ h => h) ?_ ?_; rotate_left; · (intro wS hSw; (try dsimp only at hSw); go_simp; try with_reducible rfl))
                      simp only [Act.put, List.setIfInBounds_toArray, List.set_cons_zero, List.set_cons_succ]
                      first
                        | (refine mix_skip 6 rfl (by kernel_rfl) (by kernel_rfl) (by kernel_rfl) (by rfl) (by assumption) (fun _ _ _ h => h) ?_)
                        | (refine mix_pure 6 (v := ?_) rfl (by kernel_rfl) (by kernel_rfl) (by kernel_rfl) (by rfl) (by assumption) (fun _ _ _ h => h) ?_ ?_; rotate_left; · (intro wS hSw; (try dsimp only at hSw); go_simp; try with_reducible rfl))
                      simp only [Act.put, List.setIfInBounds_toArray, List.set_cons_zero, List.set_cons_succ]
                      first
                        | (refine mix_skip 7 rfl (by kernel_rfl) (by kernel_rfl) (by kernel_rfl) (by rfl) (by assumption) (fun _ _ _ h => h) ?_)
                        | (refine mix_pure 7 (v := ?_) rfl (by kernel_rfl) (by kernel_rfl) (by kernel_rfl) (by rfl) (by assumption) (fun _ _ _ h => h) ?_ ?_; rotate_left; · (intro wS hSw; (try dsimp only at hSw); go_simp; try with_reducible rfl))
                      simp only [Act.put, List.setIfInBounds_toArray, List.set_cons_zero, List.set_cons_succ]
                      first
                        | (refine mix_skip 8 rfl (by kernel_rfl) (by kernel_rfl) (by kernel_rfl) (by rfl) (by assumption) (fun _ _ _ h => h) ?_)
                        | (refine mix_pure 8 (v := ?_) rfl (by kernel_rfl) (by kernel_rfl) (by kernel_rfl) (by rfl) (by assumption) (fun _ _ _ h => h) ?_ ?_; rotate_left; · (intro wS hSw; (try dsimp only at hSw); go_simp; try with_reducible rfl))
                      simp only [Act.put, List.setIfInBounds_toArray, List.set_cons_zero, List.set_cons_succ]
                      first
                        | (refine mix_skip 9 rfl (by kernel_rfl) (by kernel_rfl) (by kernel_rfl) (by rfl) (by assumption) (fun _ _ _ h => h) ?_)
                        | (refine mix_pure 9 (v := ?_) rfl (by kernel_rfl) (by kernel_rfl) (by kernel_rfl) (by rfl) (by assumption) (fun _ _ _ h => h) ?_ ?_; rotate_left; · (intro wS hSw; (try dsimp only at hSw); go_simp; try with_reducible rfl))
                      simp only [Act.put, List.setIfInBounds_toArray, List.set_cons_zero, List.set_cons_succ]
                      first
                        | (refine mix_skip 10 rfl (by kernel_rfl) (by kernel_rfl) (by kernel_rfl) (by rfl) (by assumption) (fun _ _ _ h => h) ?_)
                        | (refine mix_pure 10 (v := ?_) rfl (by kernel_rfl) (by kernel_rfl) (by kernel_rfl) (by rfl) (by assumption) (fun _ _ _ h => h) ?_ ?_; rotate_left; · (intro wS hSw; (try dsimp only at hSw); go_simp; try with_reducible rfl))
                      simp only [Act.put, List.setIfInBounds_toArray, List.set_cons_zero, List.set_cons_succ]
                      first
                        | (refine mix_skip 11 rfl (by kernel_rfl) (by kernel_rfl) (by kernel_rfl) (by rfl) (by assumption) (fun _ _ _ h => h) ?_)
                        | (refine mix_pure 11 (v := ?_) rfl (by kernel_rfl) (by kernel_rfl) (by kernel_rfl) (by rfl) (by assumption) (fun _ _ _ h => h) ?_ ?_; rotate_left; · (intro wS hSw; (try dsimp only at hSw); go_simp; try with_reducible rfl))
                      simp only [Act.put, List.setIfInBounds_toArray, List.set_cons_zero, List.set_cons_succ]
                      first
                        | (refine mix_skip 12 rfl (by kernel_rfl) (by kernel_rfl) (by kernel_rfl) (by rfl) (by assumption) (fun _ _ _ h => h) ?_)
                        | (refine mix_pure 12 (v := ?_) rfl (by kernel_rfl) (by kernel_rfl) (by kernel_rfl) (by rfl) (by assumption) (fun _ _ _ h => h) ?_ ?_; rotate_left; · (intro wS hSw; (try dsimp only at hSw); go_simp; try with_reducible rfl))
                      simp only [Act.put, List.setIfInBounds_toArray, List.set_cons_zero, List.set_cons_succ]
                      first
                        | (refine mix_skip 13 rfl (by kernel_rfl) (by kernel_rfl) (by kernel_rfl) (by rfl) (by assumption) (fun _ _ _ h => h) ?_)
                        | (refine mix_pure 13 (v := ?_) rfl (by kernel_rfl) (by kernel_rfl) (by kernel_rfl) (by rfl) (by assumption) (fun _ _ _ h => h) ?_ ?_; rotate_left; · (intro wS hSw; (try dsimp only at hSw); go_simp; try with_reducible rfl))
                      simp only [Act.put, List.setIfInBounds_toArray, List.set_cons_zero, List.set_cons_succ]
                      first
                        | (refine mix_skip 14 rfl (by kernel_rfl) (by kernel_rfl) (by kernel_rfl) (by rfl) (by assumption) (fun _ _ _ h => h) ?_)
                        | (refine mix_pure 14 (v := ?_) rfl (by kernel_rfl) (by kernel_rfl) (by kernel_rfl) (by rfl) (by assumption) (fun _ _ _ h => h) ?_ ?_; rotate_left; · (intro wS hSw; (try dsimp only at hSw); go_simp; try with_reducible rfl))
                      simp only [Act.put, List.setIfInBounds_toArray, List.set_cons_zero, List.set_cons_succ]
                      first
                        | (refine mix_skip 15 rfl (by kernel_rfl) (by kernel_rfl) (by kernel_rfl) (by rfl) (by assumption) (fun _ _ _ h => h) ?_)
                        | (refine mix_pure 15 (v := ?_) rfl (by kernel_rfl) (by kernel_rfl) (by kernel_rfl) (by rfl) (by assumption) (fun _ _ _ h => h) ?_ ?_; rotate_left; · (intro wS hSw; (try dsimp only at hSw); go_simp; try with_reducible rfl))
                      simp only [Act.put, List.setIfInBounds_toArray, List.set_cons_zero, List.set_cons_succ]
                      first
                        | (refine mix_skip 16 rfl (by kernel_rfl) (by kernel_rfl) (by kernel_rfl) (by rfl) (by assumption) (fun _ _ _ h => h) ?_)
                        | (refine mix_pure 16 (v := ?_) rfl (by kernel_rfl) (by kernel_rfl) (by kernel_rfl) (by rfl) (by assumption) (fun _ _ _ h => h) ?_ ?_; rotate_left; · (intro wS hSw; (try dsimp only at hSw); go_simp; try with_reducible rfl))
                      simp only [Act.put, List.setIfInBounds_toArray, List.set_cons_zero, List.set_cons_succ]
                      first
                        | (refine mix_skip 17 rfl (by kernel_rfl) (by kernel_rfl) (by kernel_rfl) (by rfl) (by assumption) (fun _ _ _ h => h) ?_)
                        | (refine mix_pure 17 (v := ?_) rfl (by kernel_rfl) (by kernel_rfl) (by kernel_rfl) (by rfl) (by assumption) (fun _ _ _ h => h) ?_ ?_; rotate_left; · (intro wS hSw; (try dsimp only at hSw); go_simp; try with_reducible rfl))
                      simp only [Act.put, List.setIfInBounds_toArray, List.set_cons_zero, List.set_cons_succ]
                      first
                        | (refine mix_skip 18 rfl (by kernel_rfl) (by kernel_rfl) (by kernel_rfl) (by rfl) (by assumption) (fun _ _ _ h => h) ?_)
                        | (refine mix_pure 18 (v := ?_) rfl (by kernel_rfl) (by kernel_rfl) (by kernel_rfl) (by rfl) (by assumption) (fun _ _ _ h => h) ?_ ?_; rotate_left; · (intro wS hSw; (try dsimp only at hSw); go_simp; try with_reducible rfl))
                      simp only [Act.put, List.setIfInBounds_toArray, List.set_cons_zero, List.set_cons_succ]
                      first
                        | (refine mix_skip 19 rfl (by kernel_rfl) (by kernel_rfl) (by kernel_rfl) (by rfl) (by assumption) (fun _ _ _ h => h) ?_)
                        | (refine mix_pure 19 (v := ?_) rfl (by kernel_rfl) (by kernel_rfl) (by kernel_rfl) (by rfl) (by assumption) (fun _ _ _ h => h) ?_ ?_; rotate_left; · (intro wS hSw; (try dsimp only at hSw); go_simp; try with_reducible rfl))
                      simp only [Act.put, List.setIfInBounds_toArray, List.set_cons_zero, List.set_cons_succ]
                      first
                        | (refine mix_skip 20 rfl (by kernel_rfl) (by kernel_rfl) (by kernel_rfl) (by rfl) (by assumption) (fun _ _ _ h => h) ?_)
                        | (refine mix_pure 20 (v := ?_) rfl (by kernel_rfl) (by kernel_rfl) (by kernel_rfl) (by rfl) (by assumption) (fun _ _ _ h => h) ?_ ?_; rotate_left; · (intro wS hSw; (try dsimp only at hSw); go_simp; try with_reducible rfl))
                      simp only [Act.put, List.setIfInBounds_toArray, List.set_cons_zero, List.set_cons_succ]
                      first
                        | (refine mix_skip 21 rfl (by kernel_rfl) (by kernel_rfl) (by kernel_rfl) (by rfl) (by assumption) (fun _ _ _ h => h) ?_)
                        | (refine mix_pure 21 (v := ?_) rfl (by kernel_rfl) (by kernel_rfl) (by kernel_rfl) (by rfl) (by assumption) (fun _ _ _ h => h) ?_ ?_; rotate_left; · (intro wS hSw; (try dsimp only at hSw); go_simp; try with_reducible rfl))
                      simp only [Act.put, List.setIfInBounds_toArray, List.set_cons_zero, List.set_cons_succ]
                      first
                        | (refine mix_skip 22 rfl (by kernel_rfl) (by kernel_rfl) (by kernel_rfl) (by rfl) (by assumption) (fun _ _ _ h => h) ?_)
                        | (refine mix_pure 22 (v := ?_) rfl (by kernel_rfl) (by kernel_rfl) (by kernel_rfl) (by rfl) (by assumption) (fun _ _ _ h => h) ?_ ?_; rotate_left; · (intro wS hSw; (try dsimp only at hSw); go_simp; try with_reducible rfl))
                      simp only [Act.put, List.setIfInBounds_toArray, List.set_cons_zero, List.set_cons_succ]
                      first
                        | (refine mix_skip 23 rfl (by kernel_rfl) (by kernel_rfl) (by kernel_rfl) (by rfl) (by assumption) (fun _ _ _ h => h) ?_)
                        | (refine mix_pure 23 (v := ?_) rfl (by kernel_rfl) (by kernel_rfl) (by kernel_rfl) (by rfl) (by assumption) (fun _ _ _ h => h) ?_ ?_; rotate_left; · (intro wS hSw; (try dsimp only at hSw); go_simp; try with_reducible rfl))
                      simp only [Act.put, List.setIfInBounds_toArray, List.set_cons_zero, List.set_cons_succ]
                      first
                        | (refine mix_skip 24 rfl (by kernel_rfl) (by kernel_rfl) (by kernel_rfl) (by rfl) (by assumption) (fun _ _ _ h => h) ?_)
                        | (refine mix_pure 24 (v := ?_) rfl (by kernel_rfl) (by kernel_rfl) (by kernel_rfl) (by rfl) (by assumption) (fun _ _ _ h => h) ?_ ?_; rotate_left; · (intro wS hSw; (try dsimp only at hSw); go_simp; try with_reducible rfl))
                      simp only [Act.put, List.setIfInBounds_toArray, List.set_cons_zero, List.set_cons_succ]
                      first
                        | (refine mix_skip 25 rfl (by kernel_rfl) (by kernel_rfl) (by kernel_rfl) (by rfl) (by assumption) (fun _ _ _ h => h) ?_)
                        | (refine mix_pure 25 (v := ?_) rfl (by kernel_rfl) (by kernel_rfl) (by kernel_rfl) (by rfl) (by assumption) (fun _ _ _ h => h) ?_ ?_; rotate_left; · (intro wS hSw; (try dsimp only at hSw); go_simp; try with_reducible rfl))
                      simp only [Act.put, List.setIfInBounds_toArray, List.set_cons_zero, List.set_cons_succ]
                      first
                        | (refine mix_skip 26 rfl (by kernel_rfl) (by kernel_rfl) (by kernel_rfl) (by rfl) (by assumption) (fun _ _ _ h => h) ?_)
                        | (refine mix_pure 26 (v := ?_) rfl (by kernel_rfl) (by kernel_rfl) (by kernel_rfl) (by rfl) (by assumption) (fun _ _ _ h => h) ?_ ?_; rotate_left; · (intro wS hSw; (try dsimp only at hSw); go_simp; try with_reducible rfl))
                      simp only [Act.put, List.setIfInBounds_toArray, List.set_cons_zero, List.set_cons_succ]
                      first
                        | (refine mix_skip 27 rfl (by kernel_rfl) (by kernel_rfl) (by kernel_rfl) (by rfl) (by assumption) (fun _ _ _ h => h) ?_)
                        | (refine mix_pure 27 (v := ?_) rfl (by kernel_rfl) (by kernel_rfl) (by kernel_rfl) (by rfl) (by assumption) (fun _ _ _ h => h) ?_ ?_; rotate_left; · (intro wS hSw; (try dsimp only at hSw); go_simp; try with_reducible rfl))
                      simp only [Act.put, List.setIfInBounds_toArray, List.set_cons_zero, List.set_cons_succ]
                      first
                        | (refine mix_skip 28 rfl (by kernel_rfl) (by kernel_rfl) (by kernel_rfl) (by rfl) (by assumption) (fun _ _ _ h => h) ?_)
                        | (refine mix_pure 28 (v := ?_) rfl (by kernel_rfl) (by kernel_rfl) (by kernel_rfl) (by rfl) (by assumption) (fun _ _ _ h => h) ?_ ?_; rotate_left; · (intro wS hSw; (try dsimp only at hSw); go_simp; try with_reducible rfl))
                      simp only [Act.put, List.setIfInBounds_toArray, List.set_cons_zero, List.set_cons_succ]
                      first
                        | (refine mix_skip 29 rfl (by kernel_rfl) (by kernel_rfl) (by kernel_rfl) (by rfl) (by assumption) (fun _ _ _ h => h) ?_)
                        | (refine mix_pure 29 (v := ?_) rfl (by kernel_rfl) (by kernel_rfl) (by kernel_rfl) (by rfl) (by assumption) (fun _ _ _ h => h) ?_ ?_; rotate_left; · (intro wS hSw; (try dsimp only at hSw); go_simp; try with_reducible rfl))
                      simp only [Act.put, List.setIfInBounds_toArray, List.set_cons_zero, List.set_cons_succ]
                      first
                        | (refine mix_skip 30 rfl (by kernel_rfl) (by kernel_rfl) (by kernel_rfl) (by rfl) (by assumption) (fun _ _ _ h => h) ?_)
                        | (refine mix_pure 30 (v := ?_) rfl (by kernel_rfl) (by kernel_rfl) (by kernel_rfl) (by rfl) (by assumption) (fun _ _ _ h => h) ?_ ?_; rotate_left; · (intro wS hSw; (try dsimp only at hSw); go_simp; try with_reducible rfl))
                      simp only [Act.put, List.setIfInBounds_toArray, List.set_cons_zero, List.set_cons_succ]
                      first
                        | (refine mix_skip 31 rfl (by kernel_rfl) (by kernel_rfl) (by kernel_rfl) (by rfl) (by assumption) (fun _ _ _ h => h) ?_)
                        | (refine mix_pure 31 (v := ?_) rfl (by kernel_rfl) (by kernel_rfl) (by kernel_rfl) (by rfl) (by assumption) (fun _ _ _ h => h) ?_ ?_; rotate_left; · (intro wS hSw; (try dsimp only at hSw); go_simp; try with_reducible rfl))
                      simp only [Act.put, List.setIfInBounds_toArray, List.set_cons_zero, List.set_cons_succ]
                      first
                        | (refine mix_skip 32 rfl (by kernel_rfl) (by kernel_rfl) (by kernel_rfl) (by rfl) (by assumption) (fun _ _ _ h => h) ?_)
                        | (refine mix_pure 32 (v := ?_) rfl (by kernel_rfl) (by kernel_rfl) (by kernel_rfl) (by rfl) (by assumption) (fun _ _ _ h => h) ?_ ?_; rotate_left; · (intro wS hSw; (try dsimp only at hSw); go_simp; try with_reducible rfl))
                      simp only [Act.put, List.setIfInBounds_toArray, List.set_cons_zero, List.set_cons_succ]
                      first
                        | (refine mix_skip 33 rfl (by kernel_rfl) (by kernel_rfl) (by kernel_rfl) (by rfl) (by assumption) (fun _ _ _ h => h) ?_)
                        | (refine mix_pure 33 (v := ?_) rfl (by kernel_rfl) (by kernel_rfl) (by kernel_rfl) (by rfl) (by assumption) (fun _ _ _ h => h) ?_ ?_; rotate_left; · (intro wS hSw; (try dsimp only at hSw); go_simp; try with_reducible rfl))
                      simp only [Act.put, List.setIfInBounds_toArray, List.set_cons_zero, List.set_cons_succ]
                      first
                        | (refine mix_skip 34 rfl (by kernel_rfl) (by kernel_rfl) (by kernel_rfl) (by rfl) (by assumption) (fun _ _ _ h => h) ?_)
                        | (refine mix_pure 34 (v := ?_) rfl (by kernel_rfl) (by kernel_rfl) (by kernel_rfl) (by rfl) (by assumption) (fun _ _ _ h => h) ?_ ?_; rotate_left; · (intro wS hSw; (try dsimp only at hSw); go_simp; try with_reducible rfl))
                      simp only [Act.put, List.setIfInBounds_toArray, List.set_cons_zero, List.set_cons_succ]
                      first
                        | (refine mix_skip 35 rfl (by kernel_rfl) (by kernel_rfl) (by kernel_rfl) (by rfl) (by assumption) (fun _ _ _ h => h) ?_)
                        | (refine mix_pure 35 (v := ?_) rfl (by kernel_rfl) (by kernel_rfl) (by kernel_rfl) (by rfl) (by assumption) (fun _ _ _ h => h) ?_ ?_; rotate_left; · (intro wS hSw; (try dsimp only at hSw); go_simp; try with_reducible rfl))
                      simp only [Act.put, List.setIfInBounds_toArray, List.set_cons_zero, List.set_cons_succ]
                      first
                        | (refine mix_skip 36 rfl (by kernel_rfl) (by kernel_rfl) (by kernel_rfl) (by rfl) (by assumption) (fun _ _ _ h => h) ?_)
                        | (refine mix_pure 36 (v := ?_) rfl (by kernel_rfl) (by kernel_rfl) (by kernel_rfl) (by rfl) (by assumption) (fun _ _ _ h => h) ?_ ?_; rotate_left; · (intro wS hSw; (try dsimp only at hSw); go_simp; try with_reducible rfl))
                      simp only [Act.put, List.setIfInBounds_toArray, List.set_cons_zero, List.set_cons_succ]
                      first
                        | (refine mix_skip 37 rfl (by kernel_rfl) (by kernel_rfl) (by kernel_rfl) (by rfl) (by assumption) (fun _ _ _ h => h) ?_)
                        | (refine mix_pure 37 (v := ?_) rfl (by kernel_rfl) (by kernel_rfl) (by kernel_rfl) (by rfl) (by assumption) (fun _ _ _ h => h) ?_ ?_; rotate_left; · (intro wS hSw; (try dsimp only at hSw); go_simp; try with_reducible rfl))
                      simp only [Act.put, List.setIfInBounds_toArray, List.set_cons_zero, List.set_cons_succ]
                      first
                        | (refine mix_skip 38 rfl (by kernel_rfl) (by kernel_rfl) (by kernel_rfl) (by rfl) (by assumption) (fun _ _ _ h => h) ?_)
                        | (refine mix_pure 38 (v := ?_) rfl (by kernel_rfl) (by kernel_rfl) (by kernel_rfl) (by rfl) (by assumption) (fun _ _ _ h => h) ?_ ?_; rotate_left; · (intro wS hSw; (try dsimp only at hSw); go_simp; try with_reducible rfl))
                      simp only [Act.put, List.setIfInBounds_toArray, List.set_cons_zero, List.set_cons_succ]
                      first
                        | (refine mix_skip 39 rfl (by kernel_rfl) (by kernel_rfl) (by kernel_rfl) (by rfl) (by assumption) (fun _ _ _ h => h) ?_)
                        | (refine mix_pure 39 (v := ?_) rfl (by kernel_rfl) (by kernel_rfl) (by kernel_rfl) (by rfl) (by assumption) (fun _ _ _ h => h) ?_ ?_; rotate_left; · (intro wS hSw; (try dsimp only at hSw); go_simp; try with_reducible rfl))
                      simp only [Act.put, List.setIfInBounds_toArray, List.set_cons_zero, List.set_cons_succ]
                      first
                        | (refine mix_skip 40 rfl (by kernel_rfl) (by kernel_rfl) (by kernel_rfl) (by rfl) (by assumption) (fun _ _ _ h => h) ?_)
                        | (refine mix_pure 40 (v := ?_) rfl (by kernel_rfl) (by kernel_rfl) (by kernel_rfl) (by rfl) (by assumption) (fun _ _ _ h => h) ?_ ?_; rotate_left; · (intro wS hSw; (try dsimp only at hSw); go_simp; try with_reducible rfl))
                      simp only [Act.put, List.setIfInBounds_toArray, List.set_cons_zero, List.set_cons_succ]
                      refine wpAnyH_done (by kernel_rfl) ?_ _
                      go_wp2_with fail
                      go_meet
                      exact ⟨rfl, 1, rfl⟩
                    · have hxl' : r + j' < L.length := by omega
                      obtain ⟨x', hx'⟩ : ∃ x', L[r + j']? = some x' := ⟨_, List.getElem?_eq_getElem hxl'⟩
                      obtain ⟨y', hy', hxy'⟩ := (HUP.out.2.2 x').1 (List.mem_of_getElem? hx')
                      have hlt' : ltK x' x := by
                        have h1 := List.pairwise_iff_getElem.1 HUP.out.1.1 (r + j') (r + (j' + 1)) hxl' hxl (by omega)
                        have e1 : L[r + j'] = x' := by rw [List.getElem?_eq_getElem hxl'] at hx'; injection hx'
                        have e2 : L[r + (j' + 1)] = x := by have := HX.out; rw [List.getElem?_eq_getElem hxl] at this; injection this
                        rwa [e1, e2] at h1
                      obtain ⟨av', hav'⟩ : ∃ a, a = la.getD y' 0 := ⟨_, rfl⟩
                      rw [hxy', ← hav', HXY.out] at hlt'
                      have hlt2 : av' < av ∨ (av' = av ∧ (y' : Int) < (y : Int)) := hlt'
                      obtain ⟨ab', ao', e', hab', hac2⟩ := ha.num (i := y') hy'
                      cases e'
                      have hac3 := (hf5.out.cell (p := ⟨ab, ao + y', none⟩) hab (fun h => h)).trans hac2
                      rw [← hav'] at hac3
                      obtain ⟨db', do', e', _, hdc2⟩ := (Rd.of_own hdue.out).num (i := j') (by omega)
                      cases e'
                      have hdv' : (((L.drop r).take p).map (·.1)).getD j' 0 = (y' : Int) := by
                        rw [List.getD_eq_getElem?_getD, List.getElem?_map, List.getElem?_take_of_lt (by omega), List.getElem?_drop, hx', hxy']
                        rfl
                      rw [hdv', Nat.zero_add] at hdc2
                      have hi1 : (0 : Int) ≤ (j' : Int) ∧ (j' : Int) < (p : Int) := ⟨by omega, by omega⟩
                      have hy1 : (0 : Int) ≤ (y' : Int) ∧ (y' : Int) < (k : Int) := ⟨by omega, by omega⟩
                      have hn1 : decide (av < av') = false := decide_eq_false (by omega)
                      have hp0 : decide ((0 : Int) < ((j' + 1 : Nat) : Int)) = true := decide_eq_true (by omega)
                      have hp1 : (0 : Int) < (j' : Int) + 1 := by omega
                      have wj : IntKind.i64.wrap (j' : Int) = (j' : Int) := IntWalk.i64_in _ (by have := HUP.out.2.1; omega)
                      have heq : (av' == av) = false ∨ ((av' == av) = true ∧ decide (y < y') = false ∧ decide ((y : Int) < (y' : Int)) = false) := by
                        rcases hlt2 with h | ⟨h, h'⟩
                        · exact .inl (by rw [beq_eq_false_iff_ne]; omega)
                        · exact .inr ⟨by rw [beq_iff_eq]; exact h, decide_eq_false (by omega), decide_eq_false (by omega)⟩
                      clear hx' hxy' hlt' hav' hlt2 hac2 hdv'
                      rcases heq with heq | ⟨heq, hn2, hn3⟩
                      all_goals
                        go_wp2_with fail
                        refine wp_region_held_drew (S := fun w' => w'.cell? ⟨db, j', none⟩ = some (.int .i64 (y' : Int)) ∧ w'.cell? ⟨ab, ao + y, none⟩ = some (.int .u16 av) ∧ w'.cell? ⟨ab, ao + y', none⟩ = some (.int .u16 av')) (by kernel_rfl) ⟨hdc2, hac', hac3⟩ (fun hHeld => ?_)
                        first
                          | (refine mix_skip 0 rfl (by kernel_rfl) (by kernel_rfl) (by kernel_rfl) (by rfl) (by assumption) (fun _ _ _ h => h) ?_)
                          | (refine mix_pure 0 (v := ?_) rfl (by kernel_rfl) (by kernel_rfl) (by kernel_rfl) (by rfl) (by assumption) (fun _ _ _ h => h) ?_ ?_; rotate_left; · (intro wS hSw; (try dsimp only at hSw); go_simp; try with_reducible rfl))
                        simp only [Act.put, List.setIfInBounds_toArray, List.set_cons_zero, List.set_cons_succ]
                        first
                          | (refine mix_skip 1 rfl (by kernel_rfl) (by kernel_rfl) (by kernel_rfl) (by rfl) (by assumption) (fun _ _ _ h => h) ?_)
                          | (refine mix_pure 1 (v := ?_) rfl (by kernel_rfl) (by kernel_rfl) (by kernel_rfl) (by rfl) (by assumption) (fun _ _ _ h => h) ?_ ?_; rotate_left; · (intro wS hSw; (try dsimp only at hSw); go_simp; try with_reducible rfl))
                        simp only [Act.put, List.setIfInBounds_toArray, List.set_cons_zero, List.set_cons_succ]
                        first
                          | (refine mix_skip 2 rfl (by kernel_rfl) (by kernel_rfl) (by kernel_rfl) (by rfl) (by assumption) (fun _ _ _ h => h) ?_)
                          | (refine mix_pure 2 (v := ?_) rfl (by kernel_rfl) (by kernel_rfl) (by kernel_rfl) (by rfl) (by assumption) (fun _ _ _ h => h) ?_ ?_; rotate_left; · (intro wS hSw; (try dsimp only at hSw); go_simp; try with_reducible rfl))
                        simp only [Act.put, List.setIfInBounds_toArray, List.set_cons_zero, List.set_cons_succ]
                        first
                          | (refine mix_skip 3 rfl (by kernel_rfl) (by kernel_rfl) (by kernel_rfl) (by rfl) (by assumption) (fun _ _ _ h => h) ?_)
                          | (refine mix_pure 3 (v := ?_) rfl (by kernel_rfl) (by kernel_rfl) (by kernel_rfl) (by rfl) (by assumption) (fun _ _ _ h => h) ?_ ?_; rotate_left; · (intro wS hSw; (try dsimp only at hSw); go_simp; try with_reducible rfl))
                        simp only [Act.put, List.setIfInBounds_toArray, List.set_cons_zero, List.set_cons_succ]
                        first
                          | (refine mix_skip 4 rfl (by kernel_rfl) (by kernel_rfl) (by kernel_rfl) (by rfl) (by assumption) (fun _ _ _ h => h) ?_)
                          | (refine mix_pure 4 (v := ?_) rfl (by kernel_rfl) (by kernel_rfl) (by kernel_rfl) (by rfl) (by assumption) (fun _ _ _ h => h) ?_ ?_; rotate_left; · (intro wS hSw; (try dsimp only at hSw); go_simp; try with_reducible rfl))
                        simp only [Act.put, List.setIfInBounds_toArray, List.set_cons_zero, List.set_cons_succ]
                        first
                          | (refine mix_skip 5 rfl (by kernel_rfl) (by kernel_rfl) (by kernel_rfl) (by rfl) (by assumption) (fun _ _ _ h => h) ?_)
                          | (refine mix_pure 5 (v := ?_) rfl (by kernel_rfl) (by kernel_rfl) (by kernel_rfl) (by rfl) (by assumption) (fun _ _ _ h => h) ?_ ?_; rotate_left; · (intro wS hSw; (try dsimp only at hSw); go_simp; try with_reducible rfl))
                        simp only [Act.put, List.setIfInBounds_toArray, List.set_cons_zero, List.set_cons_succ]
                        first
                          | (refine mix_skip 6 rfl (by kernel_rfl) (by kernel_rfl) (by kernel_rfl) (by rfl) (by assumption) (fun _ _ _ h => h) ?_)
                          | (refine mix_pure 6 (v := ?_) rfl (by kernel_rfl) (by kernel_rfl) (by kernel_rfl) (by rfl) (by assumption) (fun _ _ _ h => h) ?_ ?_; rotate_left; · (intro wS hSw; (try dsimp only at hSw); go_simp; try with_reducible rfl))
                        simp only [Act.put, List.setIfInBounds_toArray, List.set_cons_zero, List.set_cons_succ]
                        first
                          | (refine mix_skip 7 rfl (by kernel_rfl) (by kernel_rfl) (by kernel_rfl) (by rfl) (by assumption) (fun _ _ _ h => h) ?_)
                          | (refine mix_pure 7 (v := ?_) rfl (by kernel_rfl) (by kernel_rfl) (by kernel_rfl) (by rfl) (by assumption) (fun _ _ _ h => h) ?_ ?_; rotate_left; · (intro wS hSw; (try dsimp only at hSw); go_simp; try with_reducible rfl))
                        simp only [Act.put, List.setIfInBounds_toArray, List.set_cons_zero, List.set_cons_succ]
                        first
                          | (refine mix_skip 8 rfl (by kernel_rfl) (by kernel_rfl) (by kernel_rfl) (by rfl) (by assumption) (fun _ _ _ h => h) ?_)
                          | (refine mix_pure 8 (v := ?_) rfl (by kernel_rfl) (by kernel_rfl) (by kernel_rfl) (by rfl) (by assumption) (fun _ _ _ h => h) ?_ ?_; rotate_left; · (intro wS hSw; (try dsimp only at hSw); go_simp; try with_reducible rfl))
                        simp only [Act.put, List.setIfInBounds_toArray, List.set_cons_zero, List.set_cons_succ]
                        first
                          | (refine mix_skip 9 rfl (by kernel_rfl) (by kernel_rfl) (by kernel_rfl) (by rfl) (by assumption) (fun _ _ _ h => h) ?_)
                          | (refine mix_pure 9 (v := ?_) rfl (by kernel_rfl) (by kernel_rfl) (by kernel_rfl) (by rfl) (by assumption) (fun _ _ _ h => h) ?_ ?_; rotate_left; · (intro wS hSw; (try dsimp only at hSw); go_simp; try with_reducible rfl))
                        simp only [Act.put, List.setIfInBounds_toArray, List.set_cons_zero, List.set_cons_succ]
                        first
                          | (refine mix_skip 10 rfl (by kernel_rfl) (by kernel_rfl) (by kernel_rfl) (by rfl) (by assumption) (fun _ _ _ h => h) ?_)
                          | (refine mix_pure 10 (v := ?_) rfl (by kernel_rfl) (by kernel_rfl) (by kernel_rfl) (by rfl) (by assumption) (fun _ _ _ h => h) ?_ ?_; rotate_left; · (intro wS hSw; (try dsimp only at hSw); go_simp; try with_reducible rfl))
                        simp only [Act.put, List.setIfInBounds_toArray, List.set_cons_zero, List.set_cons_succ]
                        first
                          | (refine mix_skip 11 rfl (by kernel_rfl) (by kernel_rfl) (by kernel_rfl) (by rfl) (by assumption) (fun _ _ _ h => h) ?_)
                          | (refine mix_pure 11 (v := ?_) rfl (by kernel_rfl) (by kernel_rfl) (by kernel_rfl) (by rfl) (by assumption) (fun _ _ _ h => h) ?_ ?_; rotate_left; · (intro wS hSw; (try dsimp only at hSw); go_simp; try with_reducible rfl))
                        simp only [Act.put, List.setIfInBounds_toArray, List.set_cons_zero, List.set_cons_succ]
                        first
                          | (refine mix_skip 12 rfl (by kernel_rfl) (by kernel_rfl) (by kernel_rfl) (by rfl) (by assumption) (fun _ _ _ h => h) ?_)
                          | (refine mix_pure 12 (v := ?_) rfl (by kernel_rfl) (by kernel_rfl) (by kernel_rfl) (by rfl) (by assumption) (fun _ _ _ h => h) ?_ ?_; rotate_left; · (intro wS hSw; (try dsimp only at hSw); go_simp; try with_reducible rfl))
                        simp only [Act.put, List.setIfInBounds_toArray, List.set_cons_zero, List.set_cons_succ]
                        first
                          | (refine mix_skip 13 rfl (by kernel_rfl) (by kernel_rfl) (by kernel_rfl) (by rfl) (by assumption) (fun _ _ _ h => h) ?_)
                          | (refine mix_pure 13 (v := ?_) rfl (by kernel_rfl) (by kernel_rfl) (by kernel_rfl) (by rfl) (by assumption) (fun _ _ _ h => h) ?_ ?_; rotate_left; · (intro wS hSw; (try dsimp only at hSw); go_simp; try with_reducible rfl))
                        simp only [Act.put, List.setIfInBounds_toArray, List.set_cons_zero, List.set_cons_succ]
                        first
                          | (refine mix_skip 14 rfl (by kernel_rfl) (by kernel_rfl) (by kernel_rfl) (by rfl) (by assumption) (fun _ _ _ h => h) ?_)
                          | (refine mix_pure 14 (v := ?_) rfl (by kernel_rfl) (by kernel_rfl) (by kernel_rfl) (by rfl) (by assumption) (fun _ _ _ h => h) ?_ ?_; rotate_left; · (intro wS hSw; (try dsimp only at hSw); go_simp; try with_reducible rfl))
                        simp only [Act.put, List.setIfInBounds_toArray, List.set_cons_zero, List.set_cons_succ]
                        first
                          | (refine mix_skip 15 rfl (by kernel_rfl) (by kernel_rfl) (by kernel_rfl) (by rfl) (by assumption) (fun _ _ _ h => h) ?_)
                          | (refine mix_pure 15 (v := ?_) rfl (by kernel_rfl) (by kernel_rfl) (by kernel_rfl) (by rfl) (by assumption) (fun _ _ _ h => h) ?_ ?_; rotate_left; · (intro wS hSw; (try dsimp only at hSw); go_simp; try with_reducible rfl))
                        simp only [Act.put, List.setIfInBounds_toArray, List.set_cons_zero, List.set_cons_succ]
                        first
                          | (refine mix_skip 16 rfl (by kernel_rfl) (by kernel_rfl) (by kernel_rfl) (by rfl) (by assumption) (fun _ _ _ h => h) ?_)
                          | (refine mix_pure 16 (v := ?_) rfl (by kernel_rfl) (by kernel_rfl) (by kernel_rfl) (by rfl) (by assumption) (fun _ _ _ h => h) ?_ ?_; rotate_left; · (intro wS hSw; (try dsimp only at hSw); go_simp; try with_reducible rfl))
                        simp only [Act.put, List.setIfInBounds_toArray, List.set_cons_zero, List.set_cons_succ]
                        first
                          | (refine mix_skip 17 rfl (by kernel_rfl) (by kernel_rfl) (by kernel_rfl) (by rfl) (by assumption) (fun _ _ _ h => h) ?_)
                          | (refine mix_pure 17 (v := ?_) rfl (by kernel_rfl) (by kernel_rfl) (by kernel_rfl) (by rfl) (by assumption) (fun _ _ _ h => h) ?_ ?_; rotate_left; · (intro wS hSw; (try dsimp only at hSw); go_simp; try with_reducible rfl))
                        simp only [Act.put, List.setIfInBounds_toArray, List.set_cons_zero, List.set_cons_succ]
                        first
                          | (refine mix_skip 18 rfl (by kernel_rfl) (by kernel_rfl) (by kernel_rfl) (by rfl) (by assumption) (fun _ _ _ h => h) ?_)
                          | (refine mix_pure 18 (v := ?_) rfl (by kernel_rfl) (by kernel_rfl) (by kernel_rfl) (by rfl) (by assumption) (fun _ _ _ h => h) ?_ ?_; rotate_left; · (intro wS hSw; (try dsimp only at hSw); go_simp; try with_reducible rfl))
                        simp only [Act.put, List.setIfInBounds_toArray, List.set_cons_zero, List.set_cons_succ]
                        first
                          | (refine mix_skip 19 rfl (by kernel_rfl) (by kernel_rfl) (by kernel_rfl) (by rfl) (by assumption) (fun _ _ _ h => h) ?_)
                          | (refine mix_pure 19 (v := ?_) rfl (by kernel_rfl) (by kernel_rfl) (by kernel_rfl) (by rfl) (by assumption) (fun _ _ _ h => h) ?_ ?_; rotate_left; · (intro wS hSw; (try dsimp only at hSw); go_simp; try with_reducible rfl))
                        simp only [Act.put, List.setIfInBounds_toArray, List.set_cons_zero, List.set_cons_succ]
                        first
                          | (refine mix_skip 20 rfl (by kernel_rfl) (by kernel_rfl) (by kernel_rfl) (by rfl) (by assumption) (fun _ _ _ h => h) ?_)
                          | (refine mix_pure 20 (v := ?_) rfl (by kernel_rfl) (by kernel_rfl) (by kernel_rfl) (by rfl) (by assumption) (fun _ _ _ h => h) ?_ ?_; rotate_left; · (intro wS hSw; (try dsimp only at hSw); go_simp; try with_reducible rfl))
                        simp only [Act.put, List.setIfInBounds_toArray, List.set_cons_zero, List.set_cons_succ]
                        first
                          | (refine mix_skip 21 rfl (by kernel_rfl) (by kernel_rfl) (by kernel_rfl) (by rfl) (by assumption) (fun _ _ _ h => h) ?_)
                          | (refine mix_pure 21 (v := ?_) rfl (by kernel_rfl) (by kernel_rfl) (by kernel_rfl) (by rfl) (by assumption) (fun _ _ _ h => h) ?_ ?_; rotate_left; · (intro wS hSw; (try dsimp only at hSw); go_simp; try with_reducible rfl))
                        simp only [Act.put, List.setIfInBounds_toArray, List.set_cons_zero, List.set_cons_succ]
                        first
                          | (refine mix_skip 22 rfl (by kernel_rfl) (by kernel_rfl) (by kernel_rfl) (by rfl) (by assumption) (fun _ _ _ h => h) ?_)
                          | (refine mix_pure 22 (v := ?_) rfl (by kernel_rfl) (by kernel_rfl) (by kernel_rfl) (by rfl) (by assumption) (fun _ _ _ h => h) ?_ ?_; rotate_left; · (intro wS hSw; (try dsimp only at hSw); go_simp; try with_reducible rfl))
                        simp only [Act.put, List.setIfInBounds_toArray, List.set_cons_zero, List.set_cons_succ]
                        first
                          | (refine mix_skip 23 rfl (by kernel_rfl) (by kernel_rfl) (by kernel_rfl) (by rfl) (by assumption) (fun _ _ _ h => h) ?_)
                          | (refine mix_pure 23 (v := ?_) rfl (by kernel_rfl) (by kernel_rfl) (by kernel_rfl) (by rfl) (by assumption) (fun _ _ _ h => h) ?_ ?_; rotate_left; · (intro wS hSw; (try dsimp only at hSw); go_simp; try with_reducible rfl))
                        simp only [Act.put, List.setIfInBounds_toArray, List.set_cons_zero, List.set_cons_succ]
                        first
                          | (refine mix_skip 24 rfl (by kernel_rfl) (by kernel_rfl) (by kernel_rfl) (by rfl) (by assumption) (fun _ _ _ h => h) ?_)
                          | (refine mix_pure 24 (v := ?_) rfl (by kernel_rfl) (by kernel_rfl) (by kernel_rfl) (by rfl) (by assumption) (fun _ _ _ h => h) ?_ ?_; rotate_left; · (intro wS hSw; (try dsimp only at hSw); go_simp; try with_reducible rfl))
                        simp only [Act.put, List.setIfInBounds_toArray, List.set_cons_zero, List.set_cons_succ]
                        first
                          | (refine mix_skip 25 rfl (by kernel_rfl) (by kernel_rfl) (by kernel_rfl) (by rfl) (by assumption) (fun _ _ _ h => h) ?_)
                          | (refine mix_pure 25 (v := ?_) rfl (by kernel_rfl) (by kernel_rfl) (by kernel_rfl) (by rfl) (by assumption) (fun _ _ _ h => h) ?_ ?_; rotate_left; · (intro wS hSw; (try dsimp only at hSw); go_simp; try with_reducible rfl))
                        simp only [Act.put, List.setIfInBounds_toArray, List.set_cons_zero, List.set_cons_succ]
                        first
                          | (refine mix_skip 26 rfl (by kernel_rfl) (by kernel_rfl) (by kernel_rfl) (by rfl) (by assumption) (fun _ _ _ h => h) ?_)
                          | (refine mix_pure 26 (v := ?_) rfl (by kernel_rfl) (by kernel_rfl) (by kernel_rfl) (by rfl) (by assumption) (fun _ _ _ h => h) ?_ ?_; rotate_left; · (intro wS hSw; (try dsimp only at hSw); go_simp; try with_reducible rfl))
                        simp only [Act.put, List.setIfInBounds_toArray, List.set_cons_zero, List.set_cons_succ]
                        first
                          | (refine mix_skip 27 rfl (by kernel_rfl) (by kernel_rfl) (by kernel_rfl) (by rfl) (by assumption) (fun _ _ _ h => h) ?_)
                          | (refine mix_pure 27 (v := ?_) rfl (by kernel_rfl) (by kernel_rfl) (by kernel_rfl) (by rfl) (by assumption) (fun _ _ _ h => h) ?_ ?_; rotate_left; · (intro wS hSw; (try dsimp only at hSw); go_simp; try with_reducible rfl))
                        simp only [Act.put, List.setIfInBounds_toArray, List.set_cons_zero, List.set_cons_succ]
                        first
                          | (refine mix_skip 28 rfl (by kernel_rfl) (by kernel_rfl) (by kernel_rfl) (by rfl) (by assumption) (fun _ _ _ h => h) ?_)
                          | (refine mix_pure 28 (v := ?_) rfl (by kernel_rfl) (by kernel_rfl) (by kernel_rfl) (by rfl) (by assumption) (fun _ _ _ h => h) ?_ ?_; rotate_left; · (intro wS hSw; (try dsimp only at hSw); go_simp; try with_reducible rfl))
                        simp only [Act.put, List.setIfInBounds_toArray, List.set_cons_zero, List.set_cons_succ]
                        first
                          | (refine mix_skip 29 rfl (by kernel_rfl) (by kernel_rfl) (by kernel_rfl) (by rfl) (by assumption) (fun _ _ _ h => h) ?_)
                          | (refine mix_pure 29 (v := ?_) rfl (by kernel_rfl) (by kernel_rfl) (by kernel_rfl) (by rfl) (by assumption) (fun _ _ _ h => h) ?_ ?_; rotate_left; · (intro wS hSw; (try dsimp only at hSw); go_simp; try with_reducible rfl))
                        simp only [Act.put, List.setIfInBounds_toArray, List.set_cons_zero, List.set_cons_succ]
                        first
                          | (refine mix_skip 30 rfl (by kernel_rfl) (by kernel_rfl) (by kernel_rfl) (by rfl) (by assumption) (fun _ _ _ h => h) ?_)
                          | (refine mix_pure 30 (v := ?_) rfl (by kernel_rfl) (by kernel_rfl) (by kernel_rfl) (by rfl) (by assumption) (fun _ _ _ h => h) ?_ ?_; rotate_left; · (intro wS hSw; (try dsimp only at hSw); go_simp; try with_reducible rfl))
                        simp only [Act.put, List.setIfInBounds_toArray, List.set_cons_zero, List.set_cons_succ]
                        first
                          | (refine mix_skip 31 rfl (by kernel_rfl) (by kernel_rfl) (by kernel_rfl) (by rfl) (by assumption) (fun _ _ _ h => h) ?_)
                          | (refine mix_pure 31 (v := ?_) rfl (by kernel_rfl) (by kernel_rfl) (by kernel_rfl) (by rfl) (by assumption) (fun _ _ _ h => h) ?_ ?_; rotate_left; · (intro wS hSw; (try dsimp only at hSw); go_simp; try with_reducible rfl))
                        simp only [Act.put, List.setIfInBounds_toArray, List.set_cons_zero, List.set_cons_succ]
                        first
                          | (refine mix_skip 32 rfl (by kernel_rfl) (by kernel_rfl) (by kernel_rfl) (by rfl) (by assumption) (fun _ _ _ h => h) ?_)
                          | (refine mix_pure 32 (v := ?_) rfl (by kernel_rfl) (by kernel_rfl) (by kernel_rfl) (by rfl) (by assumption) (fun _ _ _ h => h) ?_ ?_; rotate_left; · (intro wS hSw; (try dsimp only at hSw); go_simp; try with_reducible rfl))
                        simp only [Act.put, List.setIfInBounds_toArray, List.set_cons_zero, List.set_cons_succ]
                        first
                          | (refine mix_skip 33 rfl (by kernel_rfl) (by kernel_rfl) (by kernel_rfl) (by rfl) (by assumption) (fun _ _ _ h => h) ?_)
                          | (refine mix_pure 33 (v := ?_) rfl (by kernel_rfl) (by kernel_rfl) (by kernel_rfl) (by rfl) (by assumption) (fun _ _ _ h => h) ?_ ?_; rotate_left; · (intro wS hSw; (try dsimp only at hSw); go_simp; try with_reducible rfl))
                        simp only [Act.put, List.setIfInBounds_toArray, List.set_cons_zero, List.set_cons_succ]
                        first
                          | (refine mix_skip 34 rfl (by kernel_rfl) (by kernel_rfl) (by kernel_rfl) (by rfl) (by assumption) (fun _ _ _ h => h) ?_)
                          | (refine mix_pure 34 (v := ?_) rfl (by kernel_rfl) (by kernel_rfl) (by kernel_rfl) (by rfl) (by assumption) (fun _ _ _ h => h) ?_ ?_; rotate_left; · (intro wS hSw; (try dsimp only at hSw); go_simp; try with_reducible rfl))
                        simp only [Act.put, List.setIfInBounds_toArray, List.set_cons_zero, List.set_cons_succ]
                        first
                          | (refine mix_skip 35 rfl (by kernel_rfl) (by kernel_rfl) (by kernel_rfl) (by rfl) (by assumption) (fun _ _ _ h => h) ?_)
                          | (refine mix_pure 35 (v := ?_) rfl (by kernel_rfl) (by kernel_rfl) (by kernel_rfl) (by rfl) (by assumption) (fun _ _ _ h => h) ?_ ?_; rotate_left; · (intro wS hSw; (try dsimp only at hSw); go_simp; try with_reducible rfl))
                        simp only [Act.put, List.setIfInBounds_toArray, List.set_cons_zero, List.set_cons_succ]
                        first
                          | (refine mix_skip 36 rfl (by kernel_rfl) (by kernel_rfl) (by kernel_rfl) (by rfl) (by assumption) (fun _ _ _ h => h) ?_)
                          | (refine mix_pure 36 (v := ?_) rfl (by kernel_rfl) (by kernel_rfl) (by kernel_rfl) (by rfl) (by assumption) (fun _ _ _ h => h) ?_ ?_; rotate_left; · (intro wS hSw; (try dsimp only at hSw); go_simp; try with_reducible rfl))
                        simp only [Act.put, List.setIfInBounds_toArray, List.set_cons_zero, List.set_cons_succ]
                        first
                          | (refine mix_skip 37 rfl (by kernel_rfl) (by kernel_rfl) (by kernel_rfl) (by rfl) (by assumption) (fun _ _ _ h => h) ?_)
                          | (refine mix_pure 37 (v := ?_) rfl (by kernel_rfl) (by kernel_rfl) (by kernel_rfl) (by rfl) (by assumption) (fun _ _ _ h => h) ?_ ?_; rotate_left; · (intro wS hSw; (try dsimp only at hSw); go_simp; try with_reducible rfl))
                        simp only [Act.put, List.setIfInBounds_toArray, List.set_cons_zero, List.set_cons_succ]
                        first
                          | (refine mix_skip 38 rfl (by kernel_rfl) (by kernel_rfl) (by kernel_rfl) (by rfl) (by assumption) (fun _ _ _ h => h) ?_)
                          | (refine mix_pure 38 (v := ?_) rfl (by kernel_rfl) (by kernel_rfl) (by kernel_rfl) (by rfl) (by assumption) (fun _ _ _ h => h) ?_ ?_; rotate_left; · (intro wS hSw; (try dsimp only at hSw); go_simp; try with_reducible rfl))
                        simp only [Act.put, List.setIfInBounds_toArray, List.set_cons_zero, List.set_cons_succ]
                        first
                          | (refine mix_skip 39 rfl (by kernel_rfl) (by kernel_rfl) (by kernel_rfl) (by rfl) (by assumption) (fun _ _ _ h => h) ?_)
                          | (refine mix_pure 39 (v := ?_) rfl (by kernel_rfl) (by kernel_rfl) (by kernel_rfl) (by rfl) (by assumption) (fun _ _ _ h => h) ?_ ?_; rotate_left; · (intro wS hSw; (try dsimp only at hSw); go_simp; try with_reducible rfl))
                        simp only [Act.put, List.setIfInBounds_toArray, List.set_cons_zero, List.set_cons_succ]
                        first
                          | (refine mix_skip 40 rfl (by kernel_rfl) (by kernel_rfl) (by kernel_rfl) (by rfl) (by assumption) (fun _ _ _ h => h) ?_)
                          | (refine mix_pure 40 (v := ?_) rfl (by kernel_rfl) (by kernel_rfl) (by kernel_rfl) (by rfl) (by assumption) (fun _ _ _ h => h) ?_ ?_; rotate_left; · (intro wS hSw; (try dsimp only at hSw); go_simp; try with_reducible rfl))
                        simp only [Act.put, List.setIfInBounds_toArray, List.set_cons_zero, List.set_cons_succ]
                        refine wpAnyH_done (by kernel_rfl) ?_ _
                        go_wp2_with fail
                        go_meet
                        exact ⟨rfl, 1, rfl⟩
                  case rest =>
                    obtain ⟨rfl, q, rfl⟩ := hcut
                    have hrj : r + j ≤ 200 := by have := HUP.out.2.1; omega
                    obtain ⟨gt', e', hgtb⟩ := own_addr hto.out (by omega)
                    cases e'
                    obtain ⟨tcs', htb⟩ := own_block hto.out gt rfl
                    have htb' : Blk wc gt 4 tcs' := htb
                    have hgl := htb'.lt
                    have hto2 := own_put (i := y) (own_fr hto.out ((Fr.refl nob wc).drewN q) (fun _ _ h => h)) (.bool true)
                    have hdue2 := own_set (i := y) (own_fr hdue.out ((Fr.refl nob wc).drewN q) (fun _ _ h => h)) (Blk.drewN htb' q) (by decide) (.bool true)
                    have hq62 := (hq6.out.keep ((Fr.refl nob wc).drewN q)).fr ((Fr.refl (fun b => b = gt) (wc.drewN q)).set_ (p := ⟨gt, y, none⟩) (.inl rfl) (.bool true)) (fun b hb e => by
                      subst e
                      exact hq6.out.out htb' (by decide) (by decide) (by decide) hb)
                    have hf52 := (hf5.out.drewN q).set_ (p := ⟨gt, y, none⟩) (.inr hgtb) (.bool true)
                    rw [← List.map_set] at hto2
                    have HTO2 := Lib.hid hto2
                    have HDUE2 := Lib.hid hdue2
                    have HQ62 := Lib.hid hq62
                    have HF52 := Lib.hid hf52
                    clear hto2 hdue2 hq62 hf52 htb htb' hgt2 hac' hdc
                    go_wp2_with fail
                    go_roundw
                    case rel =>
                      refine ⟨j + 1, tl'.set y true, by go_num, by omega, by first | go_num | (congr 1; push_cast; omega) | (congr 1; omega), HTS, ?_, ?_, ?_, ?_⟩
                      · exact HTO2
                      · exact HQ62
                      · exact HDUE2
                      · exact HF52
                    case measure => simp [intOf]; omega
              · obtain rfl : j = p := by omega
                have hrj : r + j ≤ k := by have := HUP.out.2.1; omega
                go_wp2_with fail
                go_roundw
                case rel => exact ⟨i + 1, r + j, nw, v6, E6, tl', by go_num, by omega, rfl, hrj, rfl, by omega, by omega, hq6, htd, hto, hf5, Lib.hid (fun _ => HREST.out), Lib.hid (fun h => hnwl.out (by omega))⟩
                case measure => simp [intOf]; omega
        · obtain rfl : i = m + 1 := by omega
          have hn65 := hlast.out rfl
          have hnil : L.drop r = [] := by
            cases hd : L.drop r with
            | nil => rfl
            | cons x t =>
              have hxm : x ∈ L.drop r := by rw [hd]; exact List.mem_cons_self ..
              have h1 := hgt.out (by omega) x hxm
              obtain ⟨y, _, rfl⟩ := (HUP.out.2.2 x).1 (List.mem_of_mem_drop hxm)
              have h2 := HA8.out y
              dsimp only at h1
              omega
          have hrk : r = k := by
            have h1 : (L.drop r).length = 0 := by rw [hnil]; rfl
            rw [List.length_drop, HUP.out.2.1] at h1
            omega
          have hlc := qlen_any wr w.heap.size g w.heap.size v2 E2 (L.drop r) hq.out
          rw [hnil] at hlc
          have HLC := Lib.hid hlc
          subst hrk
          have hkk : ((r : Int) == (r : Int)) = true := by simp
          clear hn65 hnil hlc hlast hgt him
          go_wp2_with fail
          refine HLC.out.mono ?_
          rintro e w9 ⟨rfl, rfl⟩
          go_wp2_with fail
          refine (HSU.out _).mono ?_
          rintro e w10 ⟨rfl, hf10⟩
          go_wp2_with fail
          go_ret
          exact ⟨rfl, hf.out.trans hf10 (fun _ _ h => h)⟩
end Go.Proofs.Ytmpjdploacfmeaa
