/- Contract of the document's part (bilgeref21), and what may be written of it. -/
import Derived.Test.YthdenkmmiadeiaaId14
import Derived.Test.YthdenkmmiadeiaaId12
import Derived.Test.YthdenkmmiadeiaaId7
import Derived.Test.YthdenkmmiadeiaaIdLaw
namespace Go.Proofs.Ythdenkmmiadeiaa
set_option linter.unusedSimpArgs false
set_option linter.unusedVariables false
open Go.RowKit

/-- What is told of objects may be written. -/
theorem partS_ok {code lv : Int} {F : List (Int × List Int)} (hc : 1 ≤ code ∧ code ≤ 4) (hl : 1 ≤ lv ∧ lv ≤ 3) (hF : ∀ x ∈ F, (0 ≤ x.1 ∧ x.1 ≤ 255) ∧ x.2.length ≤ 240) :
    okS (partS ⟨code, lv, false, 0, []⟩ F) = true := by
  have hsum := fit_sum F 6 (by omega)
  have h2 := objsB_two (F.take (fitN 6 F))
  have hle := fitN_le F 6
  have hall : ∀ x ∈ F.take (fitN 6 F), obMay x = true := fun x hx => by
    have := hF x (List.mem_of_mem_take hx)
    simp only [obMay, inB, Bool.and_eq_true, decide_eq_true_eq]
    exact this
  have htk : (if fitN 6 F < F.length then F.take (fitN 6 F) else F) = F.take (fitN 6 F) := by
    split
    · rfl
    · rw [List.take_of_length_le (by omega)]
  have e : partS ⟨code, lv, false, 0, []⟩ F = ⟨code, lv, decide (fitN 6 F < F.length), if fitN 6 F < F.length then (F.getD (fitN 6 F) (0, [])).1 else 0, F.take (fitN 6 F)⟩ := by
    rw [partS]
    by_cases h : fitN 6 F < F.length
    · rw [if_pos h, if_pos h, decide_eq_true h]
    · rw [if_neg h, if_neg h, decide_eq_false h, List.take_of_length_le (by omega)]
  rw [e, okS, ptMay]
  have hn : (decide ((if fitN 6 F < F.length then (F.getD (fitN 6 F) (0, [])).1 else 0) = 0) || (decide (fitN 6 F < F.length) && inB (if fitN 6 F < F.length then (F.getD (fitN 6 F) (0, [])).1 else 0) 0 255)) = true := by
    by_cases h : fitN 6 F < F.length
    · rw [if_pos h, decide_eq_true h]
      have hx := hF (F.getD (fitN 6 F) (0, [])) (by rw [List.getD_eq_getElem?_getD, List.getElem?_eq_getElem h]; exact List.getElem_mem h)
      have : inB (F.getD (fitN 6 F) (0, [])).1 0 255 = true := by simp only [inB, Bool.and_eq_true, decide_eq_true_eq]; exact hx.1
      rw [this]
      simp
    · rw [if_neg h]
      simp
  rw [hn, List.all_eq_true.2 hall, show inB code 1 4 = true by simp only [inB, Bool.and_eq_true, decide_eq_true_eq]; exact hc, show inB lv 1 3 = true by simp only [inB, Bool.and_eq_true, decide_eq_true_eq]; exact hl, decide_eq_true (p := (F.take (fitN 6 F)).length ≤ 255) (by omega), decide_eq_true hsum]
  rfl

set_option maxHeartbeats 4000000 in
set_option maxRecDepth 100000 in
theorem ref21_part (LA : Option Addr) (ln lc : Nat) (LL : List Ob) (code : Int) (A : Option Addr) (n c : Nat) (L : List Ob) (w : World) (hLO : Obs w LA ln LL) (hln : ln ≤ lc) (hlc : lc ≤ 9223372036854775807)
    (hO : Obs w A n L) (hn : n ≤ c) (hc : c ≤ 9223372036854775807) (hL : ∀ x ∈ L, x.n ≤ 240) :
    Calls Try.prog 61 #[.slice LA ln lc, .slice A n c, .int .i64 code] w (partRes (partS ⟨code, levelS (LL.map Ob.s), false, 0, []⟩ (L.map Ob.s)) A c L w) := by
  have hlv := fun V (hV : Fr nob w V) => ref20_level LA ln lc LL V (hLO.nob hV) hln hlc
  obtain ⟨lv, hlve⟩ : ∃ lv, lv = levelS (LL.map Ob.s) := ⟨_, rfl⟩
  rw [← hlve] at hlv ⊢
  have HLV := Lib.hid hlv
  have HLN := Lib.hid hO.len
  clear hlv hlve hLO
  have hb0 := Blk.new w 33 #[.int .i64 0, .int .i64 0, .bool false, .int .i64 0, .slice none 0 0]
  have hf0 := (Fr.refl nob w).alloc (.cells #[.int .i64 0, .int .i64 0, .bool false, .int .i64 0, .slice none 0 0] 33)
  go_enter Try.func61, Try.ntmps61
  go_wp2_with fail
  refine (HLV.out _ hf0).mono ?_
  rintro e w2 ⟨rfl, hf2⟩
  have hf02 : Fr nob w w2 := hf0.trans hf2 (fun _ _ h => h)
  have hbz := hb0.fr hf2 (fun h => h)
  have hbp := Blk.new w2 33 #[.int .i64 code, .int .i64 lv, .bool false, .int .i64 0, .slice none 0 0]
  have hbz2 := hbz.alloc (.cells #[.int .i64 code, .int .i64 lv, .bool false, .int .i64 0, .slice none 0 0] 33)
  have hf3 := hf02.alloc (.cells #[.int .i64 code, .int .i64 lv, .bool false, .int .i64 0, .slice none 0 0] 33)
  have hgz : w.heap.size < w2.heap.size := hbz.lt
  clear hb0 hf0 hf2 hbz hf02 HLV
  go_wp2_with fail
  generalize (w2.alloc (.cells #[.int .i64 code, .int .i64 lv, .bool false, .int .i64 0, .slice none 0 0] 33)) = W1 at *
  generalize w2.heap.size = g at *
  go_loopw [8] (fun nv wr => ∃ k : Nat, k ≤ n ∧ nv = .int .i64 k ∧ Fr nob w wr ∧ Blk wr g 33 #[.int .i64 code, .int .i64 lv, .bool false, .int .i64 0, .slice none 0 0] ∧ Blk wr w.heap.size 33 #[.int .i64 0, .int .i64 0, .bool false, .int .i64 0, .slice none 0 0] ∧ Hid (Fits (L.map Ob.s) k)) (fun nv _ => n - (intOf nv).toNat)
  case atStart => exact ⟨0, by omega, rfl, hf3, hbp, hbz2, Lib.hid (fits_zero _)⟩
  case round =>
    clear hf3 hbp hbz2
    obtain ⟨k, hk, rfl, hf, hbp, hbz, hfit⟩ := hrel
    have qp := hbp.cell
    have qpf := hbp.frozen
    have qz := hbz.cell
    have qzf := hbz.frozen
    have zp := hbp.lt
    have zz := hbz.lt
    by_cases hlt : k < n
    · obtain ⟨b, o, x, rfl, hb, hx, hc0, hc1, hok⟩ := (hO.nob hf).at_ hlt
      have hpx : (L.map Ob.s)[k]? = some x.s := by simp [hx]
      have hxl : x.d.length = x.n := hok.len
      have hxb := hL x (List.mem_of_getElem? hx)
      have HPX := Lib.hid hpx
      have HXL := Lib.hid hxl
      have hlen : (objsB ((L.take (k + 1)).map Ob.s)).length = (objsB ((L.map Ob.s).take k)).length + (x.n + 2) := by
        rw [List.map_take, objsB_snoc hpx, List.length_append, obB_len, ← hxl]
        rfl
      obtain ⟨m, hm⟩ : ∃ m, m = (objsB ((L.map Ob.s).take k)).length := ⟨_, rfl⟩
      rw [← hm] at hlen
      have hm252 : 6 + m ≤ 252 := by rw [hm]; exact hfit.out.2
      have HMM := Lib.hid hm
      have hsz := fun V (hV : Fr nob w V) => ref21_size (some ⟨b, o, none⟩) (k + 1) c (L.take (k + 1)) V ((hO.nob hV).take_ (by omega)) (by omega) hc (by rw [hlen]; omega)
      rw [hlen] at hsz
      have HSZ := Lib.hid hsz
      obtain ⟨xi, xA, xn, xc, xd⟩ := x
      dsimp only at hc0 hc1 hxb HXL HSZ
      have hi0 : (0 : Int) ≤ (k : Int) ∧ (k : Int) < (n : Int) := ⟨by omega, by omega⟩
      have htk1 := fun w => take_run (size := 2) Try.underlying22 (by kernel_rfl) (some ⟨b, o, none⟩) n c (k + 1) ((k : Int) + 1) (by omega) (by omega) w
      have htk := fun w => take_run (size := 2) Try.underlying22 (by kernel_rfl) (some ⟨b, o, none⟩) n c k (k : Int) rfl (by omega) w
      clear hx hpx hxl hok hlen hm hsz
      go_wp2_with fail
      refine (HSZ.out _ hf).mono ?_
      rintro e w5 ⟨rfl, hf5⟩
      have hf5w := hf.trans hf5 (fun _ _ h => h)
      have hbp5 := hbp.fr hf5 (fun h => h)
      have hbz5 := hbz.fr hf5 (fun h => h)
      have d0 := ((hO.nob hf5w).at_ hlt)
      obtain ⟨b', o', x', e', _, hx', hd0, _, _⟩ := d0
      cases e'
      obtain ⟨b', o', _, e', hbw, _⟩ := hO.at_ hlt
      cases e'
      have hbg : b ≠ g := by omega
      by_cases hfit5 : 6 + m + (xn + 2) ≤ 252
      · clear qp qpf qz qzf hx' hd0
        have hle : decide ((6 : Int) + ((m + (xn + 2) : Nat) : Int) ≤ 252) = true := decide_eq_true (by omega)
        go_wp2_with fail
        go_roundw
        case rel =>
          exact ⟨k + 1, by omega, by go_num, hf5w, hbp5, hbz5, Lib.hid (fits_yes hfit.out HPX.out (by rw [← HMM.out]; show 6 + m + (xd.length + 2) ≤ 252; rw [HXL.out]; exact hfit5))⟩
        case measure => simp [intOf]; omega
      · have hle : decide ((6 : Int) + ((m + (xn + 2) : Nat) : Int) ≤ 252) = false := decide_eq_false (by omega)
        have hno := fits_no hfit.out HPX.out (by rw [← HMM.out]; show ¬ 6 + m + (xd.length + 2) ≤ 252; rw [HXL.out]; exact hfit5)
        have hq := partS_no (p := ⟨code, lv, false, 0, []⟩) hno HPX.out
        have HQ := Lib.hid hq
        have hx2 : x'.id = xi := by
          have := HPX.out
          rw [List.getElem?_map, hx'] at this
          injection this with this
          exact congrArg Prod.fst this
        rw [hx2] at hd0
        have r0 := hbp5.cell
        have r1 := hbp5.frozen
        have r2 := hbz5.cell
        have r3 := hbz5.frozen
        have y1 := hbp5.lt
        have y2 := hbz5.lt
        clear qp qpf qz qzf hx' hq hno hx2
        go_wp2_with fail
        have hbF := ((hbp5.set_ 4 (.slice (some ⟨b, o, none⟩) k c)).set_ 2 (.bool true)).set_ 3 (.int .i64 xi)
        have hfF := (((hf5w.set_ (p := ⟨g, 4, none⟩) (.inr (by dsimp only; omega)) (.slice (some ⟨b, o, none⟩) k c)).set_ (p := ⟨g, 2, none⟩) (.inr (by dsimp only; omega)) (.bool true)).set_ (p := ⟨g, 3, none⟩) (.inr (by dsimp only; omega)) (.int .i64 xi))
        refine bodyPost_ret (v := Value.agg #[.int .i64 code, .int .i64 lv, .bool true, .int .i64 xi, .slice (some ⟨b, o, none⟩) k c]) (by simp [results, Try.results61, go_sem, r2]) rfl ?_
        rw [HQ.out]
        have hkl : ((L.map Ob.s).take k).length = k := by rw [List.length_take, List.length_map, HLN.out]; omega
        refine ⟨by rw [pval]; dsimp only; rw [hkl]; try rfl, by dsimp only; rw [hkl, List.map_take], by dsimp only; rw [hkl, HLN.out]; omega, ?_⟩
        exact hfF.set5 (g := w.heap.size) (.inr (Nat.le_refl _)) _ _ _ _ _
    · obtain rfl : k = n := by omega
      have hall := fits_all (S := L.map Ob.s) (by rw [List.length_map, HLN.out]; exact hfit.out)
      have hq := partS_all (p := ⟨code, lv, false, 0, []⟩) hall
      have HQ := Lib.hid hq
      have htk := fun w => take_run (size := 2) Try.underlying22 (by kernel_rfl) A k c k (k : Int) rfl (by omega) w
      clear hall hq
      go_wp2_with fail
      refine bodyPost_ret (v := Value.agg #[.int .i64 code, .int .i64 lv, .bool false, .int .i64 0, .slice A k c]) (by simp [results, Try.results61, go_sem, qz]) rfl ?_
      rw [HQ.out]
      have hkl : (L.map Ob.s).length = k := by rw [List.length_map, HLN.out]
      refine ⟨by rw [pval]; dsimp only; rw [hkl]; try rfl, by dsimp only; rw [hkl, List.take_of_length_le (by rw [HLN.out]; omega)], by dsimp only; rw [hkl, HLN.out]; omega, ?_⟩
      exact (hf.set_ (p := ⟨g, 4, none⟩) (.inr (by dsimp only; omega)) (.slice A k c)).set5 (g := w.heap.size) (.inr (Nat.le_refl _)) _ _ _ _ _
end Go.Proofs.Ythdenkmmiadeiaa
