/- Contract of the document's Right (bilgeref21). -/
import Derived.Test.YthdenkmmiadeiaaId10
namespace Go.Proofs.Ythdenkmmiadeiaa
set_option linter.unusedSimpArgs false
set_option linter.unusedVariables false
open Go.RowKit

/-- May a part be said? -/
def okS (p : Ps) : Bool := ptMay p && decide (6 + (objsB p.S).length ≤ 252)
theorem writeS_ok (p : Ps) : writeS p = if okS p = true then some (headB p ++ objsB p.S) else none := by
  simp only [writeS, okS, Bool.and_eq_true, decide_eq_true_eq]
theorem objsB_le : ∀ (S : List (Int × List Int)), (∀ x ∈ S, x.2.length ≤ 240) → (objsB S).length ≤ 242 * S.length
  | [], _ => by simp [objsB]
  | x :: S, h => by
    have h1 := objsB_le S (fun y hy => h y (List.mem_cons_of_mem _ hy))
    have h2 := h x (List.mem_cons_self ..)
    have e1 : objsB (x :: S) = obB x ++ objsB S := by simp [objsB]
    rw [e1, List.length_append, obB_len, List.length_cons]
    omega

set_option maxHeartbeats 2000000 in
set_option maxRecDepth 100000 in
theorem ref21_right (p : Pt) (w : World) (hp : p.ok w) : Calls Try.prog 53 #[p.val] w fun e w' => e = .returned (.bool (okS p.s)) ∧ Fr nob w w' := by
  obtain ⟨code, level, more, next, A, n, c, L⟩ := p
  obtain ⟨hO, hn, hc⟩ := hp
  dsimp only at hO hn hc
  have hl := hO.len
  obtain ⟨s, hs⟩ : ∃ s, s = okS (⟨code, level, more, next, A, n, c, L⟩ : Pt).s := ⟨_, rfl⟩
  rw [← hs]
  have HS := Lib.hid hs
  have hb0 := Blk.new w 33 #[.int .i64 code, .int .i64 level, .bool more, .int .i64 next, .slice A n c]
  have hf0 := (Fr.refl nob w).alloc (.cells #[.int .i64 code, .int .i64 level, .bool more, .int .i64 next, .slice A n c] 33)
  clear hs
  rw [Pt.val, Pt.cells]
  dsimp only
  have HLN := Lib.hid hl
  clear hl
  go_enter Try.func53, Try.ntmps53
  go_wp2_with fail
  go_loopw [3] (fun i wr => ∃ k : Nat, k ≤ n ∧ i = .int .i64 k ∧ Fr nob w wr ∧ Blk wr w.heap.size 33 #[.int .i64 code, .int .i64 level, .bool more, .int .i64 next, .slice A n c] ∧ Hid (∀ (j : Nat) (y : Ob), j < k → L[j]? = some y → obMay y.s = true)) (fun i _ => n - (intOf i).toNat)
  case atStart => exact ⟨0, by omega, rfl, hf0, hb0, Lib.hid fun j x hj => absurd hj (by omega)⟩
  case round =>
    clear hf0 hb0
    obtain ⟨k, hk, rfl, hf, hblk, heq⟩ := hrel
    have q1 := hblk.cell
    by_cases hlt : k < n
    · obtain ⟨b, o, x, rfl, hb, hx, hc0, hc1, hok⟩ := (hO.nob hf).at_ hlt
      have HX := Lib.hid hx
      have hxl := hok.len
      have HXL := Lib.hid hxl
      clear hx hxl
      have hi0 : (0 : Int) ≤ (k : Int) ∧ (k : Int) < (n : Int) := ⟨by omega, by omega⟩
      obtain ⟨xi, xA, xn, xc, xd⟩ := x
      dsimp only at hc0 hc1 HXL
      have hok' := hok
      obtain ⟨_, hxc, hxm⟩ := hok'
      dsimp only at hxc hxm
      clear hok
      have hcase : xi < 0 ∨ (0 ≤ xi ∧ 255 < xi) ∨ ((0 ≤ xi ∧ xi ≤ 255) ∧ 240 < xn) ∨ ((0 ≤ xi ∧ xi ≤ 255) ∧ xn ≤ 240) := by omega
      have hbad : xi < 0 ∨ 255 < xi ∨ 240 < xn → s = false := by
        intro h
        rw [HS.out, okS, ptMay]
        show ((_ && (L.map Ob.s).all obMay) && _ && _ && _ && _) = false
        rw [obMay_bad rfl HX.out (by
          show ((decide (0 ≤ xi) && decide (xi ≤ 255)) && decide (xd.length ≤ 240)) = false
          rw [HXL.out]
          simp
          omega)]
        simp
      have HBAD := Lib.hid hbad
      clear hbad
      rcases hcase with h | ⟨h, h'⟩ | ⟨⟨h, h'⟩, h''⟩ | ⟨⟨h, h'⟩, h''⟩
      · go_wp2_with fail
        go_ret
        exact ⟨by rw [HBAD.out (.inl h)]; rfl, hf.alloc _⟩
      · go_wp2_with fail
        go_ret
        exact ⟨by rw [HBAD.out (.inr (.inl h'))]; rfl, hf.alloc _⟩
      · go_wp2_with fail
        go_ret
        exact ⟨by rw [HBAD.out (.inr (.inr h''))]; rfl, hf.alloc _⟩
      · go_wp2_with fail
        go_roundw
        case rel =>
          refine ⟨k + 1, by omega, by go_num, hf.alloc _, hblk.alloc _, Lib.hid fun j y hj hy => ?_⟩
          rcases Nat.lt_or_ge j k with hjk | hjk
          · exact heq.out j y hjk hy
          · obtain rfl : j = k := by omega
            have e1 := hy.symm.trans HX.out
            cases e1
            show ((decide (0 ≤ xi) && decide (xi ≤ 255)) && decide (xd.length ≤ 240)) = true
            rw [HXL.out, decide_eq_true h'', decide_eq_true h, decide_eq_true h']
            rfl
        case measure => simp [intOf]; omega
    · obtain rfl : k = n := by omega
      have hall : (L.map Ob.s).all obMay = true := by
        rw [List.all_eq_true]
        intro z hz
        obtain ⟨y, hy, rfl⟩ := List.mem_map.1 hz
        obtain ⟨j, hj, hjy⟩ := List.mem_iff_getElem.1 hy
        exact heq.out j y (by rw [← HLN.out]; exact hj) (by rw [List.getElem?_eq_getElem hj, hjy])
      have hlen : ∀ x ∈ L.map Ob.s, x.2.length ≤ 240 := by
        intro x hx
        have := List.all_eq_true.1 hall x hx
        simp only [obMay, Bool.and_eq_true, decide_eq_true_eq] at this
        exact this.2
      have hz := objsB_le _ hlen
      rw [List.length_map, HLN.out] at hz
      obtain ⟨m, hm⟩ : ∃ m, m = (objsB (L.map Ob.s)).length := ⟨_, rfl⟩
      have hs2 : s = ((decide (next = 0) || (more && inB next 0 255)) && inB code 1 4 && inB level 1 3 && decide (k ≤ 255) && decide (6 + m ≤ 252)) := by
        rw [HS.out, okS, ptMay, hm]
        show ((_ && (L.map Ob.s).all obMay) && inB code 1 4 && inB level 1 3 && decide ((L.map Ob.s).length ≤ 255) && _) = _
        rw [hall, List.length_map, HLN.out, Bool.and_true]
        rfl
      have hsz := fun V (hV : Fr nob w V) (h : m ≤ 1000000) => ref21_size A k c L V (hO.nob hV) hn hc (by rw [← hm]; exact h)
      rw [← hm] at hz hsz
      have HS2 := Lib.hid hs2
      have HSZ := Lib.hid hsz
      clear q1
      have q1 := hblk.cell
      clear hs2 hall heq HS hm hsz hlen hlt
      have hnx : (more = false ∧ next = 0 ∧ (next == 0) = true) ∨ (more = false ∧ next ≠ 0 ∧ (next == 0) = false) ∨ (more = true ∧ next < 0) ∨ (more = true ∧ 0 ≤ next ∧ 255 < next) ∨ (more = true ∧ 0 ≤ next ∧ next ≤ 255) := by
        cases more <;> simp <;> omega
      have hcd : code < 1 ∨ (1 ≤ code ∧ 4 < code) ∨ (1 ≤ code ∧ code ≤ 4) := by omega
      have hlv : level < 1 ∨ (1 ≤ level ∧ 3 < level) ∨ (1 ≤ level ∧ level ≤ 3) := by omega
      have hF : (¬ (1 ≤ code ∧ code ≤ 4) ∨ ¬ (1 ≤ level ∧ level ≤ 3) ∨ 255 < k ∨ 252 < 6 + m ∨ (decide (next = 0) || (more && inB next 0 255)) = false) → s = false := by
        intro h
        rw [HS2.out]
        rcases h with h | h | h | h | h
        · rw [show inB code 1 4 = false by simp [inB]; omega]; simp
        · rw [show inB level 1 3 = false by simp [inB]; omega]; simp
        · rw [decide_eq_false (p := k ≤ 255) (by omega)]; simp
        · rw [decide_eq_false (p := 6 + m ≤ 252) (by omega)]; simp
        · rw [h]; simp
      have HF := Lib.hid hF
      clear hF
      rcases hcd with h1 | ⟨h1, h2⟩ | ⟨h1, h2⟩
      · rcases hnx with ⟨rfl, -, e⟩ | ⟨rfl, -, e⟩ | ⟨rfl, e⟩ | ⟨rfl, e, e'⟩ | ⟨rfl, e, e'⟩
        all_goals
          go_wp2_with fail
          go_ret
          exact ⟨congrArg (fun b => Ending.returned (Value.bool b)) (HF.out (.inl (by omega))).symm, hf⟩
      · rcases hnx with ⟨rfl, -, e⟩ | ⟨rfl, -, e⟩ | ⟨rfl, e⟩ | ⟨rfl, e, e'⟩ | ⟨rfl, e, e'⟩
        all_goals
          go_wp2_with fail
          go_ret
          exact ⟨congrArg (fun b => Ending.returned (Value.bool b)) (HF.out (.inl (by omega))).symm, hf⟩
      · rcases hlv with h3 | ⟨h3, h4⟩ | ⟨h3, h4⟩
        · rcases hnx with ⟨rfl, -, e⟩ | ⟨rfl, -, e⟩ | ⟨rfl, e⟩ | ⟨rfl, e, e'⟩ | ⟨rfl, e, e'⟩
          all_goals
            go_wp2_with fail
            go_ret
            exact ⟨congrArg (fun b => Ending.returned (Value.bool b)) (HF.out (.inr (.inl (by omega)))).symm, hf⟩
        · rcases hnx with ⟨rfl, -, e⟩ | ⟨rfl, -, e⟩ | ⟨rfl, e⟩ | ⟨rfl, e, e'⟩ | ⟨rfl, e, e'⟩
          all_goals
            go_wp2_with fail
            go_ret
            exact ⟨congrArg (fun b => Ending.returned (Value.bool b)) (HF.out (.inr (.inl (by omega)))).symm, hf⟩
        · have hnx' : ((more = false ∧ next ≠ 0 ∧ (next == 0) = false) ∨ (more = true ∧ next < 0) ∨ (more = true ∧ 0 ≤ next ∧ 255 < next)) ∨ ((more = false ∧ next = 0 ∧ (next == 0) = true) ∨ (more = true ∧ 0 ≤ next ∧ next ≤ 255)) := by
            rcases hnx with h | h | h | h | h
            · exact .inr (.inl h)
            · exact .inl (.inl h)
            · exact .inl (.inr (.inl h))
            · exact .inl (.inr (.inr h))
            · exact .inr (.inr h)
          clear hnx
          rcases hnx' with hbad | hgood
          · have hF5 : s = false := HF.out (.inr (.inr (.inr (.inr (by
              rcases hbad with ⟨rfl, h, -⟩ | ⟨rfl, h⟩ | ⟨rfl, h, h'⟩
              · simp; omega
              · simp [inB]; omega
              · simp [inB]; omega)))))
            have HF5 := Lib.hid hF5
            clear hF5
            rcases hbad with ⟨rfl, -, e⟩ | ⟨rfl, e⟩ | ⟨rfl, e, e'⟩
            all_goals
              go_wp2_with fail
              go_ret
              exact ⟨congrArg (fun b => Ending.returned (Value.bool b)) HF5.out.symm, hf⟩
          · have hT : k ≤ 255 → s = decide (6 + m ≤ 252) := by
              intro h
              rw [HS2.out, decide_eq_true h, show inB code 1 4 = true by simp [inB]; omega, show inB level 1 3 = true by simp [inB]; omega]
              rcases hgood with ⟨rfl, h, -⟩ | ⟨rfl, h, h'⟩
              · rw [decide_eq_true h]; simp
              · rw [show inB next 0 255 = true by simp [inB]; omega]; simp
            have HT := Lib.hid hT
            clear hT
            by_cases hk2 : 255 < k
            · rcases hgood with ⟨rfl, -, e⟩ | ⟨rfl, e, e'⟩
              all_goals
                go_wp2_with fail
                go_ret
                exact ⟨congrArg (fun b => Ending.returned (Value.bool b)) (HF.out (.inr (.inr (.inl (by omega))))).symm, hf⟩
            · have hm1 : m ≤ 1000000 := by omega
              have hlast : (6 + m ≤ 252 ∧ Hid (s = true)) ∨ (252 < 6 + m ∧ Hid (s = false)) := by
                rcases Nat.lt_or_ge 252 (6 + m) with h | h
                · exact .inr ⟨h, Lib.hid (by rw [HT.out (by omega)]; exact decide_eq_false (by omega))⟩
                · exact .inl ⟨h, Lib.hid (by rw [HT.out (by omega)]; exact decide_eq_true h)⟩
              rcases hgood with ⟨rfl, -, e⟩ | ⟨rfl, e, e'⟩
              all_goals
                rcases hlast with ⟨h6, h7⟩ | ⟨h6, h7⟩
                all_goals
                  go_wp2_with fail
                  refine (HSZ.out _ hf hm1).mono ?_
                  rintro e w2 ⟨rfl, hf2⟩
                  go_wp2_with fail
                  go_ret
                  exact ⟨congrArg (fun b => Ending.returned (Value.bool b)) (by rw [h7.out]; first | exact decide_eq_true (by omega) | exact decide_eq_false (by omega)), hf.trans hf2 (fun _ _ h => h)⟩
end Go.Proofs.Ythdenkmmiadeiaa
