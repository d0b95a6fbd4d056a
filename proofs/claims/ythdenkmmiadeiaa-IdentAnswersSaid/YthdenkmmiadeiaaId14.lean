/- Contracts of the document's Level, Of, From, Find (bilgeref20). -/
import Derived.Test.YthdenkmmiadeiaaId13
import Derived.Test.YthdenkmmiadeiaaCut
import Derived.Test.YthdenkmmiadeiaaObjLaw
namespace Go.Proofs.Ythdenkmmiadeiaa
set_option linter.unusedSimpArgs false
set_option linter.unusedVariables false
open Go.RowKit

set_option maxHeartbeats 1000000 in
theorem ref20_level (A : Option Addr) (n c : Nat) (L : List Ob) (w : World) (h : Obs w A n L) (hn : n ≤ c) (hc : c ≤ 9223372036854775807) :
    Calls Try.prog 96 #[.slice A n c] w fun e w' => e = .returned (.int .i64 (levelS (L.map Ob.s))) ∧ Fr nob w w' := by
  have hl := h.len
  go_enter Try.func96, Try.ntmps96
  go_wp2_with fail
  refine (ref20_right A n c L _ h hn hc).mono ?_
  rintro e w2 ⟨rfl, hf⟩
  obtain ⟨r, hr⟩ : ∃ r, r = rightS (L.map Ob.s) := ⟨_, rfl⟩
  rw [← hr]
  cases r with
  | false =>
    have HR := Lib.hid hr
    clear hr
    go_wp2
    go_ret
    exact ⟨by rw [levelS, ← HR.out]; rfl, hf⟩
  | true =>
    have h3 : 3 ≤ n := by
      have := hr.symm
      simp only [rightS, Bool.and_eq_true, decide_eq_true_eq, List.length_map] at this
      omega
    obtain ⟨m, rfl⟩ : ∃ m, n = m + 1 := ⟨n - 1, by omega⟩
    obtain ⟨b, o, x, rfl, hb, hx, hc0, hc1, hok⟩ := (h.nob hf).at_ (k := m) (by omega)
    have HR := Lib.hid hr
    have HL := Lib.hid (lastS_at hl hx)
    clear hr hl
    obtain ⟨xid, xA, xn, xc, xd⟩ := x
    simp only at hc0
    go_wp2
    all_goals
      go_ret
      refine ⟨?_, hf⟩
      rw [levelS, if_pos HR.out.symm, HL.out]
      first
        | (rw [if_pos (by assumption)]; rfl)
        | (rw [if_neg (by omega), if_pos (by assumption)]; rfl)
        | (rw [if_neg (by omega), if_neg (by omega)]; rfl)

/-- Is an ID of a sort? -/
def ofB (id sort : Int) : Bool := !(decide (sort < 1) || decide (4 ≤ sort)) && keepS sort id
theorem ofS_B (S : List (Int × List Int)) (sort : Int) : ofS S sort = S.filter (fun x => ofB x.1 sort) := by
  rw [ofS]
  split
  · rename_i h
    rw [List.filter_eq_nil_iff.2]
    intro x _
    simp [ofB]
    omega
  · rename_i h
    refine List.filter_congr fun x _ => ?_
    rw [ofB, decide_eq_false (by omega), decide_eq_false (by omega)]
    simp
set_option maxHeartbeats 1000000 in
theorem ref20_of (id sort : Int) (w : World) :
    Calls Try.prog 118 #[.int .i64 id, .int .i64 sort] w fun e w' => e = .returned (.bool (ofB id sort)) ∧ w' = w := by
  obtain ⟨s, hs⟩ : ∃ s, s = ofB id sort := ⟨_, rfl⟩
  rw [← hs]
  have HS := Lib.hid hs
  clear hs
  have hcase : sort = 1 ∨ sort = 2 ∨ sort = 3 ∨ ((sort < 1 ∨ 4 ≤ sort) ∧ (sort == 1) = false ∧ (sort == 2) = false ∧ (sort == 3) = false) := by
    simp only [beq_eq_false_iff_ne]
    omega
  rcases hcase with rfl | rfl | rfl | ⟨h, h1, h2, h3⟩
  rotate_left 3
  · go_enter Try.func118, Try.ntmps118
    go_wp2
    go_ret
    refine ⟨congrArg Ending.returned (congrArg Value.bool ?_), rfl⟩
    rw [HS.out, ofB]
    rcases h with h | h
    · rw [decide_eq_true h]; rfl
    · rw [decide_eq_true h]; simp
  all_goals
    go_enter Try.func118, Try.ntmps118
    go_wp2
  all_goals
    go_ret
    refine ⟨congrArg Ending.returned (congrArg Value.bool ?_), rfl⟩
    rw [HS.out]
    simp [ofB, keepS, below]
    first | done | omega | (rw [Bool.eq_iff_iff]; simp; omega)

/-- Objects that are read, in old memory or in new. -/
def objsR (S : List (Int × List Int)) (w : World) (e : Ending) (w' : World) : Prop :=
  Fr nob w w' ∧ ∃ A n c L, e = .returned (.slice A n c) ∧ L.map Ob.s = S ∧ Obs w' A n L ∧ n ≤ c ∧ c ≤ 9223372036854775807
theorem take_filter {L : List Ob} {k : Nat} {x : Ob} (hx : L[k]? = some x) (f : Ob → Bool) : (L.take (k + 1)).filter f = (L.take k).filter f ++ (if f x then [x] else []) := by
  rw [List.take_add_one, hx, List.filter_append]
  simp [List.filter_cons]

set_option maxHeartbeats 2000000 in
set_option maxRecDepth 100000 in
theorem ref20_ofs (A : Option Addr) (n c : Nat) (L : List Ob) (sort : Int) (w : World) (h : Obs w A n L) (hn : n ≤ c) (hc : c ≤ 9223372036854775807) (hm : n ≤ 100000) :
    Calls Try.prog 95 #[.slice A n c, .int .i64 sort] w (objsR (ofS (L.map Ob.s) sort) w) := by
  obtain ⟨T, hT⟩ : ∃ T, T = ofS (L.map Ob.s) sort := ⟨_, rfl⟩
  rw [← hT]
  have HT := Lib.hid hT
  have HLN := Lib.hid h.len
  clear hT
  go_enter Try.func95, Try.ntmps95
  go_wp2_with fail
  go_loopw [5, 6] (fun v i wr => ∃ (k m : Nat) (M : List Ob), k ≤ n ∧ i = .int .i64 k ∧ Hid (M = (L.take k).filter (fun x => ofB x.id sort)) ∧ m ≤ k ∧ wr.ownsRow w.heap.size 49 2 v m (M.flatMap Ob.cs) ∧ Fr nob w wr) (fun _ i _ => n - (intOf i).toNat)
  case atStart => exact ⟨0, 0, [], by omega, rfl, Lib.hid (by simp), by omega, World.ownsRow_nil _ _ _ _, Fr.refl _ _⟩
  case round =>
    obtain ⟨k, m, M, hk, rfl, HM, hmk, hown, hf⟩ := hrel
    by_cases hlt : k < n
    · obtain ⟨b, o, x, rfl, hb, hx, hc0, hc1, hok⟩ := (h.nob hf).at_ hlt
      have hi0 : (0 : Int) ≤ (k : Int) ∧ (k : Int) < (n : Int) := ⟨by omega, by omega⟩
      have HTF := Lib.hid (take_filter hx (fun x => ofB x.id sort))
      obtain ⟨xi, xA, xn, xc, xd⟩ := x
      dsimp only at hc0 hc1
      clear hx hok
      go_wp2_with fail
      refine (ref20_of xi sort _).mono ?_
      rintro e w2 ⟨rfl, rfl⟩
      obtain ⟨kb, hkb⟩ : ∃ kb, kb = ofB xi sort := ⟨_, rfl⟩
      rw [← hkb]
      have HKB := Lib.hid hkb
      clear hkb
      have hzf := hf.size
      cases kb with
      | false =>
        go_wp2_with fail
        go_roundw
        case rel => exact ⟨k + 1, m, M, by omega, by go_num, Lib.hid (by rw [HTF.out, HM.out]; (try dsimp only); rw [← HKB.out]; simp), by omega, hown, hf⟩
        case measure => simp [intOf]; omega
      | true =>
        go_wp2_with (at_builtin; (refine app_one (P := Try.prog) w.heap.size rfl _ _ _ 49 (.agg #[.int .i64 0, .slice none 0 0]) 2 32 rfl Try.underlying22 info_object rfl (by omega) u5 m (M.flatMap Ob.cs) _ rfl rfl rfl (by simp [Value.oneCell']) hown hzf (by omega) (by omega) ?_); intro v1 w1 hown1 hg1 hat1)
        go_roundw
        case rel =>
          refine ⟨k + 1, m + 1, M ++ [⟨xi, xA, xn, xc, xd⟩], by omega, by go_num, Lib.hid (by rw [HTF.out, HM.out]; (try dsimp only); rw [← HKB.out]; simp), by omega, ?_, hf.grown hg1 (fun k hk => .inr (own_at hown k hk))⟩
          simpa [List.flatMap_append, Ob.cs] using hown1
        case measure => simp [intOf]; omega
    · obtain rfl : k = n := by omega
      obtain ⟨Av, cv, rfl, hle, _⟩ := own_form hown
      have hcap := own_cap hown
      have hTM : M.map Ob.s = T := by
        rw [HT.out, ofS_B, HM.out, List.take_of_length_le (by rw [HLN.out]; omega), List.filter_map]
        rfl
      have HTM := Lib.hid hTM
      clear hTM
      go_wp2_with fail
      go_ret
      refine ⟨hf, Av, m, cv, M, rfl, HTM.out, ⟨Rd.of_own hown, fun y hy => ?_⟩, hle, hcap⟩
      rw [HM.out] at hy
      exact (h.ok y (List.mem_of_mem_take (List.mem_filter.1 hy).1)).nob hf

set_option maxHeartbeats 2000000 in
set_option maxRecDepth 100000 in
theorem ref20_from (A : Option Addr) (n c : Nat) (L : List Ob) (sort id : Int) (w : World) (h : Obs w A n L) (hn : n ≤ c) (hc : c ≤ 9223372036854775807) (hm : n ≤ 100000) :
    Calls Try.prog 59 #[.slice A n c, .int .i64 sort, .int .i64 id] w (objsR (fromS (L.map Ob.s) sort id) w) := by
  go_enter Try.func59, Try.ntmps59
  go_wp2_with fail
  refine (ref20_ofs A n c L sort _ h hn hc hm).mono ?_
  rintro e w2 ⟨hf2, A2, n2, c2, L2, rfl, hS, hO, hn2, hc2⟩
  have HS := Lib.hid hS
  have HLN := Lib.hid hO.len
  clear hS
  go_wp2_with fail
  go_loopw [8] (fun i wr => ∃ k : Nat, k ≤ n2 ∧ i = .int .i64 k ∧ Fr nob w2 wr ∧ Hid (∀ (j : Nat) (y : Ob), j < k → L2[j]? = some y → y.id ≠ id)) (fun i _ => n2 - (intOf i).toNat)
  case atStart => exact ⟨0, by omega, rfl, Fr.refl _ _, Lib.hid fun j y hj => absurd hj (by omega)⟩
  case round =>
    obtain ⟨k, hk, rfl, hf, hno⟩ := hrel
    by_cases hlt : k < n2
    · obtain ⟨b, o, x, rfl, hb, hx, hc0, hc1, hok⟩ := (hO.nob hf).at_ hlt
      have hi0 : (0 : Int) ≤ (k : Int) ∧ (k : Int) < (n2 : Int) := ⟨by omega, by omega⟩
      by_cases hid : x.id = id
      · have e1 : (x.id == id) = true := by rw [beq_iff_eq]; exact hid
        have hd : fromS (L.map Ob.s) sort id = (L2.drop k).map Ob.s := by rw [fromS, ← HS.out, idx_hit hx hid hno.out, List.map_drop]; rfl
        have HD := Lib.hid hd
        obtain ⟨xi, xA, xn, xc, xd⟩ := x
        dsimp only at hc0 e1
        clear hid hx hd hok
        go_wp2_with fail
        go_ret
        have h4 := (hO.nob hf).cut (cap := c2) (k := k) (by omega) (by omega)
        rw [if_neg (by omega), Option.map_some, add_plain] at h4
        exact ⟨hf2.trans hf (fun _ _ h => h), _, _, _, L2.drop k, rfl, HD.out.symm, h4, by omega, by omega⟩
      · have e1 : (x.id == id) = false := by rw [beq_eq_false_iff_ne]; exact hid
        have HX := Lib.hid hx
        have HID := Lib.hid hid
        obtain ⟨xi, xA, xn, xc, xd⟩ := x
        dsimp only at hc0 e1
        clear hid hx hok
        go_wp2_with fail
        go_roundw
        case rel =>
          refine ⟨k + 1, by omega, by go_num, hf, Lib.hid fun j y hj hy => ?_⟩
          rcases Nat.lt_or_ge j k with h | h
          · exact hno.out j y h hy
          · obtain rfl : j = k := by omega
            have e2 := hy.symm.trans HX.out
            cases e2
            exact HID.out
        case measure => simp [intOf]; omega
    · obtain rfl : k = n2 := by omega
      have hd : fromS (L.map Ob.s) sort id = L2.map Ob.s := by
        rw [fromS, ← HS.out, idx_none (fun j y hy => hno.out j y (by rw [← HLN.out]; exact (List.getElem?_eq_some_iff.1 hy).1) hy)]
        rfl
      have HD := Lib.hid hd
      clear hd
      go_wp2_with fail
      go_ret
      exact ⟨hf2.trans hf (fun _ _ h => h), A2, k, c2, L2, rfl, HD.out.symm, hO.nob hf, hn2, hc2⟩

theorem find_hitR {L : List Ob} {id : Int} {k : Nat} {x : Ob} (hx : L[k]? = some x) (hid : x.id = id) (h : ∀ (j : Nat) (y : Ob), j < k → L[j]? = some y → y.id ≠ id) : findS (L.map Ob.s) id = some x.s := by
  rw [findS, List.find?_eq_some_iff_getElem]
  obtain ⟨hk, e⟩ := List.getElem?_eq_some_iff.1 hx
  refine ⟨by simpa [Ob.s] using hid, k, by simpa using hk, by rw [List.getElem_map, e], fun j hj => ?_⟩
  have := h j L[j] hj (List.getElem?_eq_getElem (by omega))
  simpa [Ob.s] using this
theorem find_noneR {L : List Ob} {id : Int} (h : ∀ (j : Nat) (y : Ob), L[j]? = some y → y.id ≠ id) : findS (L.map Ob.s) id = none := by
  rw [findS, List.find?_eq_none]
  intro z hz
  obtain ⟨y, hy, rfl⟩ := List.mem_map.1 hz
  obtain ⟨j, hj, e⟩ := List.mem_iff_getElem.1 hy
  simpa [Ob.s] using h j y (by rw [List.getElem?_eq_getElem hj, e])
def findPostR (S : List (Int × List Int)) (id : Int) (w : World) (e : Ending) (w' : World) : Prop :=
  ∃ x : Ob, e = .returned (.tuple #[x.val, .bool (findS S id).isSome]) ∧ (∀ y, findS S id = some y → x.s = y) ∧ x.ok w' ∧ Fr nob w w'

set_option maxHeartbeats 2000000 in
set_option maxRecDepth 100000 in
theorem ref20_find (A : Option Addr) (n c : Nat) (L : List Ob) (id : Int) (w : World) (h : Obs w A n L) (hn : n ≤ c) (hc : c ≤ 9223372036854775807) :
    Calls Try.prog 60 #[.slice A n c, .int .i64 id] w (findPostR (L.map Ob.s) id w) := by
  have hb0 := Blk.new w 49 #[.int .i64 0, .slice none 0 0]
  have hf0 := (Fr.refl nob w).alloc (.cells #[.int .i64 0, .slice none 0 0] 49)
  have HLN := Lib.hid h.len
  go_enter Try.func60, Try.ntmps60
  go_wp2_with fail
  go_loopw [6] (fun i wr => ∃ k : Nat, k ≤ n ∧ i = .int .i64 k ∧ Fr nob w wr ∧ Blk wr w.heap.size 49 #[.int .i64 0, .slice none 0 0] ∧ Hid (∀ (j : Nat) (y : Ob), j < k → L[j]? = some y → y.id ≠ id)) (fun i _ => n - (intOf i).toNat)
  case atStart => exact ⟨0, by omega, rfl, hf0, hb0, Lib.hid fun j y hj => absurd hj (by omega)⟩
  case round =>
    clear hb0 hf0
    obtain ⟨k, hk, rfl, hf, hblk, hno⟩ := hrel
    have qz := hblk.cell
    have qzf := hblk.frozen
    have zb := hblk.lt
    by_cases hlt : k < n
    · obtain ⟨b, o, x, rfl, hb, hx, hc0, hc1, hok⟩ := (h.nob hf).at_ hlt
      have hi0 : (0 : Int) ≤ (k : Int) ∧ (k : Int) < (n : Int) := ⟨by omega, by omega⟩
      by_cases hid : x.id = id
      · have e1 : (x.id == id) = true := by rw [beq_iff_eq]; exact hid
        have hfs : findS (L.map Ob.s) id = some x.s := find_hitR hx hid hno.out
        have HF := Lib.hid hfs
        have hokw := h.ok x (List.mem_of_getElem? hx)
        obtain ⟨xi, xA, xn, xc, xd⟩ := x
        dsimp only at hc0 hc1 e1
        clear hid hx hfs hok
        go_wp2_with fail
        have hb2 := (hblk.set_ 0 (.int .i64 xi)).set_ 1 (.slice xA xn xc)
        simp only [List.setIfInBounds_toArray, List.set_cons_zero, List.set_cons_succ] at hb2
        have q2 := hb2.cell
        refine bodyPost_ret (v := .tuple #[.agg #[.int .i64 xi, .slice xA xn xc], .bool true]) (by simp [results, Try.results60, go_sem, q2]) rfl ?_
        rw [findPostR, HF.out]
        have hs := ((Fr.refl (fun i => i = w.heap.size) wr).set_ (p := ⟨w.heap.size, 0, none⟩) (.inl rfl) (.int .i64 xi)).set_ (p := ⟨w.heap.size, 1, none⟩) (.inl rfl) (.slice xA xn xc)
        refine ⟨⟨xi, xA, xn, xc, xd⟩, rfl, (fun y hy => by injection hy), hokw.nob (hf.newer hs (fun i hi => by omega)), hf.newer hs (fun i hi => by omega)⟩
      · have e1 : (x.id == id) = false := by rw [beq_eq_false_iff_ne]; exact hid
        have HX := Lib.hid hx
        have HID := Lib.hid hid
        obtain ⟨xi, xA, xn, xc, xd⟩ := x
        dsimp only at hc0 e1
        clear hid hx hok
        go_wp2_with fail
        go_roundw
        case rel =>
          refine ⟨k + 1, by omega, by go_num, hf, hblk, Lib.hid fun j y hj hy => ?_⟩
          rcases Nat.lt_or_ge j k with h | h
          · exact hno.out j y h hy
          · obtain rfl : j = k := by omega
            have e2 := hy.symm.trans HX.out
            cases e2
            exact HID.out
        case measure => simp [intOf]; omega
    · obtain rfl : k = n := by omega
      have hfs : findS (L.map Ob.s) id = none := find_noneR (fun j y hy => hno.out j y (by rw [← HLN.out]; exact (List.getElem?_eq_some_iff.1 hy).1) hy)
      have HF := Lib.hid hfs
      clear hfs
      go_wp2_with fail
      refine bodyPost_ret (v := .tuple #[.agg #[.int .i64 0, .slice none 0 0], .bool false]) (by simp [results, Try.results60, go_sem, qz]) rfl ?_
      rw [findPostR, HF.out]
      refine ⟨⟨0, none, 0, 0, []⟩, rfl, (fun y hy => by cases hy), ⟨Rd.nil_ _ _ _, by simp, by simp⟩, ?_⟩
      first
        | exact hf
        | exact (hf.set_ (p := ⟨w.heap.size, 0, none⟩) (.inr (Nat.le_refl _)) _).set_ (p := ⟨w.heap.size, 1, none⟩) (.inr (Nat.le_refl _)) _
end Go.Proofs.Ythdenkmmiadeiaa
