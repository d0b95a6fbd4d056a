/- A part of the identification as it lies; whether it may be (package ident). -/
import Derived.Test.YthdenkmmiadeiaaObj5
import Derived.Test.YthdenkmmiadeiaaMix
import Derived.Test.YthdenkmmiadeiaaCut
import Derived.Test.YthdenkmmiadeiaaBytes
import Derived.Deep.RegionWith
import Derived.Deep.DeepCutAuto
import Derived.Deep.CutBlock
namespace Go.Proofs.Ythdenkmmiadeiaa
set_option linter.unusedSimpArgs false
set_option linter.unusedVariables false
open Go.RowKit

/-- A part as it lies. -/
structure Pt where
  code : Int
  level : Int
  more : Bool
  next : Int
  A : Option Addr
  n : Nat
  c : Nat
  L : List Ob
/-- What a part says. -/
structure Ps where
  code : Int
  level : Int
  more : Bool
  next : Int
  S : List (Int × List Int)
def Pt.cells (p : Pt) : Array Value := #[.int .i64 p.code, .int .i64 p.level, .bool p.more, .int .i64 p.next, .slice p.A p.n p.c]
def Pt.val (p : Pt) : Value := .agg p.cells
def Pt.s (p : Pt) : Ps := ⟨p.code, p.level, p.more, p.next, p.L.map Ob.s⟩
def Pt.ok (w : World) (p : Pt) : Prop := Obs w p.A p.n p.L ∧ p.n ≤ p.c ∧ p.c ≤ 9223372036854775807
theorem Pt.ok.nob {w w' : World} {p : Pt} (h : p.ok w) (hf : Fr nob w w') : p.ok w' := ⟨h.1.nob hf, h.2⟩
def inB (n a b : Int) : Bool := decide (a ≤ n) && decide (n ≤ b)
/-- May an object be said? -/
def obMay (x : Int × List Int) : Bool := inB x.1 0 255 && decide (x.2.length ≤ 240)
/-- May a part be, but for how long it is? -/
def ptMay (p : Ps) : Bool := (decide (p.next = 0) || (p.more && inB p.next 0 255)) && p.S.all obMay && inB p.code 1 4 && inB p.level 1 3 && decide (p.S.length ≤ 255)

theorem ident_in (n a b : Int) (w : World) : Calls Try.prog 62 #[.int .i64 n, .int .i64 a, .int .i64 b] w fun e w' => e = .returned (.bool (inB n a b)) ∧ w' = w := by
  obtain ⟨s, hs⟩ : ∃ s, s = inB n a b := ⟨_, rfl⟩
  rw [← hs]
  have HS := Lib.hid hs
  clear hs
  by_cases h : a ≤ n
  all_goals
    go_enter Try.func62, Try.ntmps62
    go_wp2
    go_ret
    refine ⟨congrArg Ending.returned (congrArg Value.bool ?_), rfl⟩
    rw [HS.out, inB]
    first | rw [decide_eq_true h] | rw [decide_eq_false (by omega)]
    simp
theorem obMay_bad {S : List (Int × List Int)} {L : List Ob} (hS : S = L.map Ob.s) {k : Nat} {x : Ob} (hx : L[k]? = some x) (h : obMay x.s = false) : S.all obMay = false := by
  rw [hS]
  apply Bool.eq_false_iff.2
  intro hall
  rw [List.all_eq_true] at hall
  have := hall x.s (List.mem_map.2 ⟨x, List.mem_of_getElem? hx, rfl⟩)
  rw [h] at this
  cases this
set_option maxHeartbeats 2000000 in
set_option maxRecDepth 100000 in
theorem ident_may (p : Pt) (w : World) (hp : p.ok w) : Calls Try.prog 51 #[p.val] w fun e w' => e = .returned (.bool (ptMay p.s)) ∧ Fr nob w w' := by
  obtain ⟨code, level, more, next, A, n, c, L⟩ := p
  obtain ⟨hO, hn, hc⟩ := hp
  dsimp only at hO hn hc
  have hl := hO.len
  obtain ⟨s, hs⟩ : ∃ s, s = ptMay (⟨code, level, more, next, A, n, c, L⟩ : Pt).s := ⟨_, rfl⟩
  rw [← hs]
  have HS := Lib.hid hs
  have hb0 := Blk.new w 24 #[.int .i64 code, .int .i64 level, .bool more, .int .i64 next, .slice A n c]
  have hf0 := (Fr.refl nob w).alloc (.cells #[.int .i64 code, .int .i64 level, .bool more, .int .i64 next, .slice A n c] 24)
  clear hs
  rw [Pt.val, Pt.cells]
  dsimp only
  obtain ⟨nx, hnx⟩ : ∃ nx, nx = (decide (next = 0) || (more && inB next 0 255)) := ⟨_, rfl⟩
  have HNX := Lib.hid hnx
  clear hnx
  have HLN := Lib.hid hl
  clear hl
  go_enter Try.func51, Try.ntmps51
  go_upto_region 1 with fail
  go_cut [3] (fun v wc => v = .bool nx ∧ Fr nob w wc ∧ Blk wc w.heap.size 24 #[.int .i64 code, .int .i64 level, .bool more, .int .i64 next, .slice A n c])
  case first =>
    by_cases hz : next = 0
    · have e0 : (next == 0) = true := by rw [beq_iff_eq]; exact hz
      have hn1 : nx = true := by rw [HNX.out, decide_eq_true hz]; rfl
      subst hn1
      clear hz
      go_wp2_with fail
      go_meet
      exact ⟨rfl, hf0, hb0⟩
    · have e0 : (next == 0) = false := by rw [beq_eq_false_iff_ne]; exact hz
      cases more with
      | false =>
        have hn1 : nx = false := by rw [HNX.out, decide_eq_false hz]; rfl
        subst hn1
        clear hz
        go_wp2_with fail
        go_meet
        exact ⟨rfl, hf0, hb0⟩
      | true =>
        have hn1 : nx = inB next 0 255 := by rw [HNX.out, decide_eq_false hz]; rfl
        subst hn1
        clear hz
        go_wp2_with fail
        refine (ident_in _ _ _ _).mono ?_
        rintro e w1 ⟨rfl, rfl⟩
        go_wp2_with fail
        go_meet
        exact ⟨rfl, hf0, hb0⟩
  case rest =>
    obtain ⟨rfl, hf1, hb1⟩ := hcut
    have q1 := hb1.cell
    clear hb0 hf0
    go_wp2_with fail
    go_loopw [21] (fun i wr => ∃ k : Nat, k ≤ n ∧ i = .int .i64 k ∧ Fr nob w wr ∧ Blk wr w.heap.size 24 #[.int .i64 code, .int .i64 level, .bool more, .int .i64 next, .slice A n c] ∧ Hid (∀ (j : Nat) (y : Ob), j < k → L[j]? = some y → obMay y.s = true)) (fun i _ => n - (intOf i).toNat)
    case atStart => exact ⟨0, by omega, rfl, hf1, hb1, Lib.hid fun j x hj => absurd hj (by omega)⟩
    case round =>
      clear hf1 hb1 q1
      obtain ⟨k, hk, rfl, hf, hblk, heq⟩ := hrel
      by_cases hlt : k < n
      · obtain ⟨b, o, x, rfl, hb, hx, hc0, hc1, hok⟩ := (hO.nob hf).at_ hlt
        have HX := Lib.hid hx
        have hxl := hok.len
        have HXL := Lib.hid hxl
        clear hx hxl
        have hi0 : (0 : Int) ≤ (k : Int) ∧ (k : Int) < (n : Int) := ⟨by omega, by omega⟩
        obtain ⟨xi, xA, xn, xc, xd⟩ := x
        dsimp only at hc0 hc1 HXL
        have hok' := hok
        obtain ⟨_, hxc, hxm⟩ := hok'
        dsimp only at hxc hxm
        clear hok
        go_wp2_with fail
        refine (ident_in _ _ _ _).mono ?_
        rintro e w1 ⟨rfl, rfl⟩
        cases hin : inB xi 0 255 with
        | false =>
          have HIN := Lib.hid hin
          clear hin
          go_wp2_with fail
          go_ret
          refine ⟨?_, hf.alloc _⟩
          rw [HS.out, ptMay]
          show Ending.returned (Value.bool false) = Ending.returned (Value.bool ((_ && (L.map Ob.s).all obMay) && _ && _ && _))
          rw [obMay_bad rfl HX.out (by rw [obMay]; show (inB xi 0 255 && _) = false; rw [HIN.out]; rfl)]
          simp
        | true =>
          have HIN := Lib.hid hin
          clear hin
          by_cases hxl : 240 < xn
          · go_wp2_with fail
            go_ret
            refine ⟨?_, hf.alloc _⟩
            rw [HS.out, ptMay]
            show Ending.returned (Value.bool false) = Ending.returned (Value.bool ((_ && (L.map Ob.s).all obMay) && _ && _ && _))
            rw [obMay_bad rfl HX.out (by rw [obMay]; show (inB xi 0 255 && decide (xd.length ≤ 240)) = false; rw [HXL.out, decide_eq_false (by omega)]; simp)]
            simp
          · go_wp2_with fail
            go_roundw
            case rel =>
              refine ⟨k + 1, by omega, by go_num, hf.alloc _, hblk.alloc _, Lib.hid fun j y hj hy => ?_⟩
              rcases Nat.lt_or_ge j k with h | h
              · exact heq.out j y h hy
              · obtain rfl : j = k := by omega
                have e1 := hy.symm.trans HX.out
                cases e1
                show (inB xi 0 255 && decide (xd.length ≤ 240)) = true
                rw [HIN.out, HXL.out, decide_eq_true (by omega)]
                rfl
            case measure => simp [intOf]; omega
      · obtain rfl : k = n := by omega
        have hall : (L.map Ob.s).all obMay = true := by
          rw [List.all_eq_true]
          intro z hz
          obtain ⟨y, hy, rfl⟩ := List.mem_map.1 hz
          obtain ⟨j, hj, hjy⟩ := List.mem_iff_getElem.1 hy
          exact heq.out j y (by rw [← HLN.out]; exact hj) (by rw [List.getElem?_eq_getElem hj, hjy])
        have hs2 : s = (nx && inB code 1 4 && inB level 1 3 && decide (k ≤ 255)) := by
          rw [HS.out, ptMay, HNX.out]
          show ((_ && (L.map Ob.s).all obMay) && inB code 1 4 && inB level 1 3 && decide ((L.map Ob.s).length ≤ 255)) = _
          rw [hall, List.length_map, HLN.out, Bool.and_true]
          rfl
        have HS2 := Lib.hid hs2
        have q1 := hblk.cell
        clear hs2 hall heq HS HNX
        cases hnx : nx with
        | false =>
          subst hnx
          go_wp2_with fail
          go_ret
          exact ⟨by rw [HS2.out]; rfl, hf⟩
        | true =>
          subst hnx
          go_wp2_with fail
          refine (ident_in _ _ _ _).mono ?_
          rintro e w1 ⟨rfl, rfl⟩
          cases h1 : inB code 1 4 with
          | false =>
            have H1 := Lib.hid h1
            clear h1
            go_wp2_with fail
            go_ret
            exact ⟨by rw [HS2.out, H1.out]; rfl, hf⟩
          | true =>
            have H1 := Lib.hid h1
            clear h1
            go_wp2_with fail
            refine (ident_in _ _ _ _).mono ?_
            rintro e w1 ⟨rfl, rfl⟩
            cases h2 : inB level 1 3 with
            | false =>
              have H2 := Lib.hid h2
              clear h2
              go_wp2_with fail
              go_ret
              exact ⟨by rw [HS2.out, H1.out, H2.out]; rfl, hf⟩
            | true =>
              have H2 := Lib.hid h2
              clear h2
              go_wp2_with fail
              go_ret
              refine ⟨?_, hf⟩
              rw [HS2.out, H1.out, H2.out]
              simp
              try omega
end Go.Proofs.Ythdenkmmiadeiaa
