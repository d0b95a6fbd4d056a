/- Contracts of the document's timers (bilgeref06): Find, Drop, Before, Set, Due. -/
import Derived.Test.YthdenkmmiadeiaaRows
import Derived.Test.YthdenkmmiadeiaaQueueLaw
import Derived.Test.YthdenkmmiadeiaaNums
import Derived.Test.YthdenkmmiadeiaaOwn
import Derived.Test.YthdenkmmiadeiaaLate
import Derived.Test.YthdenkmmiadeiaaCut
namespace Go.Proofs.Ythdenkmmiadeiaa
set_option linter.unusedSimpArgs false
set_option linter.unusedVariables false
open Go.RowKit

/-- A timer of the document as it lies. -/
def tmc (x : Tm) : List Value := [.int .i64 x.1, .int .i64 x.2]
theorem tmc_len (x : Tm) : (tmc x).length = 2 := rfl
theorem tm_info : (Try.prog.info? 69).map (fun i => (i.zero, i.size, i.bytes)) = some (some (.agg #[.int .i64 0, .int .i64 0]), 2, 16) := by kernel_rfl
theorem i64_info : (Try.prog.info? 3).map (fun i => (i.zero, i.size, i.bytes)) = some (some (.int .i64 0), 1, 8) := by kernel_rfl
def Tms (w : World) (A : Option Addr) (n : Nat) (L : List Tm) : Prop := Rd w 2 A n (L.flatMap tmc)
section
variable {w w' : World} {A : Option Addr} {n : Nat} {L : List Tm}
theorem Tms.len (h : Tms w A n L) : L.length = n := by
  have := h.1
  rw [flat_len tmc 2 L tmc_len] at this
  omega
theorem Tms.at_ (h : Tms w A n L) {k : Nat} (hk : k < n) : ∃ b o x, A = some ⟨b, o, none⟩ ∧ b < w.heap.size ∧ L[k]? = some x ∧ w.cell? ⟨b, o + k * 2, none⟩ = some (.int .i64 x.1) ∧ w.cell? ⟨b, o + k * 2 + 1, none⟩ = some (.int .i64 x.2) := by
  obtain ⟨b, o, x, e, hb, hx, hc⟩ := Rd.row tmc_len (by omega) h hk
  exact ⟨b, o, x, e, hb, hx, hc 0 _ rfl, hc 1 _ rfl⟩
theorem Tms.nob (h : Tms w A n L) (hf : Fr nob w w') : Tms w' A n L := Rd.nob h hf
theorem Tms.of_own {base c : Nat} (h : w.ownsRow base 69 2 (.slice A n c) n (L.flatMap tmc)) : Tms w A n L := Rd.of_own h
end
/-- The place of a number; -1: it is not there. -/
def idxT (L : List Tm) (id : Int) : Int := match L.findIdx? (fun x => x.1 == id) with
  | some k => k
  | none => -1
theorem idxT_hit {L : List Tm} {id : Int} {k : Nat} {x : Tm} (hx : L[k]? = some x) (hid : x.1 = id) (h : ∀ (j : Nat) (y : Tm), j < k → L[j]? = some y → y.1 ≠ id) : idxT L id = k := by
  obtain ⟨hk, e⟩ := List.getElem?_eq_some_iff.1 hx
  have : L.findIdx? (fun x => x.1 == id) = some k := by
    rw [List.findIdx?_eq_some_iff_getElem]
    refine ⟨hk, by rw [e]; simpa using hid, fun j hj => ?_⟩
    have := h j L[j] hj (List.getElem?_eq_getElem (by omega))
    simpa using this
  rw [idxT, this]
theorem idxT_none {L : List Tm} {id : Int} (h : ∀ (j : Nat) (y : Tm), L[j]? = some y → y.1 ≠ id) : idxT L id = -1 := by
  have : L.findIdx? (fun x => x.1 == id) = none := by
    rw [List.findIdx?_eq_none_iff]
    intro x hx
    obtain ⟨j, hj, e⟩ := List.mem_iff_getElem.1 hx
    have := h j x (by rw [List.getElem?_eq_getElem hj, e])
    simpa using this
  rw [idxT, this]
theorem idxT_has (L : List Tm) (id : Int) : (0 ≤ idxT L id ∧ hasS L id = true ∧ ∃ (k : Nat) (x : Tm), idxT L id = k ∧ L[k]? = some x ∧ x.1 = id) ∨ (idxT L id = -1 ∧ hasS L id = false) := by
  cases h : L.findIdx? (fun x => x.1 == id) with
  | none =>
    refine .inr ⟨by rw [idxT, h], Bool.eq_false_iff.2 fun hh => ?_⟩
    obtain ⟨x, hx, he⟩ := has_iff.1 hh
    have := List.findIdx?_eq_none_iff.1 h x hx
    simp [he] at this
  | some k =>
    obtain ⟨h1, h2, _⟩ := List.findIdx?_eq_some_iff_getElem.1 h
    have e : idxT L id = k := by rw [idxT, h]
    refine .inl ⟨by omega, has_iff.2 ⟨_, List.getElem_mem h1, by simpa using h2⟩, k, L[k], e, List.getElem?_eq_getElem h1, by simpa using h2⟩

set_option maxHeartbeats 1000000 in
set_option maxRecDepth 100000 in
theorem ref06_find (A : Option Addr) (n c : Nat) (L : List Tm) (id : Int) (w : World) (h : Tms w A n L) (hn : n ≤ 9223372036854775807) :
    Calls Try.prog 33 #[.slice A n c, .int .i64 id] w fun e w' => e = .returned (.int .i64 (idxT L id)) ∧ w = w' := by
  have HLN := Lib.hid h.len
  go_enter Try.func33, Try.ntmps33
  go_wp2_with fail
  go_loop [5] (fun i => ∃ k : Nat, k ≤ n ∧ i = .int .i64 k ∧ Hid (∀ (j : Nat) (y : Tm), j < k → L[j]? = some y → y.1 ≠ id)) (fun i => n - (intOf i).toNat)
  case atStart => exact ⟨0, by omega, rfl, Lib.hid fun j y hj => absurd hj (by omega)⟩
  case round =>
    obtain ⟨k, hk, rfl, hno⟩ := hrel
    by_cases hlt : k < n
    · obtain ⟨b, o, x, rfl, hb, hx, hc0, hc1⟩ := h.at_ hlt
      have hi0 : (0 : Int) ≤ (k : Int) ∧ (k : Int) < (n : Int) := ⟨by omega, by omega⟩
      by_cases hid : x.1 = id
      · have e1 : (x.1 == id) = true := by rw [beq_iff_eq]; exact hid
        have HI := Lib.hid (idxT_hit hx hid hno.out)
        clear hid hx
        go_wp2_with fail
        go_ret
        exact ⟨by rw [HI.out]; rfl, rfl⟩
      · have e1 : (x.1 == id) = false := by rw [beq_eq_false_iff_ne]; exact hid
        have HX := Lib.hid hx
        have HID := Lib.hid hid
        clear hid hx
        go_wp2_with fail
        go_round
        case rel =>
          refine ⟨k + 1, by omega, by go_num, Lib.hid fun j y hj hy => ?_⟩
          rcases Nat.lt_or_ge j k with h | h
          · exact hno.out j y h hy
          · obtain rfl : j = k := by omega
            have e2 := hy.symm.trans HX.out
            cases e2
            exact HID.out
        case measure => simp [intOf]; omega
    · obtain rfl : k = n := by omega
      have HI := Lib.hid (idxT_none (fun j y hy => hno.out j y (by rw [← HLN.out]; exact (List.getElem?_eq_some_iff.1 hy).1) hy))
      go_wp2_with fail
      go_ret
      exact ⟨by rw [HI.out]; rfl, rfl⟩

/-- The block of a list of the document is of its type. -/
def TyA (w : World) (A : Option Addr) : Prop := ∀ ad, A = some ad → ∃ cs, Blk w ad.block 69 cs
theorem TyA.of_own {w : World} {base n c size : Nat} {A : Option Addr} {xs : List Value} (h : w.ownsRow base 69 size (.slice A n c) n xs) : TyA w A := by
  rintro ad rfl
  exact own_block h ad.block rfl
theorem TyA.fr {w w' : World} {A : Option Addr} (h : TyA w A) (hf : Fr nob w w') : TyA w' A := fun ad he => by
  obtain ⟨cs, hb⟩ := h ad he
  exact ⟨cs, hb.fr hf (fun h => h)⟩
theorem TyA.nil (w : World) : TyA w none := fun _ h => by cases h
/-- A list of the document, in new memory or in old. -/
def tmsR (L : List Tm) (w : World) (e : Ending) (w' : World) : Prop := Fr nob w w' ∧ ∃ A n c, e = .returned (.slice A n c) ∧ Tms w' A n L ∧ n ≤ c ∧ c ≤ 9223372036854775807 ∧ TyA w' A
theorem take_filterT {L : List Tm} {k : Nat} {x : Tm} (hx : L[k]? = some x) (f : Tm → Bool) : (L.take (k + 1)).filter f = (L.take k).filter f ++ (if f x then [x] else []) := by
  rw [List.take_add_one, hx, List.filter_append]
  simp [List.filter_cons]
set_option maxHeartbeats 2000000 in
set_option maxRecDepth 100000 in
theorem ref06_drop (A : Option Addr) (n c : Nat) (L : List Tm) (id : Int) (w : World) (h : Tms w A n L) (hn : n ≤ 100000) :
    Calls Try.prog 71 #[.slice A n c, .int .i64 id] w (tmsR (dropS L id) w) := by
  have HLN := Lib.hid h.len
  go_enter Try.func71, Try.ntmps71
  go_wp2_with fail
  go_loopw [5, 6] (fun v i wr => ∃ (k m : Nat) (M : List Tm), k ≤ n ∧ i = .int .i64 k ∧ Hid (M = (L.take k).filter (fun x => x.1 != id)) ∧ m ≤ k ∧ wr.ownsRow w.heap.size 69 2 v m (M.flatMap tmc) ∧ Fr nob w wr) (fun _ i _ => n - (intOf i).toNat)
  case atStart => exact ⟨0, 0, [], by omega, rfl, Lib.hid (by simp), by omega, World.ownsRow_nil _ _ _ _, Fr.refl _ _⟩
  case round =>
    obtain ⟨k, m, M, hk, rfl, HM, hmk, hown, hf⟩ := hrel
    by_cases hlt : k < n
    · obtain ⟨b, o, x, rfl, hb, hx, hc0, hc1⟩ := (h.nob hf).at_ hlt
      have hi0 : (0 : Int) ≤ (k : Int) ∧ (k : Int) < (n : Int) := ⟨by omega, by omega⟩
      have HTF := Lib.hid (take_filterT hx (fun x => x.1 != id))
      have hzf := hf.size
      obtain ⟨xi, xa⟩ := x
      dsimp only at hc0 hc1
      clear hx
      cases hkb : (xi != id) with
      | false =>
        go_wp2_with fail
        go_roundw
        case rel => exact ⟨k + 1, m, M, by omega, by go_num, Lib.hid (by rw [HTF.out, HM.out]; (try dsimp only); rw [hkb]; simp), by omega, hown, hf⟩
        case measure => simp [intOf]; omega
      | true =>
        go_wp2_with (at_builtin; (refine app_one (P := Try.prog) w.heap.size rfl _ _ _ 69 (.agg #[.int .i64 0, .int .i64 0]) 2 16 rfl Try.underlying60 tm_info rfl (by omega) u5 m (M.flatMap tmc) _ rfl rfl rfl (by simp [Value.oneCell']) hown hzf (by omega) (by omega) ?_); intro v1 w1 hown1 hg1 hat1)
        go_roundw
        case rel =>
          refine ⟨k + 1, m + 1, M ++ [(xi, xa)], by omega, by go_num, Lib.hid (by rw [HTF.out, HM.out]; (try dsimp only); rw [hkb]; simp), by omega, ?_, hf.grown hg1 (fun k hk => .inr (own_at hown k hk))⟩
          simpa [List.flatMap_append, tmc] using hown1
        case measure => simp [intOf]; omega
    · obtain rfl : k = n := by omega
      obtain ⟨Av, cv, rfl, hle, _⟩ := own_form hown
      have hcap := own_cap hown
      have HTM := Lib.hid (show M = dropS L id by rw [HM.out, List.take_of_length_le (by rw [HLN.out]; omega)]; rfl)
      go_wp2_with fail
      go_ret
      refine ⟨hf, Av, m, cv, rfl, ?_, hle, hcap, TyA.of_own hown⟩
      rw [← HTM.out]
      exact Tms.of_own hown

set_option maxHeartbeats 1000000 in
set_option maxRecDepth 100000 in
theorem ref06_before (xi xa yi ya : Int) (w : World) :
    Calls Try.prog 99 #[.agg #[.int .i64 xi, .int .i64 xa], .agg #[.int .i64 yi, .int .i64 ya]] w fun e w' => e = .returned (.bool (decide (ltK (xi, xa) (yi, ya)))) ∧ Fr nob w w' := by
  obtain ⟨s, hs⟩ : ∃ s, s = decide (ltK (xi, xa) (yi, ya)) := ⟨_, rfl⟩
  rw [← hs]
  have HS := Lib.hid hs
  clear hs
  have hcase : (decide (xa < ya) = true ∧ Hid (s = true)) ∨ (decide (xa < ya) = false ∧ (xa == ya) = false ∧ Hid (s = false)) ∨ (decide (xa < ya) = false ∧ (xa == ya) = true ∧ Hid (s = decide (xi < yi))) := by
    have e : s = decide (xa < ya ∨ (xa = ya ∧ xi < yi)) := HS.out
    rcases Int.lt_trichotomy xa ya with h | h | h
    · exact .inl ⟨decide_eq_true h, Lib.hid (by rw [e]; exact decide_eq_true (.inl h))⟩
    · exact .inr (.inr ⟨decide_eq_false (by omega), by rw [beq_iff_eq]; exact h, Lib.hid (by rw [e]; subst h; simp)⟩)
    · exact .inr (.inl ⟨decide_eq_false (by omega), by rw [beq_eq_false_iff_ne]; omega, Lib.hid (by rw [e]; exact decide_eq_false (by omega))⟩)
  clear HS
  rcases hcase with ⟨h, hs⟩ | ⟨h, h2, hs⟩ | ⟨h, h2, hs⟩
  all_goals
    go_enter Try.func99, Try.ntmps99
    go_wp2_with fail
    go_ret
    exact ⟨by rw [hs.out]; rfl, ((Fr.refl _ _).alloc _).alloc _⟩
end Go.Proofs.Ythdenkmmiadeiaa
