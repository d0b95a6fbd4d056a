/- Contract of When of a queue of timers. -/
import Derived.Test.YthdenkmmiadeiaaTim12
import Derived.Test.YthdenkmmiadeiaaTimLaw
namespace Go.Proofs.Ythdenkmmiadeiaa
set_option linter.unusedSimpArgs false
set_option linter.unusedVariables false
open Go.RowKit

/-- The time of a number; 0: it is not there. -/
def atS (L : List Tm) (id : Int) : Int := match L.find? (fun x => x.1 == id) with
  | some x => x.2
  | none => 0
theorem atS_none {L : List Tm} {id : Int} (h : hasS L id = false) : atS L id = 0 := by
  rw [atS]
  cases hf : L.find? (fun x => x.1 == id) with
  | none => rfl
  | some x =>
    have h1 := List.mem_of_find?_eq_some hf
    have h2 := List.find?_some hf
    have : hasS L id = true := has_iff.2 ⟨x, h1, by simpa using h2⟩
    rw [h] at this
    cases this
theorem good_inj {L : List Tm} (h : Good L) {x y : Tm} (hx : x ∈ L) (hy : y ∈ L) (he : x.1 = y.1) : x = y := by
  obtain ⟨i, hi, rfl⟩ := List.mem_iff_getElem.1 hx
  obtain ⟨j, hj, rfl⟩ := List.mem_iff_getElem.1 hy
  have h1 := h.2
  have : i = j := by
    have hp := List.pairwise_iff_getElem.1 h1
    rcases Nat.lt_trichotomy i j with hlt | hlt | hlt
    · exact absurd (by rw [List.getElem_map, List.getElem_map]; exact he) (hp i j (by simpa using hi) (by simpa using hj) hlt)
    · exact hlt
    · exact absurd (by rw [List.getElem_map, List.getElem_map]; exact he.symm) (hp j i (by simpa using hj) (by simpa using hi) hlt)
  subst this
  rfl
theorem atS_some {L : List Tm} (h : Good L) {x : Tm} (hx : x ∈ L) : atS L x.1 = x.2 := by
  rw [atS]
  cases hf : L.find? (fun y => y.1 == x.1) with
  | none =>
    have := List.find?_eq_none.1 hf x hx
    simp at this
  | some y =>
    have h1 := List.mem_of_find?_eq_some hf
    have h2 := List.find?_some hf
    have := good_inj h h1 hx (by simpa using h2)
    rw [this]

set_option maxHeartbeats 2000000 in
set_option maxRecDepth 100000 in
theorem qwhen_any (w : World) (base g mb : Nat) (v : Value) (E : List Ent) (L : List Tm) (id : Int) (h : QS w base g mb v E L) (hid : W64 id) :
    Calls Try.prog 34 #[.pointer (some ⟨g, 0, none⟩), .int .i64 id] w fun e w' => e = .returned (.tuple #[.int .i64 (atS L id), .bool (hasS L id)]) ∧ Fr nob w w' := by
  have hnone := none_any h
  have q0 := Blk.cell h.qb
  have q2 := Blk.lt h.qb
  have HNO := Lib.hid hnone
  clear hnone
  cases hhas : hasS L id with
  | false =>
    have hs : atS L id = 0 := atS_none hhas
    have hmiss := h.mp.get0 (hold_none h.hold hhas) hid
    rw [hs]
    clear hs hhas h
    go_enter Try.func34, Try.ntmps34
    go_wp2_with fail
    refine HNO.out.mono ?_
    rintro e w1 ⟨rfl, rfl⟩
    go_wp2_with fail
    go_ret2
    exact ⟨rfl, Fr.refl _ _⟩
  | true =>
    obtain ⟨i, hi, hid2⟩ := holds_has h.hold hhas
    have hit := h.mp.get (List.mem_of_getElem? (at_some hi)) (by rw [hid2]; exact hid)
    rw [hid2] at hit
    have hc := (h.th.blk' hi).cell 1
    have hmem : key (at' E i) ∈ L := h.hold.mem_iff.1 (List.mem_map.2 ⟨_, List.mem_of_getElem? (at_some hi), rfl⟩)
    have hat := atS_some h.good hmem
    rw [show (key (at' E i)).1 = id from hid2] at hat
    simp [tcs] at hc
    rw [hat]
    obtain ⟨a, ha⟩ : ∃ a, a = (key (at' E i)).2 := ⟨_, rfl⟩
    rw [show (at' E i).at_ = a from ha.symm] at hc
    rw [← ha]
    obtain ⟨b, hb⟩ : ∃ b, b = (at' E i).b := ⟨_, rfl⟩
    rw [← hb] at hc hit
    unfold ptr at hit
    clear hhas hid2 hi hat hmem ha hb h
    go_enter Try.func34, Try.ntmps34
    go_wp2_with fail
    refine HNO.out.mono ?_
    rintro e w1 ⟨rfl, rfl⟩
    go_wp2_with fail
    go_ret2
    exact ⟨rfl, Fr.refl _ _⟩
end Go.Proofs.Ythdenkmmiadeiaa
