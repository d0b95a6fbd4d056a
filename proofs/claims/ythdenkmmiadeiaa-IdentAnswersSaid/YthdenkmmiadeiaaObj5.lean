/- Contracts: From, Size, and the law's own 'sure'. -/
import Derived.Test.YthdenkmmiadeiaaObj4
namespace Go.Proofs.Ythdenkmmiadeiaa
set_option linter.unusedSimpArgs false
set_option linter.unusedVariables false
open Go.RowKit

def idxS (S : List (Int × List Int)) (id : Int) : Option Nat := S.findIdx? (fun x => x.1 == id)
def idxI (S : List (Int × List Int)) (id : Int) : Int := match idxS S id with
  | some k => k
  | none => -1
def fromS (S : List (Int × List Int)) (sort id : Int) : List (Int × List Int) := (ofS S sort).drop ((idxS (ofS S sort) id).getD 0)
theorem idx_hit {L : List Ob} {id : Int} {k : Nat} {x : Ob} (hx : L[k]? = some x) (hid : x.id = id) (h : ∀ (j : Nat) (y : Ob), j < k → L[j]? = some y → y.id ≠ id) : idxS (L.map Ob.s) id = some k := by
  rw [idxS, List.findIdx?_eq_some_iff_getElem]
  have hk := (List.getElem?_eq_some_iff.1 hx).1
  refine ⟨by simpa using hk, ?_, fun j hj => ?_⟩
  · have := (List.getElem?_eq_some_iff.1 hx).2
    simp [this, Ob.s, hid]
  · have := h j L[j] hj (List.getElem?_eq_getElem (by omega))
    simpa [Ob.s] using this
theorem idx_none {L : List Ob} {id : Int} (h : ∀ (j : Nat) (y : Ob), L[j]? = some y → y.id ≠ id) : idxS (L.map Ob.s) id = none := by
  rw [idxS, List.findIdx?_eq_none_iff]
  intro x hx
  obtain ⟨y, hy, rfl⟩ := List.mem_map.1 hx
  obtain ⟨j, hj, e⟩ := List.mem_iff_getElem.1 hy
  have := h j y (by rw [List.getElem?_eq_getElem hj, e])
  simpa [Ob.s] using this

theorem Obs.cut {w : World} {A : Option Addr} {n k cap : Nat} {L : List Ob} (h : Obs w A n L) (hk : k ≤ n) (hc : n ≤ cap) : Obs w (if cap = k then A else A.map (·.add (k * 2))) (n - k) (L.drop k) :=
  ⟨by
    have := h.rd.cut hk hc
    rwa [show (L.flatMap Ob.cs).drop (k * 2) = (L.drop k).flatMap Ob.cs from by
      clear this h hk hc
      induction k generalizing L with
      | zero => simp
      | succ k ih =>
        cases L with
        | nil => simp
        | cons x L =>
          rw [Nat.succ_mul, List.drop_succ_cons, ← ih, List.flatMap_cons, Nat.add_comm, ← List.drop_drop]
          rfl] at this,
   fun x hx => h.ok x (List.mem_of_mem_drop hx)⟩
theorem Obs.take_ {w : World} {A : Option Addr} {n k : Nat} {L : List Ob} (h : Obs w A n L) (hk : k ≤ n) : Obs w A k (L.take k) :=
  ⟨by
    have := h.rd.take_ hk
    rwa [show (L.flatMap Ob.cs).take (k * 2) = (L.take k).flatMap Ob.cs from by
      clear this h hk
      induction k generalizing L with
      | zero => simp
      | succ k ih =>
        cases L with
        | nil => simp
        | cons x L =>
          rw [Nat.succ_mul, List.take_succ_cons, List.flatMap_cons, List.flatMap_cons, ← ih]
          rfl] at this,
   fun x hx => h.ok x (List.mem_of_mem_take hx)⟩

set_option maxHeartbeats 1000000 in
theorem from1_any (x : Ob) (b : Nat) (id : Int) (w : World) (hb : w.cell? ⟨b, 0, none⟩ = some (.int .i64 id)) (hlt : b < w.heap.size) :
    Calls Try.prog 94 #[x.val, .pointer (some ⟨b, 0, none⟩)] w fun e w' => e = .returned (.bool (x.id == id)) ∧ Fr nob w w' := by
  obtain ⟨xi, xA, xn, xc, xd⟩ := x
  simp only [Ob.val]
  go_enter Try.func94, Try.ntmps94
  go_wp2
  go_ret
  exact ⟨rfl, (Fr.refl _ _).alloc _⟩

set_option maxHeartbeats 1000000 in
theorem index_any (A : Option Addr) (n c : Nat) (L : List Ob) (b : Nat) (id : Int) (w : World) (h : Obs w A n L) (hn : n ≤ c) (hc : c ≤ 9223372036854775807) (hb : w.cell? ⟨b, 0, none⟩ = some (.int .i64 id)) (hlt : b < w.heap.size) :
    Calls Try.prog 93 #[.slice A n c, .func (.func 94) #[] #[.pointer (some ⟨b, 0, none⟩)]] w fun e w' => e = .returned (.int .i64 (idxI (L.map Ob.s) id)) ∧ Fr nob w w' := by
  have hl := h.len
  go_enter Try.func93, Try.ntmps93
  go_wp2
  go_loopw [8] (fun i wr => ∃ k : Nat, k ≤ n ∧ i = .int .i64 k ∧ Fr nob w wr ∧ Hid (∀ (j : Nat) (y : Ob), j < k → L[j]? = some y → y.id ≠ id)) (fun i _ => n - (intOf i).toNat)
  case atStart => exact ⟨0, by omega, rfl, Fr.refl _ _, Lib.hid fun j x hj => absurd hj (by omega)⟩
  case round =>
    obtain ⟨k, hk, rfl, hf, heq⟩ := hrel
    by_cases hlt' : k < n
    · obtain ⟨b', o, x, rfl, hb', hx, hc0, hc1, hok⟩ := (h.nob hf).at_ hlt'
      have HX := Lib.hid hx
      clear hx
      have hi0 : (0 : Int) ≤ (k : Int) ∧ (k : Int) < (n : Int) := ⟨by omega, by omega⟩
      have hbr : wr.cell? ⟨b, 0, none⟩ = some (.int .i64 id) := (hf.cell (p := ⟨b, 0, none⟩) hlt (fun h => h)).trans hb
      have hltr : b < wr.heap.size := Nat.lt_of_lt_of_le hlt hf.size
      go_wp2_with fail
      refine (from1_any x b id _ hbr hltr).mono ?_
      rintro e w2 ⟨rfl, hf2⟩
      have hf3 := hf.trans hf2 (fun _ _ h => h)
      by_cases hid : x.id = id
      · have he : (x.id == id) = true := by simpa using hid
        have HI := Lib.hid (idx_hit HX.out hid heq.out)
        rw [he]
        clear hid he
        go_wp2_with fail
        go_ret
        exact ⟨by rw [idxI, HI.out]; rfl, hf3⟩
      · have he : (x.id == id) = false := by simpa using hid
        rw [he]
        go_wp2_with fail
        go_roundw
        case rel =>
          refine ⟨k + 1, by omega, by go_num, hf3, Lib.hid fun j y hj hy => ?_⟩
          rcases Nat.lt_or_ge j k with h | h
          · exact heq.out j y h hy
          · obtain rfl : j = k := by omega
            have e1 := hy.symm.trans HX.out
            cases e1
            exact hid
        case measure => simp [intOf]; omega
    · obtain rfl : k = n := by omega
      have HI := Lib.hid (idx_none (L := L) (id := id) (fun j y hy => heq.out j y (by have := (List.getElem?_eq_some_iff.1 hy).1; omega) hy))
      go_wp2
      go_ret
      exact ⟨by rw [idxI, HI.out]; rfl, hf⟩

set_option maxHeartbeats 1000000 in
theorem from_any (A : Option Addr) (n c : Nat) (L : List Ob) (sort id : Int) (w : World) (h : Obs w A n L) (hn : n ≤ c) (hc : c ≤ 9223372036854775807) (hL : ∀ x ∈ L, x.n ≤ 100000) (hm : n ≤ 100000) :
    Calls Try.prog 57 #[.slice A n c, .int .i64 sort, .int .i64 id] w (objsPost (fromS (L.map Ob.s) sort id) w) := by
  have hb0 := Blk.new w 3 #[.int .i64 id]
  have hf0 := (Fr.refl nob w).alloc (.cells #[.int .i64 id] 3)
  have h0 := h.nob hf0
  go_enter Try.func57, Try.ntmps57
  go_wp2_with fail
  refine (of_any A n c L sort _ h0 hn hc hL hm).mono ?_
  rintro e w2 ⟨hf2, A2, n2, c2, L2, rfl, hS, hO, hn2, hc2, hL2, hN2⟩
  have hN : Newer w.heap.size A2 L2 := ⟨fun ad h => by have := hN2.1 ad h; simp at this; omega, fun x hx ad h => by have := hN2.2 x hx ad h; simp at this; omega⟩
  have HNW := Lib.hid hN
  clear hN hN2
  have hb2 := hb0.fr hf2 (fun h => h)
  have HS := Lib.hid hS
  clear hS
  go_wp2_with fail
  refine (index_any A2 n2 c2 L2 _ id _ hO hn2 hc2 (hb2.cell 0) hb2.lt).mono ?_
  rintro e w3 ⟨rfl, hf3⟩
  have hl2 := hO.len
  have hfw : Fr nob w w3 := ((hf0.trans hf2 (fun _ _ h => h))).trans hf3 (fun _ _ h => h)
  have hO3 := hO.nob hf3
  obtain ⟨r, hr⟩ : ∃ r, r = idxS (L2.map Ob.s) id := ⟨_, rfl⟩
  cases r with
  | none =>
    have he : idxI (L2.map Ob.s) id = -1 := by rw [idxI, ← hr]
    have hd : fromS (L.map Ob.s) sort id = L2.map Ob.s := by rw [fromS, ← HS.out, ← hr]; rfl
    rw [he]
    have HD := Lib.hid hd
    clear hd hr he hl2
    go_wp2_with fail
    go_ret
    exact ⟨hfw, A2, n2, c2, L2, rfl, HD.out.symm, hO3, hn2, hc2, hL2, HNW.out⟩
  | some k =>
    have he : idxI (L2.map Ob.s) id = k := by rw [idxI, ← hr]
    have hk : k < n2 := by
      have := (List.findIdx?_eq_some_iff_getElem.1 hr.symm).1
      simp at this
      omega
    have hd : fromS (L.map Ob.s) sort id = (L2.drop k).map Ob.s := by rw [fromS, ← HS.out, ← hr, List.map_drop]; rfl
    rw [he]
    have HD := Lib.hid hd
    clear hd hr he hl2
    go_wp2_with fail
    go_ret
    have h4 := hO3.cut (cap := c2) (k := k) (by omega) (by omega)
    rw [if_neg (by omega)] at h4
    refine ⟨hfw, _, _, _, L2.drop k, rfl, HD.out.symm, h4, by omega, by omega, fun x hx => hL2 x (List.mem_of_mem_drop hx), fun ad h => ?_, fun x hx => HNW.out.2 x (List.mem_of_mem_drop hx)⟩
    cases A2 with
    | none => cases h
    | some a0 =>
      injection h with h
      rw [← h, block_add]
      exact HNW.out.1 a0 rfl

theorem size_any (x : Ob) (w : World) (hx : x.n ≤ 100000) :
    Calls Try.prog 25 #[x.val] w fun e w' => e = .returned (.int .i64 ((x.n : Int) + 2)) ∧ Fr nob w w' := by
  obtain ⟨xi, xA, xn, xc, xd⟩ := x
  simp only at hx
  simp only [Ob.val]
  go_enter Try.func25, Try.ntmps25
  go_wp2
  go_ret
  exact ⟨rfl, (Fr.refl _ _).alloc _⟩
end Go.Proofs.Ythdenkmmiadeiaa
