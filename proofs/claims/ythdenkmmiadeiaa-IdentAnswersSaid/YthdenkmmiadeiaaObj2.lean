/- Contracts of what goes over objects: Few, Right, Level, Find, Same. -/
import Derived.Test.YthdenkmmiadeiaaObj
namespace Go.Proofs.Ythdenkmmiadeiaa
set_option linter.unusedSimpArgs false
set_option linter.unusedVariables false
open Go.RowKit

/-- What is wrong of an object behind one with the ID 'last', at place i. -/
def badOb (last : Int) (i : Nat) (x : Int × List Int) : Bool :=
  decide (x.1 ≤ last) || decide (256 ≤ x.1) || (decide (7 ≤ x.1) && decide (x.1 < 128)) || decide (240 < x.2.length) || (decide (i < 3) && decide (x.1 ≠ (i : Int)))
def rightFrom (last : Int) (i : Nat) : List (Int × List Int) → Bool
  | [] => true
  | x :: r => !badOb last i x && rightFrom x.1 (i + 1) r
def rightS (S : List (Int × List Int)) : Bool := rightFrom (-1) 0 S && decide (3 ≤ S.length)
def lastId (last : Int) (L : List Ob) (k : Nat) : Int := match k with
  | 0 => last
  | k + 1 => match L[k]? with
    | some x => x.id
    | none => last
theorem rightFrom_cut (last : Int) (i k : Nat) (L : List Ob) (x : Ob) (hk : L[k]? = some x) (hb : ∀ j y, j < k → L[j]? = some y → badOb (lastId last L j) (i + j) y.s = false) :
    rightFrom last i (L.map Ob.s) = rightFrom (lastId last L k) (i + k) (((L.drop k)).map Ob.s) := by
  induction k generalizing last i L with
  | zero => simp [lastId]
  | succ k ih =>
    cases L with
    | nil => simp at hk
    | cons y L =>
      have h0 := hb 0 y (by omega) rfl
      simp only [lastId, Nat.add_zero] at h0
      have e : ∀ j, j ≤ k → lastId last (y :: L) (j + 1) = lastId y.id L j := by
        intro j hj
        cases j with
        | zero => rfl
        | succ j =>
          simp only [lastId, List.getElem?_cons_succ]
          have : j < L.length := by
            have := (List.getElem?_eq_some_iff.1 hk).1
            simp at this; omega
          rw [List.getElem?_eq_getElem this]
      rw [List.map_cons, rightFrom, h0, Bool.not_false, Bool.true_and]
      have := ih y.id (i + 1) L (by simpa using hk) (fun j z hj hz => by
        have := hb (j + 1) z (by omega) (by simpa using hz)
        rwa [e j (by omega), show i + (j + 1) = i + 1 + j from by omega] at this)
      rw [e k (Nat.le_refl _), show i + (k + 1) = i + 1 + k from by omega]
      simpa [Ob.s] using this

theorem bad_iff {la : Int} {k : Nat} {i : Int} {d : List Int} : badOb la k (i, d) = true ↔ i ≤ la ∨ 256 ≤ i ∨ (7 ≤ i ∧ i < 128) ∨ 240 < d.length ∨ (k < 3 ∧ i ≠ (k : Int)) := by
  simp [badOb, or_assoc]
theorem right_bad {L : List Ob} {k : Nat} {x : Ob} {la : Int} (hx : L[k]? = some x) (hla : la = lastId (-1) L k) (hb : ∀ j y, j < k → L[j]? = some y → badOb (lastId (-1) L j) (0 + j) y.s = false) (h : badOb la k x.s = true) : rightS (L.map Ob.s) = false := by
  have hd : L.drop k = x :: L.drop (k + 1) := by
    obtain ⟨h1, h2⟩ := List.getElem?_eq_some_iff.1 hx
    rw [List.drop_eq_getElem_cons h1, h2]
  rw [rightS, rightFrom_cut (-1) 0 k L x hx hb, hd, List.map_cons, rightFrom, Nat.zero_add, ← hla, h]
  rfl
theorem rightFrom_all (last : Int) (i : Nat) (L : List Ob) (hb : ∀ j y, j < L.length → L[j]? = some y → badOb (lastId last L j) (i + j) y.s = false) : rightFrom last i (L.map Ob.s) = true := by
  rcases Nat.eq_zero_or_pos L.length with h0 | h0
  · rw [List.eq_nil_of_length_eq_zero h0]; rfl
  · have hx : L[L.length - 1]? = some L[L.length - 1] := List.getElem?_eq_getElem (by omega)
    rw [rightFrom_cut last i (L.length - 1) L _ hx (fun j y hj => hb j y (by omega)), List.drop_eq_getElem_cons (by omega), List.map_cons, rightFrom, hb _ _ (by omega) hx, List.drop_of_length_le (by omega)]
    rfl

set_option maxHeartbeats 1000000 in
theorem right_any (A : Option Addr) (n c : Nat) (L : List Ob) (w : World) (h : Obs w A n L) (hn : n ≤ c) (hc : c ≤ 9223372036854775807) :
    Calls Try.prog 22 #[.slice A n c] w fun e w' => e = .returned (.bool (rightS (L.map Ob.s))) ∧ Fr nob w w' := by
  have hl := h.len
  go_enter Try.func22, Try.ntmps22
  go_wp2
  go_loopw [3, 9] (fun la i wr => ∃ k : Nat, k ≤ n ∧ i = .int .i64 k ∧ la = .int .i64 (lastId (-1) L k) ∧ Fr nob w wr ∧ Hid (∀ j y, j < k → L[j]? = some y → badOb (lastId (-1) L j) (0 + j) y.s = false)) (fun _ i _ => n - (intOf i).toNat)
  case atStart => exact ⟨0, by omega, rfl, rfl, Fr.refl _ _, fun j y hj => absurd hj (by omega)⟩
  case round =>
    obtain ⟨k, hk, rfl, rfl, hf, hbad⟩ := hrel
    by_cases hlt : k < n
    · obtain ⟨b, o, x, rfl, hb, hx, hc0, hc1, hok⟩ := (h.nob hf).at_ hlt
      have hi0 : (0 : Int) ≤ (k : Int) ∧ (k : Int) < (n : Int) := ⟨by omega, by omega⟩
      have hxl := hok.len
      obtain ⟨xid, xA, xn, xc, xd⟩ := x
      obtain ⟨hxr, hxn, hxm⟩ := hok
      simp only at hc0 hc1 hxl hxr hxn hxm
      have HX := Lib.hid hx
      clear hx
      obtain ⟨la, hla⟩ : ∃ la, la = lastId (-1) L k := ⟨_, rfl⟩
      have HLA := Lib.hid hla
      rw [← hla]
      clear hla
      go_wp2_with fail
      all_goals first
        | (go_ret
           try simp only [bne_iff_ne] at *
           have hbd : badOb la k (xid, xd) = true := bad_iff.2 (by omega)
           exact ⟨by rw [right_bad HX.out HLA.out hbad.out hbd]; rfl, hf.alloc _⟩)
        | (go_roundw
           case rel =>
             try simp only [bne_eq_false_iff_eq] at *
             have hbd : badOb la k (xid, xd) = false := by
               rw [← Bool.not_eq_true]
               exact fun h => absurd (bad_iff.1 h) (by omega)
             refine ⟨k + 1, by omega, by go_num, ?_, hf.alloc _, Lib.hid ?_⟩
             · rw [lastId, HX.out]
             · intro j y hj hy
               rcases Nat.lt_or_ge j k with h | h
               · exact hbad.out j y h hy
               · obtain rfl : j = k := by omega
                 rw [HX.out] at hy
                 cases hy
                 rw [← HLA.out, Nat.zero_add]
                 exact hbd
           case measure => simp [intOf]; omega)
    · obtain rfl : k = n := by omega
      go_wp2
      go_ret
      refine ⟨?_, hf⟩
      rw [rightS, rightFrom_all (-1) 0 L (fun j y hj => hbad.out j y (by omega)), List.length_map, hl, Bool.true_and]
      go_num
end Go.Proofs.Ythdenkmmiadeiaa
