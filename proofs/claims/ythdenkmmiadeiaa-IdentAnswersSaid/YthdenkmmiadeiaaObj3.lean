/- Contracts of what goes over objects: Few, Level, Find, Same. -/
import Derived.Test.YthdenkmmiadeiaaObj2
namespace Go.Proofs.Ythdenkmmiadeiaa
set_option linter.unusedSimpArgs false
set_option linter.unusedVariables false
open Go.RowKit

def fewPost (n : Nat) (w : World) (e : Ending) (w' : World) : Prop := ∃ b, e = .returned (.bool b) ∧ Fr nob w w' ∧ (b = true → n ≤ 140)
set_option maxHeartbeats 1000000 in
theorem few_any (A : Option Addr) (n c : Nat) (L : List Ob) (w : World) (h : Obs w A n L) (hn : n ≤ c) (hc : c ≤ 9223372036854775807) :
    Calls Try.prog 11 #[.slice A n c] w (fewPost n w) := by
  have hl := h.len
  go_enter Try.func11, Try.ntmps11
  go_wp2
  go_loopw [3, 4] (fun s i wr => ∃ (k : Nat) (z : Int), k ≤ n ∧ i = .int .i64 k ∧ s = .int .i64 z ∧ Fr nob w wr) (fun _ i _ => n - (intOf i).toNat)
  case atStart => exact ⟨0, 0, by omega, rfl, rfl, Fr.refl _ _⟩
  case round =>
    obtain ⟨k, z, hk, rfl, rfl, hf⟩ := hrel
    by_cases hlt : k < n
    · obtain ⟨b, o, x, rfl, hb, hx, hc0, hc1, hok⟩ := (h.nob hf).at_ hlt
      have hi0 : (0 : Int) ≤ (k : Int) ∧ (k : Int) < (n : Int) := ⟨by omega, by omega⟩
      go_wp2
      go_roundw
      case rel => exact ⟨k + 1, _, by omega, by go_num, rfl, hf⟩
      case measure => simp [intOf]; omega
    · obtain rfl : k = n := by omega
      go_wp2
      all_goals
        go_ret
        exact ⟨_, rfl, hf, fun hb => by first | omega | cases hb⟩

def lastS (S : List (Int × List Int)) : Int := (S.getLast?.map (·.1)).getD 0
def levelS (S : List (Int × List Int)) : Int := if rightS S then (if 128 ≤ lastS S then 3 else if 3 ≤ lastS S then 2 else 1) else 0
theorem lastS_at {L : List Ob} {m : Nat} (hl : L.length = m + 1) {x : Ob} (hx : L[m]? = some x) : lastS (L.map Ob.s) = x.id := by
  rw [lastS, List.getLast?_eq_getElem?, List.length_map, hl, Nat.add_sub_cancel, List.getElem?_map, hx]
  rfl

set_option maxHeartbeats 1000000 in
theorem level_any (A : Option Addr) (n c : Nat) (L : List Ob) (w : World) (h : Obs w A n L) (hn : n ≤ c) (hc : c ≤ 9223372036854775807) :
    Calls Try.prog 23 #[.slice A n c] w fun e w' => e = .returned (.int .i64 (levelS (L.map Ob.s))) ∧ Fr nob w w' := by
  have hl := h.len
  go_enter Try.func23, Try.ntmps23
  go_wp2_with fail
  refine (right_any A n c L _ h hn hc).mono ?_
  rintro e w2 ⟨rfl, hf⟩
  obtain ⟨r, hr⟩ : ∃ r, r = rightS (L.map Ob.s) := ⟨_, rfl⟩
  rw [← hr]
  cases r with
  | false =>
    have HR := Lib.hid hr
    clear hr
    go_wp2
    go_ret
    exact ⟨by rw [levelS, ← HR.out]; rfl, hf⟩
  | true =>
    have h3 : 3 ≤ n := by
      have := hr.symm
      simp only [rightS, Bool.and_eq_true, decide_eq_true_eq, List.length_map] at this
      omega
    obtain ⟨m, rfl⟩ : ∃ m, n = m + 1 := ⟨n - 1, by omega⟩
    obtain ⟨b, o, x, rfl, hb, hx, hc0, hc1, hok⟩ := (h.nob hf).at_ (k := m) (by omega)
    have HR := Lib.hid hr
    have HL := Lib.hid (lastS_at hl hx)
    clear hr hl
    obtain ⟨xid, xA, xn, xc, xd⟩ := x
    simp only at hc0
    go_wp2
    all_goals
      go_ret
      refine ⟨?_, hf⟩
      rw [levelS, if_pos HR.out.symm, HL.out]
      first
        | (rw [if_pos (by assumption)]; rfl)
        | (rw [if_neg (by omega), if_pos (by assumption)]; rfl)
        | (rw [if_neg (by omega), if_neg (by omega)]; rfl)

def findS (S : List (Int × List Int)) (id : Int) : Option (Int × List Int) := S.find? (fun x => x.1 == id)

set_option maxHeartbeats 1000000 in
theorem same1_any (x y : Ob) (w : World) (hx : x.ok w) (hy : y.ok w) :
    Calls Try.prog 65 #[x.val, y.val] w fun e w' => e = .returned (.bool (decide (x.s = y.s))) ∧ Fr nob w w' := by
  obtain ⟨xi, xA, xn, xc, xd⟩ := x
  obtain ⟨yi, yA, yn, yc, yd⟩ := y
  obtain ⟨hxr, hxn, hxm⟩ := hx
  obtain ⟨hyr, hyn, hym⟩ := hy
  simp only at hxr hxn hxm hyr hyn hym
  simp only [Ob.val]
  by_cases he : xi = yi
  · subst he
    have hs : (decide ((Ob.mk xi xA xn xc xd).s = (Ob.mk xi yA yn yc yd).s)) = sameInts xd yd := by
      simp [Ob.s, sameInts]
    rw [hs]
    go_enter Try.func65, Try.ntmps65
    go_wp2_with fail
    refine (equal_bytes _ _ _ _ _ _ xd yd _ ((hxr.alloc _).alloc _) ((hyr.alloc _).alloc _) (by omega) (by omega)).mono ?_
    rintro e w2 ⟨rfl, q, rfl⟩
    go_wp2
    go_ret
    exact ⟨rfl, (((Fr.refl _ _).alloc _).alloc _).drewN _⟩
  · have hne : (xi == yi) = false := by simpa using he
    have hs : (decide ((Ob.mk xi xA xn xc xd).s = (Ob.mk yi yA yn yc yd).s)) = false := by
      simp [Ob.s, he]
    rw [hs]
    go_enter Try.func65, Try.ntmps65
    go_wp2_with fail
    go_ret
    exact ⟨rfl, ((Fr.refl _ _).alloc _).alloc _⟩

theorem s_of_at {L M : List Ob} (hl : L.length = M.length) (h : ∀ (j : Nat) (x y : Ob), L[j]? = some x → M[j]? = some y → x.s = y.s) : L.map Ob.s = M.map Ob.s := by
  apply List.ext_getElem (by simpa using hl)
  intro i h1 h2
  simp only [List.length_map] at h1 h2
  simpa using h i _ _ (List.getElem?_eq_getElem h1) (List.getElem?_eq_getElem h2)
theorem s_ne {L M : List Ob} {j : Nat} {x y : Ob} (hx : L[j]? = some x) (hy : M[j]? = some y) (h : x.s ≠ y.s) : L.map Ob.s ≠ M.map Ob.s := by
  intro e
  have := congrArg (·[j]?) e
  simp only [List.getElem?_map, hx, hy, Option.map_some] at this
  injection this with this
  exact h this

set_option maxHeartbeats 1000000 in
theorem equalFunc_any (A B : Option Addr) (n m c d : Nat) (L M : List Ob) (w : World) (h : Obs w A n L) (h' : Obs w B m M) (hn : n ≤ c) (hc : c ≤ 9223372036854775807) (hm : m ≤ d) (_hd : d ≤ 9223372036854775807) :
    Calls Try.prog 64 #[.slice A n c, .slice B m d, .func (.func 65) #[] #[]] w fun e w' => e = .returned (.bool (decide (L.map Ob.s = M.map Ob.s))) ∧ Fr nob w w' := by
  have hl := h.len
  have hl' := h'.len
  by_cases hnm : n = m
  · obtain rfl := hnm
    have HL := Lib.hid hl
    have HM := Lib.hid hl'
    clear hl hl'
    have hne : ((n : Int) != (n : Int)) = false := by rw [bne_self_eq_false]
    go_enter Try.func64, Try.ntmps64
    go_wp2
    go_loopw [17] (fun i wr => ∃ k : Nat, k ≤ n ∧ i = .int .i64 k ∧ Fr nob w wr ∧ Hid (∀ (j : Nat) (x y : Ob), j < k → L[j]? = some x → M[j]? = some y → x.s = y.s)) (fun i _ => n - (intOf i).toNat)
    case atStart => exact ⟨0, by omega, rfl, Fr.refl _ _, Lib.hid fun j x y hj => absurd hj (by omega)⟩
    case round =>
      obtain ⟨k, hk, rfl, hf, heq⟩ := hrel
      by_cases hlt : k < n
      · obtain ⟨ab, ao, x, rfl, hadb, hx, hxc0, hxc1, hxok⟩ := (h.nob hf).at_ hlt
        obtain ⟨bb, bo, y, rfl, hbdb, hy, hyc0, hyc1, hyok⟩ := (h'.nob hf).at_ hlt
        have HX := Lib.hid hx
        have HY := Lib.hid hy
        clear hx hy
        have hi0 : (0 : Int) ≤ (k : Int) ∧ (k : Int) < (n : Int) := ⟨by omega, by omega⟩
        have hw2 : Fr nob wr ((wr.alloc (.cells x.cs.toArray 49)).alloc (.cells y.cs.toArray 49)) := ((Fr.refl _ _).alloc _).alloc _
        simp only [Ob.cs] at hw2
        go_wp2_with fail
        refine (same1_any x y _ (hxok.nob hw2) (hyok.nob hw2)).mono ?_
        rintro e w2 ⟨rfl, hf2⟩
        have hf3 := (hf.trans hw2 (fun _ _ h => h)).trans hf2 (fun _ _ h => h)
        by_cases hxy : x.s = y.s
        · have HXY := Lib.hid hxy
          have hdec : decide (x.s = y.s) = true := decide_eq_true hxy
          clear hxy
          rw [hdec]
          go_wp2
          go_roundw
          case rel =>
            refine ⟨k + 1, by omega, by go_num, hf3, Lib.hid fun j x' y' hj hx' hy' => ?_⟩
            rcases Nat.lt_or_ge j k with h | h
            · exact heq.out j x' y' h hx' hy'
            · obtain rfl : j = k := by omega
              have e1 := hx'.symm.trans HX.out
              have e2 := hy'.symm.trans HY.out
              cases e1
              cases e2
              exact HXY.out
          case measure => simp [intOf]; omega
        · have hdec : decide (x.s = y.s) = false := decide_eq_false hxy
          rw [hdec]
          go_wp2
          go_ret
          exact ⟨by rw [decide_eq_false (s_ne HX.out HY.out hxy)]; rfl, hf3⟩
      · obtain rfl : k = n := by omega
        go_wp2
        go_ret
        refine ⟨by rw [decide_eq_true (s_of_at (by rw [HL.out, HM.out]) fun j x y hx hy => heq.out j x y (by have := (List.getElem?_eq_some_iff.1 hx).1; have := HL.out; omega) hx hy)]; rfl, hf⟩
  · have hne : ((n : Int) != (m : Int)) = true := by rw [bne_iff_ne]; omega
    go_enter Try.func64, Try.ntmps64
    go_wp2
    go_ret
    refine ⟨by rw [decide_eq_false (fun e => by have := congrArg List.length e; simp only [List.length_map] at this; omega)]; rfl, Fr.refl _ _⟩

theorem same_any (A B : Option Addr) (n m c d : Nat) (L M : List Ob) (w : World) (h : Obs w A n L) (h' : Obs w B m M) (hn : n ≤ c) (hc : c ≤ 9223372036854775807) (hm : m ≤ d) (hd : d ≤ 9223372036854775807) :
    Calls Try.prog 26 #[.slice A n c, .slice B m d] w fun e w' => e = .returned (.bool (decide (L.map Ob.s = M.map Ob.s))) ∧ Fr nob w w' := by
  go_enter Try.func26, Try.ntmps26
  go_wp2_with fail
  refine (equalFunc_any A B n m c d L M _ h h' hn hc hm hd).mono ?_
  rintro e w2 ⟨rfl, hf⟩
  go_wp2
  go_ret
  exact ⟨rfl, hf⟩

theorem find_hit {L : List Ob} {id : Int} {k : Nat} {x : Ob} (hx : L[k]? = some x) (hid : x.id = id) (h : ∀ (j : Nat) (y : Ob), j < k → L[j]? = some y → y.id ≠ id) : findS (L.map Ob.s) id = some x.s := by
  induction k generalizing L with
  | zero =>
    cases L with
    | nil => simp at hx
    | cons y L =>
      simp at hx
      subst hx
      simp [findS, Ob.s, hid]
  | succ k ih =>
    cases L with
    | nil => simp at hx
    | cons y L =>
      have h0 := h 0 y (by omega) rfl
      have := ih (L := L) (by simpa using hx) (fun j z hj hz => h (j + 1) z (by omega) (by simpa using hz))
      simp only [findS, List.map_cons] at this ⊢
      rw [List.find?_cons, show ((Ob.s y).1 == id) = false by simpa [Ob.s] using h0]
      exact this
theorem find_none {L : List Ob} {id : Int} (h : ∀ (j : Nat) (y : Ob), L[j]? = some y → y.id ≠ id) : findS (L.map Ob.s) id = none := by
  rw [findS, List.find?_eq_none]
  intro x hx
  obtain ⟨y, hy, rfl⟩ := List.mem_map.1 hx
  obtain ⟨j, hj, e⟩ := List.mem_iff_getElem.1 hy
  have := h j y (by rw [List.getElem?_eq_getElem hj, e])
  simpa [Ob.s] using this

theorem put2 {w : World} {g : Nat} {t : TypeId} {a b : Value} (h : Blk w g t #[a, b]) (u v : Value) : Blk ((w.setCell ⟨g, 0, none⟩ u).setCell ⟨g, 1, none⟩ v) g t #[u, v] ∧ Fr (fun i => i = g) w ((w.setCell ⟨g, 0, none⟩ u).setCell ⟨g, 1, none⟩ v) :=
  ⟨by have := (h.set_ 0 u).set_ 1 v; simpa using this, ((Fr.refl (fun i => i = g) _).set_ (.inl rfl) _).set_ (.inl rfl) _⟩

/-- What Find tells. -/
def findPost (S : List (Int × List Int)) (id : Int) (w : World) (e : Ending) (w' : World) : Prop :=
  Fr nob w w' ∧ ∃ (y : Ob) (ok : Bool), e = .returned (.tuple #[y.val, .bool ok]) ∧ y.ok w' ∧ findS S id = (if ok then some y.s else none) ∧ (ok = false → y.s = (0, [])) ∧ ∀ ad, y.A = some ad → w.heap.size ≤ ad.block

set_option maxHeartbeats 1000000 in
set_option maxRecDepth 100000 in
theorem find_any (A : Option Addr) (n c : Nat) (L : List Ob) (id : Int) (w : World) (h : Obs w A n L) (hn : n ≤ c) (hc : c ≤ 9223372036854775807) (hs : ∀ x ∈ L, x.n ≤ 100000) :
    Calls Try.prog 24 #[.slice A n c, .int .i64 id] w (findPost (L.map Ob.s) id w) := by
  have hl := h.len
  have hb0 := Blk.new w 49 #[.int .i64 0, .slice none 0 0]
  have hf0 := (Fr.refl nob w).alloc (.cells #[.int .i64 0, .slice none 0 0] 49)
  go_enter Try.func24, Try.ntmps24
  go_wp2
  go_loopw [10] (fun i wr => ∃ k : Nat, k ≤ n ∧ i = .int .i64 k ∧ Fr nob w wr ∧ Blk wr w.heap.size 49 #[.int .i64 0, .slice none 0 0] ∧ Hid (∀ (j : Nat) (y : Ob), j < k → L[j]? = some y → y.id ≠ id)) (fun i _ => n - (intOf i).toNat)
  case atStart => exact ⟨0, by omega, rfl, hf0, hb0, Lib.hid fun j x hj => absurd hj (by omega)⟩
  case round =>
    obtain ⟨k, hk, rfl, hf, hblk, heq⟩ := hrel
    by_cases hlt : k < n
    · obtain ⟨b, o, x, rfl, hb, hx, hc0, hc1, hok⟩ := (h.nob hf).at_ hlt
      have hxs := hs x (List.mem_of_getElem? hx)
      have HX := Lib.hid hx
      clear hx
      have hi0 : (0 : Int) ≤ (k : Int) ∧ (k : Int) < (n : Int) := ⟨by omega, by omega⟩
      by_cases hid : x.id = id
      · obtain ⟨xi, xA, xn, xc, xd⟩ := x
        simp only at hid hc0 hc1 hxs
        subst hid
        have hne : (xi == xi) = true := by simp
        have hok1 := hok.alloc (.cells #[.int .i64 xi, .slice xA xn xc] 49)
        go_wp2_with fail
        refine (copied_any ⟨xi, xA, xn, xc, xd⟩ _ hok1 hxs).mono ?_
        rintro e w3 ⟨y, rfl, hys, -, hnew, hf3⟩
        have hk3 := (hblk.alloc _).fr hf3 (fun h => h)
        have q0 : ∀ i, w3.cell? ⟨w.heap.size, i, none⟩ = #[Value.int .i64 0, .slice none 0 0][i]? := fun i => hk3.cell i
        have q1 : ∀ i, w3.frozen? ⟨w.heap.size, i, none⟩ = false := fun i => hk3.frozen i
        have hf4 := (hf.alloc _).trans hf3 (fun _ _ h => h)
        obtain ⟨yi, yA, yn, yc, yd⟩ := y
        have HF := Lib.hid (find_hit HX.out rfl heq.out)
        have HYS := Lib.hid hys
        simp only [Ob.val]
        go_wp2_with fail
        obtain ⟨k4, f4⟩ := put2 hk3 (.int .i64 yi) (.slice yA yn yc)
        obtain ⟨w4, hw4⟩ : ∃ w4, w4 = ((w3.setCell ⟨w.heap.size, 0, none⟩ (.int .i64 yi)).setCell ⟨w.heap.size, 1, none⟩ (.slice yA yn yc)) := ⟨_, rfl⟩
        rw [← hw4] at k4 f4 ⊢
        have q4 : ∀ i, w4.cell? ⟨w.heap.size, i, none⟩ = #[Value.int .i64 yi, .slice yA yn yc][i]? := fun i => k4.cell i
        refine bodyPost_ret (v := .tuple #[.agg #[.int .i64 yi, .slice yA yn yc], .bool true]) (by simp [results, Try.results24, go_sem, q4]) rfl ?_
        refine ⟨hf4.newer f4 (fun i hi => by omega), ⟨yi, yA, yn, yc, yd⟩, true, rfl, ?_, ?_, (fun h => by cases h), fun ad h => by have := own_ge hnew ad h; simp at this; have := hf.size; omega⟩
        · have h5 := own_fr hnew f4 (fun k hk => by have := own_at hnew k hk; simp at this; have := hf.size; omega)
          exact Ob.newAt.ok (y := ⟨yi, yA, yn, yc, yd⟩) h5
        · rw [HF.out, if_pos rfl, ← HYS.out]
      · have hne : (x.id == id) = false := by simpa using hid
        go_wp2
        go_roundw
        case rel =>
          refine ⟨k + 1, by omega, by go_num, hf.alloc _, hblk.alloc _, Lib.hid fun j y hj hy => ?_⟩
          rcases Nat.lt_or_ge j k with h | h
          · exact heq.out j y h hy
          · obtain rfl : j = k := by omega
            have e1 := hy.symm.trans HX.out
            cases e1
            exact hid
        case measure => simp [intOf]; omega
    · obtain rfl : k = n := by omega
      have q0 : ∀ i, wr.cell? ⟨w.heap.size, i, none⟩ = #[Value.int .i64 0, .slice none 0 0][i]? := fun i => hblk.cell i
      have q1 : ∀ i, wr.frozen? ⟨w.heap.size, i, none⟩ = false := fun i => hblk.frozen i
      have HF := Lib.hid (find_none (L := L) (id := id) (fun j y hy => heq.out j y (by have := (List.getElem?_eq_some_iff.1 hy).1; omega) hy))
      go_wp2
      obtain ⟨k4, f4⟩ := put2 hblk (.int .i64 0) (.slice none 0 0)
      obtain ⟨w4, hw4⟩ : ∃ w4, w4 = ((wr.setCell ⟨w.heap.size, 0, none⟩ (.int .i64 0)).setCell ⟨w.heap.size, 1, none⟩ (.slice none 0 0)) := ⟨_, rfl⟩
      rw [← hw4] at k4 f4 ⊢
      have q4 : ∀ i, w4.cell? ⟨w.heap.size, i, none⟩ = #[Value.int .i64 0, .slice none 0 0][i]? := fun i => k4.cell i
      refine bodyPost_ret (v := .tuple #[.agg #[.int .i64 0, .slice none 0 0], .bool false]) (by simp [results, Try.results24, go_sem, q4]) rfl ?_
      exact ⟨hf.newer f4 (fun i hi => by omega), ⟨0, none, 0, 0, []⟩, false, rfl, ⟨Rd.nil_ _ _ _, by simp, by simp⟩, HF.out, fun _ => rfl, fun ad h => by cases h⟩
end Go.Proofs.Ythdenkmmiadeiaa
