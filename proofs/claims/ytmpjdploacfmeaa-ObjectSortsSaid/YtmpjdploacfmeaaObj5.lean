/- Contracts: From, Size, and the law's own 'sure'. -/
import Derived.Test.YtmpjdploacfmeaaObj4
namespace Go.Proofs.Ytmpjdploacfmeaa
open Go.RowKit

def idxS (S : List (Int × List Int)) (id : Int) : Option Nat := S.findIdx? (fun x => x.1 == id)
def idxI (S : List (Int × List Int)) (id : Int) : Int := match idxS S id with
  | some k => k
  | none => -1
def fromS (S : List (Int × List Int)) (sort id : Int) : List (Int × List Int) := (ofS S sort).drop ((idxS (ofS S sort) id).getD 0)
theorem idx_hit {L : List Ob} {id : Int} {k : Nat} {x : Ob} (hx : L[k]? = some x) (hid : x.id = id) (h : ∀ (j : Nat) (y : Ob), j < k → L[j]? = some y → y.id ≠ id) : idxS (L.map Ob.s) id = some k := by
  rw [idxS, List.findIdx?_eq_some_iff_getElem]
  have hk := (List.getElem?_eq_some_iff.1 hx).1
  refine ⟨by simpa using hk, ?_, fun j hj => ?_⟩
  · have := (List.getElem?_eq_some_iff.1 hx).2
    simp [this, Ob.s, hid]
  · have := h j L[j] hj (List.getElem?_eq_getElem (by omega))
    simpa [Ob.s] using this
theorem idx_none {L : List Ob} {id : Int} (h : ∀ (j : Nat) (y : Ob), L[j]? = some y → y.id ≠ id) : idxS (L.map Ob.s) id = none := by
  rw [idxS, List.findIdx?_eq_none_iff]
  intro x hx
  obtain ⟨y, hy, rfl⟩ := List.mem_map.1 hx
  obtain ⟨j, hj, e⟩ := List.mem_iff_getElem.1 hy
  have := h j y (by rw [List.getElem?_eq_getElem hj, e])
  simpa [Ob.s] using this

theorem Obs.cut {w : World} {A : Option Addr} {n k cap : Nat} {L : List Ob} (h : Obs w A n L) (hk : k ≤ n) (hc : n ≤ cap) : Obs w (if cap = k then A else A.map (·.add (k * 2))) (n - k) (L.drop k) :=
  ⟨by
    have := h.rd.cut hk hc
    rwa [show (L.flatMap Ob.cs).drop (k * 2) = (L.drop k).flatMap Ob.cs from by
      clear this h hk hc
      induction k generalizing L with
      | zero => simp
      | succ k ih =>
        cases L with
        | nil => simp
        | cons x L =>
          rw [Nat.succ_mul, List.drop_succ_cons, ← ih, List.flatMap_cons, Nat.add_comm, ← List.drop_drop]
          rfl] at this,
   fun x hx => h.ok x (List.mem_of_mem_drop hx)⟩
theorem Obs.take_ {w : World} {A : Option Addr} {n k : Nat} {L : List Ob} (h : Obs w A n L) (hk : k ≤ n) : Obs w A k (L.take k) :=
  ⟨by
    have := h.rd.take_ hk
    rwa [show (L.flatMap Ob.cs).take (k * 2) = (L.take k).flatMap Ob.cs from by
      clear this h hk
      induction k generalizing L with
      | zero => simp
      | succ k ih =>
        cases L with
        | nil => simp
        | cons x L =>
          rw [Nat.succ_mul, List.take_succ_cons, List.flatMap_cons, List.flatMap_cons, ← ih]
          rfl] at this,
   fun x hx => h.ok x (List.mem_of_mem_take hx)⟩

set_option maxHeartbeats 1000000 in
theorem from1_any (x : Ob) (b : Nat) (id : Int) (w : World) (hb : w.cell? ⟨b, 0, none⟩ = some (.int .i64 id)) (hlt : b < w.heap.size) :
    Calls Try.prog 52 #[x.val, .pointer (some ⟨b, 0, none⟩)] w fun e w' => e = .returned (.bool (x.id == id)) ∧ Fr nob w w' := by
  obtain ⟨xi, xA, xn, xc, xd⟩ := x
  simp only [Ob.val]
  go_enter Try.func52, Try.ntmps52
  go_wp2
  go_ret
  exact ⟨rfl, (Fr.refl _ _).alloc _⟩

set_option maxHeartbeats 1000000 in
theorem index_any (A : Option Addr) (n c : Nat) (L : List Ob) (b : Nat) (id : Int) (w : World) (h : Obs w A n L) (hn : n ≤ c) (hc : c ≤ 9223372036854775807) (hb : w.cell? ⟨b, 0, none⟩ = some (.int .i64 id)) (hlt : b < w.heap.size) :
    Calls Try.prog 51 #[.slice A n c, .func (.func 52) #[] #[.pointer (some ⟨b, 0, none⟩)]] w fun e w' => e = .returned (.int .i64 (idxI (L.map Ob.s) id)) ∧ Fr nob w w' := by
  have hl := h.len
  go_enter Try.func51, Try.ntmps51
  go_wp2
  go_loopw [8] (fun i wr => ∃ k : Nat, k ≤ n ∧ i = .int .i64 k ∧ Fr nob w wr ∧ Hid (∀ (j : Nat) (y : Ob), j < k → L[j]? = some y → y.id ≠ id)) (fun i _ => n - (intOf i).toNat)
  case atStart => exact ⟨0, by omega, rfl, Fr.refl _ _, Lib.hid fun j x hj => absurd hj (by omega)⟩
  case round =>
    obtain ⟨k, hk, rfl, hf, heq⟩ := hrel
    by_cases hlt' : k < n
    · obtain ⟨b', o, x, rfl, hb', hx, hc0, hc1, hok⟩ := (h.nob hf).at_ hlt'
      have HX := Lib.hid hx
      clear hx
      have hi0 : (0 : Int) ≤ (k : Int) ∧ (k : Int) < (n : Int) := ⟨by omega, by omega⟩
      have hbr : wr.cell? ⟨b, 0, none⟩ = some (.int .i64 id) := (hf.cell (p := ⟨b, 0, none⟩) hlt (fun h => h)).trans hb
      have hltr : b < wr.heap.size := Nat.lt_of_lt_of_le hlt hf.size
      go_wp2_with fail
      refine (from1_any x b id _ hbr hltr).mono ?_
      rintro e w2 ⟨rfl, hf2⟩
      have hf3 := hf.trans hf2 (fun _ _ h => h)
      by_cases hid : x.id = id
      · have he : (x.id == id) = true := by simpa using hid
        have HI := Lib.hid (idx_hit HX.out hid heq.out)
        rw [he]
        clear hid he
        go_wp2_with fail
        go_ret
        exact ⟨by rw [idxI, HI.out]; rfl, hf3⟩
      · have he : (x.id == id) = false := by simpa using hid
        rw [he]
        go_wp2_with fail
        go_roundw
        case rel =>
          refine ⟨k + 1, by omega, by go_num, hf3, Lib.hid fun j y hj hy => ?_⟩
          rcases Nat.lt_or_ge j k with h | h
          · exact heq.out j y h hy
          · obtain rfl : j = k := by omega
            have e1 := hy.symm.trans HX.out
            cases e1
            exact hid
        case measure => simp [intOf]; omega
    · obtain rfl : k = n := by omega
      have HI := Lib.hid (idx_none (L := L) (id := id) (fun j y hy => heq.out j y (by have := (List.getElem?_eq_some_iff.1 hy).1; omega) hy))
      go_wp2
      go_ret
      exact ⟨by rw [idxI, HI.out]; rfl, hf⟩

set_option maxHeartbeats 1000000 in
theorem from_any (A : Option Addr) (n c : Nat) (L : List Ob) (sort id : Int) (w : World) (h : Obs w A n L) (hn : n ≤ c) (hc : c ≤ 9223372036854775807) (hL : ∀ x ∈ L, x.n ≤ 100000) (hm : n ≤ 100000) :
    Calls Try.prog 25 #[.slice A n c, .int .i64 sort, .int .i64 id] w (objsPost (fromS (L.map Ob.s) sort id) w) := by
  have hb0 := Blk.new w 3 #[.int .i64 id]
  have hf0 := (Fr.refl nob w).alloc (.cells #[.int .i64 id] 3)
  have h0 := h.nob hf0
  go_enter Try.func25, Try.ntmps25
  go_wp2_with fail
  refine (of_any A n c L sort _ h0 hn hc hL hm).mono ?_
  rintro e w2 ⟨hf2, A2, n2, c2, L2, rfl, hS, hO, hn2, hc2, hL2⟩
  have hb2 := hb0.fr hf2 (fun h => h)
  have HS := Lib.hid hS
  clear hS
  go_wp2_with fail
  refine (index_any A2 n2 c2 L2 _ id _ hO hn2 hc2 (hb2.cell 0) hb2.lt).mono ?_
  rintro e w3 ⟨rfl, hf3⟩
  have hl2 := hO.len
  have hfw : Fr nob w w3 := ((hf0.trans hf2 (fun _ _ h => h))).trans hf3 (fun _ _ h => h)
  have hO3 := hO.nob hf3
  obtain ⟨r, hr⟩ : ∃ r, r = idxS (L2.map Ob.s) id := ⟨_, rfl⟩
  cases r with
  | none =>
    have he : idxI (L2.map Ob.s) id = -1 := by rw [idxI, ← hr]
    have hd : fromS (L.map Ob.s) sort id = L2.map Ob.s := by rw [fromS, ← HS.out, ← hr]; rfl
    rw [he]
    have HD := Lib.hid hd
    clear hd hr he hl2
    go_wp2_with fail
    go_ret
    exact ⟨hfw, A2, n2, c2, L2, rfl, HD.out.symm, hO3, hn2, hc2, hL2⟩
  | some k =>
    have he : idxI (L2.map Ob.s) id = k := by rw [idxI, ← hr]
    have hk : k < n2 := by
      have := (List.findIdx?_eq_some_iff_getElem.1 hr.symm).1
      simp at this
      omega
    have hd : fromS (L.map Ob.s) sort id = (L2.drop k).map Ob.s := by rw [fromS, ← HS.out, ← hr, List.map_drop]; rfl
    rw [he]
    have HD := Lib.hid hd
    clear hd hr he hl2
    go_wp2_with fail
    go_ret
    have h4 := hO3.cut (cap := c2) (k := k) (by omega) (by omega)
    rw [if_neg (by omega)] at h4
    exact ⟨hfw, _, _, _, L2.drop k, rfl, HD.out.symm, h4, by omega, by omega, fun x hx => hL2 x (List.mem_of_mem_drop hx)⟩

theorem size_any (x : Ob) (w : World) (hx : x.n ≤ 100000) :
    Calls Try.prog 44 #[x.val] w fun e w' => e = .returned (.int .i64 ((x.n : Int) + 2)) ∧ Fr nob w w' := by
  obtain ⟨xi, xA, xn, xc, xd⟩ := x
  simp only at hx
  simp only [Ob.val]
  go_enter Try.func44, Try.ntmps44
  go_wp2
  go_ret
  exact ⟨rfl, (Fr.refl _ _).alloc _⟩

/-- The objects of the law's own list. -/
def sureL (w : World) : List Ob := [⟨0, none, 0, 0, []⟩, ⟨1, none, 0, 0, []⟩, ⟨2, some ⟨w.heap.size, 0, none⟩, 1, 1, [7]⟩, ⟨5, none, 0, 0, []⟩, ⟨130, none, 0, 0, []⟩]
def sureS : List (Int × List Int) := [(0, []), (1, []), (2, [7]), (5, []), (130, [])]
theorem sure_obs (w : World) : Obs ((w.alloc (.cells #[.int .u8 7] 5)).alloc (.cells #[.int .i64 0, .slice none 0 0, .int .i64 1, .slice none 0 0, .int .i64 2, .slice (some ⟨w.heap.size, 0, none⟩) 1 1, .int .i64 5, .slice none 0 0, .int .i64 130, .slice none 0 0] 49)) (some ⟨w.heap.size + 1, 0, none⟩) 5 (sureL w) ∧ (sureL w).map Ob.s = sureS := by
  have b0 := (Blk.new w 5 #[.int .u8 7]).alloc (.cells #[.int .i64 0, .slice none 0 0, .int .i64 1, .slice none 0 0, .int .i64 2, .slice (some ⟨w.heap.size, 0, none⟩) 1 1, .int .i64 5, .slice none 0 0, .int .i64 130, .slice none 0 0] 49)
  have b1 := Blk.new (w.alloc (.cells #[.int .u8 7] 5)) 49 #[.int .i64 0, .slice none 0 0, .int .i64 1, .slice none 0 0, .int .i64 2, .slice (some ⟨w.heap.size, 0, none⟩) 1 1, .int .i64 5, .slice none 0 0, .int .i64 130, .slice none 0 0]
  rw [World.size_alloc] at b1
  refine ⟨⟨Rd.of_blk b1 rfl (fun j u hu => ?_), fun x hx => ?_⟩, rfl⟩
  · rw [Nat.zero_add]
    simpa [sureL, Ob.cs] using hu
  · simp only [sureL, List.mem_cons, List.not_mem_nil, or_false] at hx
    rcases hx with rfl | rfl | rfl | rfl | rfl
    · exact ⟨Rd.nil_ _ _ _, by simp, by simp⟩
    · exact ⟨Rd.nil_ _ _ _, by simp, by simp⟩
    · exact ⟨Rd.of_blk b0 rfl (fun j u hu => by simpa [nums] using hu), by simp, by simp⟩
    · exact ⟨Rd.nil_ _ _ _, by simp, by simp⟩
    · exact ⟨Rd.nil_ _ _ _, by simp, by simp⟩

set_option maxHeartbeats 2000000 in
set_option maxRecDepth 100000 in
theorem sure_any (w : World) : Calls Try.prog 20 #[] w fun e w' => e = .returned (.bool true) ∧ Fr nob w w' := by
  obtain ⟨hO, hS⟩ := sure_obs w
  have hf0 := ((Fr.refl nob w).alloc (.cells #[.int .u8 7] 5)).alloc (.cells #[.int .i64 0, .slice none 0 0, .int .i64 1, .slice none 0 0, .int .i64 2, .slice (some ⟨w.heap.size, 0, none⟩) 1 1, .int .i64 5, .slice none 0 0, .int .i64 130, .slice none 0 0] 49)
  have hL : ∀ x ∈ sureL w, x.n ≤ 100000 := by simp [sureL]
  have HS := Lib.hid hS
  clear hS
  go_enter Try.func20, Try.ntmps20
  go_wp2_with fail
  generalize hw0 : World.alloc (World.alloc _ _) _ = w0 at hO hf0 ⊢
  clear hw0
  refine (find_any _ 5 5 (sureL w) 2 _ hO (by omega) (by omega) hL).mono ?_
  rintro e w1 ⟨hf1, y, ok, rfl, hy, hfind, -⟩
  rw [HS.out] at hfind
  cases ok with
  | false => exact absurd (show findS sureS 2 = none from hfind) (by decide)
  | true =>
    rw [if_pos rfl, show findS sureS 2 = some (2, [7]) by decide] at hfind
    obtain ⟨yi, yA, yn, yc, yd⟩ := y
    injection hfind with hfind
    have hy1 : yd = [7] := (congrArg Prod.snd hfind).symm
    have hyn : yn = 1 := by have := hy.len; rw [show yd = [7] from hy1] at this; exact this.symm
    subst hyn
    clear hfind hy1
    simp only [Ob.val]
    have hf1' := hf0.trans hf1 (fun _ _ h => h)
    have hO1 := hO.nob hf1
    have bo1 := Blk.new w1 49 #[.int .i64 yi, .slice yA 1 yc]
    have hfa := (Fr.refl nob w1).alloc (.cells #[.int .i64 yi, .slice yA 1 yc] 49)
    go_wp2_with fail
    refine (from_any _ 5 5 (sureL w) 2 2 _ (hO1.nob hfa) (by omega) (by omega) hL (by omega)).mono ?_
    rintro e w2 ⟨hf2, A2, n2, c2, L2, rfl, hS2, hO2, hn2, hc2, hL2⟩
    rw [HS.out, show fromS sureS 2 2 = [(2, [7]), (5, [])] by decide] at hS2
    have hl2 := hO2.len
    have hn2' : n2 = 2 := by rw [← hl2, ← List.length_map (f := Ob.s), hS2]; rfl
    subst hn2'
    have bo2 := bo1.fr hf2 (fun h => h)
    have hO2' := (hO1.nob hfa).nob hf2
    obtain ⟨mb, mo, x0, rfl, hmb, hx0, hm0, _, _⟩ := hO2.at_ (k := 0) (by omega)
    have hx0i : x0.id = 2 := by
      have := congrArg (·[0]?) hS2
      simp only [List.getElem?_map, hx0, Option.map_some] at this
      injection this with this
      exact congrArg Prod.fst this
    rw [hx0i] at hm0
    have HS2 := Lib.hid hS2
    clear hS2 hl2 hx0 hx0i
    have hfw2 := (hf1'.trans hfa (fun _ _ h => h)).trans hf2 (fun _ _ h => h)
    go_wp2_with fail
    refine (right_any _ 5 5 (sureL w) _ hO2' (by omega) (by omega)).mono ?_
    rintro e w3 ⟨rfl, hf3⟩
    rw [HS.out, show rightS sureS = true by decide]
    have hfw3 := hfw2.trans hf3 (fun _ _ h => h)
    have hO3 := hO2'.nob hf3
    go_wp2_with fail
    refine (level_any _ 5 5 (sureL w) _ hO3 (by omega) (by omega)).mono ?_
    rintro e w4 ⟨rfl, hf4⟩
    rw [HS.out, show levelS sureS = 3 by decide]
    have hfw4 := hfw3.trans hf4 (fun _ _ h => h)
    have hO4 := hO3.nob hf4
    have bo4 := (bo2.fr hf3 (fun h => h)).fr hf4 (fun h => h)
    have q4 : ∀ i, w4.cell? ⟨w1.heap.size, i, none⟩ = #[Value.int .i64 yi, .slice yA 1 yc][i]? := fun i => bo4.cell i
    go_wp2_with fail
    refine (of_any _ 5 5 (sureL w) 2 _ hO4 (by omega) (by omega) hL (by omega)).mono ?_
    rintro e w5 ⟨hf5, A5, n5, c5, L5, rfl, hS5, hO5, hn5, hc5, hL5⟩
    rw [HS.out, show ofS sureS 2 = [(0, []), (1, []), (2, [7]), (5, [])] by decide] at hS5
    have hl5 := hO5.len
    have hn5' : n5 = 4 := by rw [← hl5, ← List.length_map (f := Ob.s), hS5]; rfl
    subst hn5'
    clear hS5 hl5
    have hfw5 := hfw4.trans hf5 (fun _ _ h => h)
    have hO5' := hO4.nob hf5
    have bo5 := bo4.fr hf5 (fun h => h)
    have q5 : ∀ i, w5.cell? ⟨w1.heap.size, i, none⟩ = #[Value.int .i64 yi, .slice yA 1 yc][i]? := fun i => bo5.cell i
    have hf25 := (hf3.trans hf4 (fun _ _ h => h)).trans hf5 (fun _ _ h => h)
    have hm5 : w5.cell? ⟨mb, mo + 0 * 2, none⟩ = some (.int .i64 2) := (hf25.cell (p := ⟨mb, mo + 0 * 2, none⟩) hmb (fun h => h)).trans hm0
    have hO2m := hO2.nob hf25
    simp only [Nat.zero_mul, Nat.add_zero] at hm5
    go_wp2_with fail
    refine (size_any ⟨yi, yA, 1, yc, yd⟩ _ (by simp)).mono ?_
    rintro e w6 ⟨rfl, hf6⟩
    have hfw6 := hfw5.trans hf6 (fun _ _ h => h)
    have hO6 := hO5'.nob hf6
    have hO6m := hO2m.nob hf6
    have hc6 := hO6.cut (k := 1) (cap := 5) (by omega) (by omega)
    rw [if_neg (by omega)] at hc6
    go_wp2_with fail
    refine (right_any _ 4 4 ((sureL w).drop 1) _ hc6 (by omega) (by omega)).mono ?_
    rintro e w7 ⟨rfl, hf7⟩
    rw [List.map_drop, HS.out, show rightS (sureS.drop 1) = false by decide]
    have hfw7 := hfw6.trans hf7 (fun _ _ h => h)
    have hO7 := hO6.nob hf7
    have hO7m := hO6m.nob hf7
    go_wp2_with fail
    refine (same_any _ _ 5 5 5 5 (sureL w) (sureL w) _ hO7 hO7 (by omega) (by omega) (by omega) (by omega)).mono ?_
    rintro e w8 ⟨rfl, hf8⟩
    rw [decide_eq_true rfl]
    have hfw8 := hfw7.trans hf8 (fun _ _ h => h)
    have hO8 := hO7.nob hf8
    have hO8m := hO7m.nob hf8
    go_wp2_with fail
    refine (same_any _ _ 5 2 5 c2 (sureL w) L2 _ hO8 hO8m (by omega) (by omega) (by omega) (by omega)).mono ?_
    rintro e w9 ⟨rfl, hf9⟩
    rw [HS.out, HS2.out, show (decide (sureS = [(2, [7]), (5, [])])) = false by decide]
    have hfw9 := hfw8.trans hf9 (fun _ _ h => h)
    go_wp2_with fail
    go_ret
    exact ⟨rfl, hfw9⟩
end Go.Proofs.Ytmpjdploacfmeaa
