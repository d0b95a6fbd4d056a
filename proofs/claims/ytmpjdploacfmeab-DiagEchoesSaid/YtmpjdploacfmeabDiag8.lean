/- Contracts of the document's bilgeref18: New, Known, Do. -/
import Derived.Test.YtmpjdploacfmeabDiag7
import Derived.Test.YtmpjdploacfmeabMix
import Derived.Test.YtmpjdploacfmeabCut
namespace Go.Proofs.Ytmpjdploacfmeab
set_option linter.unusedSimpArgs false
set_option linter.unusedVariables false
open Go.RowKit

/-- The document's state as a value. -/
def stC (s : Dg) : Array Value := (nums .u16 s.c ++ [Value.int .u16 s.r, Value.bool s.ls, Value.int .u8 s.dl]).toArray
def stV (s : Dg) : Value := .agg (stC s)
theorem stC_lit (c0 c1 c2 c3 c4 c5 c6 c7 r dl : Int) (ls : Bool) : stC ⟨[c0, c1, c2, c3, c4, c5, c6, c7], r, ls, dl⟩ = #[.int .u16 c0, .int .u16 c1, .int .u16 c2, .int .u16 c3, .int .u16 c4, .int .u16 c5, .int .u16 c6, .int .u16 c7, .int .u16 r, .bool ls, .int .u8 dl] := rfl
def st0 : Dg := ⟨eight0, 0, false, 10⟩

set_option maxHeartbeats 400000 in
theorem ref18_new (w : World) : Calls Try.prog 16 #[] w fun e w' => e = .returned (stV st0) ∧ Fr nob w w' := by
  go_enter Try.func16, Try.ntmps16
  go_wp2
  refine bodyPost_ret (v := stV st0) ?_ rfl ⟨rfl, (Fr.refl _ _).alloc _⟩
  simp [results, Try.results16, go_sem]
  rfl
set_option maxHeartbeats 1000000 in
theorem ref18_known (n : Int) (w : World) (hn : 0 ≤ n ∧ n ≤ 65535) : Calls Try.prog 30 #[.int .i64 n] w fun e w' => e = .returned (.bool (knownN n)) ∧ w' = w := by
  obtain ⟨s, hs⟩ : ∃ s, s = knownN n := ⟨_, rfl⟩
  rw [← hs]
  have HS := Lib.hid hs
  clear hs
  go_enter Try.func30, Try.ntmps30
  go_wp2
  all_goals
    go_ret
    refine ⟨congrArg Ending.returned (congrArg Value.bool ?_), rfl⟩
    rw [HS.out, knownN]
    clear HS
    rw [Bool.eq_iff_iff]
    simp only [Bool.or_eq_true, decide_eq_true_eq, beq_iff_eq, true_iff]
    omega
theorem ref_at0 (A : Option Addr) (n c : Nat) (d : List Int) (w : World) (h : Rd w 1 A n (nums .u8 d)) (hd : bytes8 d) (hn : n ≤ c) (hc : c ≤ 9223372036854775807) :
    Calls Try.prog 29 #[.slice A n c, .int .i64 0] w fun e w' => e = .returned (.tuple #[.int .u16 (word0 d), .bool (decide (2 ≤ d.length))]) ∧ ∃ k, w' = w.drewN k := by
  have hl := h.numlen
  by_cases h2 : 2 ≤ d.length
  · rw [word0, if_pos h2, decide_eq_true h2]
    exact ref_at_ok A n c d 0 w h hd (by omega) hn hc
  · rw [word0, if_neg h2, decide_eq_false h2]
    exact (ref_at_no A n c 0 w (by omega) hn hc).mono fun e w' ⟨he, hw⟩ => ⟨he, 0, hw⟩

theorem may_no {n : Int} {d : List Int} (hn : n ≠ 0) (hl : d.length ≠ 2) : mayS n d = false := by rw [mayS, if_neg hn, if_pos hl]
theorem may_1 {n : Int} {d : List Int} (hn : n = 1) (hl : d.length = 2) : mayS n d = (decide (word0 d = 0) || decide (word0 d = 65280)) := by rw [mayS, if_neg (by omega), if_neg (by omega), if_pos hn]
theorem may_3 {n : Int} {d : List Int} (hn : n = 3) (hl : d.length = 2) : mayS n d = decide (word0 d % 256 = 0) := by rw [mayS, if_neg (by omega), if_neg (by omega), if_neg (by omega), if_pos hn]
theorem may_o {n : Int} {d : List Int} (hn : n ≠ 0 ∧ n ≠ 1 ∧ n ≠ 3) (hl : d.length = 2) : mayS n d = decide (word0 d = 0) := by rw [mayS, if_neg (by omega), if_neg (by omega), if_neg (by omega), if_neg (by omega)]
section
variable {s : Dg} {n x : Int} {d : List Int}
theorem doN_0 (h : n = 0) : doN s n x d = (s, d, 0) := by subst h; rfl
theorem doN_1 (h : n = 1) : doN s n x d = ({ s with c := eight0, ls := false }, d, if x = 65280 then 2 else 1) := by subst h; rfl
theorem doN_2 (h : n = 2) : doN s n x d = (s, put2s [n, s.r], 0) := by subst h; rfl
theorem doN_3 (h : n = 3) : doN s n x d = ({ s with dl := x / 256 }, d, 0) := by subst h; rfl
theorem doN_4 (h : n = 4) : doN s n x d = ({ s with ls := true }, [], 3) := by subst h; rfl
theorem doN_10 (h : n = 10) : doN s n x d = ({ s with c := eight0, r := 0 }, d, 0) := by subst h; rfl
theorem doN_20 (h : n = 20) : doN s n x d = ({ s with c := dropOf s.c 7 }, d, 0) := by subst h; rfl
theorem doN_c (h : 11 ≤ n ∧ n < 19) : doN s n x d = (s, put2s [n, s.c.getD (n - 11).toNat 0], 0) := by rw [doN, if_pos h]
end
theorem known_cases {n : Int} (h : knownN n = true) : n = 0 ∨ n = 1 ∨ n = 2 ∨ n = 3 ∨ n = 4 ∨ n = 10 ∨ n = 20 ∨ (11 ≤ n ∧ n < 19) := by
  simp only [knownN, Bool.or_eq_true, decide_eq_true_eq] at h
  omega
theorem word0_drop {d : List Int} (h : 4 ≤ d.length) : word0 (d.drop 2) = at2 d 2 := by
  rw [word0, if_pos (by rw [List.length_drop]; omega)]
  simp [at2, List.getD_eq_getElem?_getD, List.getElem?_drop]
theorem own_ge {w : World} {base n c : Nat} {A : Option Addr} {e : TypeId} {size : Nat} {xs : List Value} (h : w.ownsRow base e size (.slice A n c) n xs) : ∀ ad, A = some ad → base ≤ ad.block := by
  rintro ad rfl
  obtain ⟨A', c', e', _, ho⟩ := own_form h
  injection e' with e1 e2 e3
  subst e1
  rcases ho with ho | ⟨g, hg, hge, _⟩
  · cases ho
  · cases hg; exact hge
/-- An empty slice of one's own. -/
theorem own_empty (w : World) (e : TypeId) (size : Nat) : (w.alloc (.cells #[] e)).ownsRow w.heap.size e size (.slice (some ⟨w.heap.size, 0, none⟩) 0 0) 0 [] :=
  ⟨by simp, .inr ⟨w.heap.size, 0, #[], rfl, Nat.le_refl _, heap_alloc_new w _, Nat.le_refl _, by decide, by simp, by simp⟩⟩

/-- What the document's Do leaves. -/
def refPost (y : Dg × List Int × Int × Int) (w : World) (e : Ending) (w' : World) : Prop :=
  ∃ A k cp, e = .returned (.tuple #[stV y.1, .slice A k cp, .int .i64 y.2.2.1, .int .i64 y.2.2.2]) ∧ Rd w' 1 A k (nums .u8 y.2.1) ∧ k ≤ cp ∧ cp ≤ 9223372036854775807 ∧ (∀ ad, A = some ad → w.heap.size ≤ ad.block) ∧ Fr nob w w'
theorem Blk.set11 {w : World} {g : Nat} {t : TypeId} {x0 x1 x2 x3 x4 x5 x6 x7 x8 x9 xa : Value} (h : Blk w g t #[x0, x1, x2, x3, x4, x5, x6, x7, x8, x9, xa]) (d0 d1 d2 d3 d4 d5 d6 d7 d8 d9 da : Value) :
    Blk (((((((((((w.setCell ⟨g, 0, none⟩ d0).setCell ⟨g, 1, none⟩ d1).setCell ⟨g, 2, none⟩ d2).setCell ⟨g, 3, none⟩ d3).setCell ⟨g, 4, none⟩ d4).setCell ⟨g, 5, none⟩ d5).setCell ⟨g, 6, none⟩ d6).setCell ⟨g, 7, none⟩ d7).setCell ⟨g, 8, none⟩ d8).setCell ⟨g, 9, none⟩ d9).setCell ⟨g, 10, none⟩ da) g t #[d0, d1, d2, d3, d4, d5, d6, d7, d8, d9, da] := by
  have hE := ((((((((((h.set_ 0 d0).set_ 1 d1).set_ 2 d2).set_ 3 d3).set_ 4 d4).set_ 5 d5).set_ 6 d6).set_ 7 d7).set_ 8 d8).set_ 9 d9).set_ 10 da
  simp only [List.setIfInBounds_toArray, List.set_cons_zero, List.set_cons_succ] at hE
  exact hE
theorem Fr.set11 {S : Nat → Prop} {w w' : World} (h : Fr S w w') {g : Nat} (hg : S g ∨ w.heap.size ≤ g) (d0 d1 d2 d3 d4 d5 d6 d7 d8 d9 da : Value) :
    Fr S w (((((((((((w'.setCell ⟨g, 0, none⟩ d0).setCell ⟨g, 1, none⟩ d1).setCell ⟨g, 2, none⟩ d2).setCell ⟨g, 3, none⟩ d3).setCell ⟨g, 4, none⟩ d4).setCell ⟨g, 5, none⟩ d5).setCell ⟨g, 6, none⟩ d6).setCell ⟨g, 7, none⟩ d7).setCell ⟨g, 8, none⟩ d8).setCell ⟨g, 9, none⟩ d9).setCell ⟨g, 10, none⟩ da) :=
  ((((((((((h.set_ (p := ⟨g, 0, none⟩) hg d0).set_ (p := ⟨g, 1, none⟩) hg d1).set_ (p := ⟨g, 2, none⟩) hg d2).set_ (p := ⟨g, 3, none⟩) hg d3).set_ (p := ⟨g, 4, none⟩) hg d4).set_ (p := ⟨g, 5, none⟩) hg d5).set_ (p := ⟨g, 6, none⟩) hg d6).set_ (p := ⟨g, 7, none⟩) hg d7).set_ (p := ⟨g, 8, none⟩) hg d8).set_ (p := ⟨g, 9, none⟩) hg d9).set_ (p := ⟨g, 10, none⟩) hg da

set_option maxHeartbeats 4000000 in
set_option maxRecDepth 100000 in
theorem ref18_do (c0 c1 c2 c3 c4 c5 c6 c7 r dl : Int) (ls : Bool) (A : Option Addr) (m cp : Nat) (d : List Int) (w : World) (hr : Rd w 1 A m (nums .u8 d)) (hd : bytes8 d) (hm : m ≤ cp) (hcp : cp ≤ 9223372036854775807) (hb : m ≤ 600) (hr0 : 0 ≤ r ∧ r ≤ 65535) (hcs : ∀ x ∈ [c0, c1, c2, c3, c4, c5, c6, c7], 0 ≤ x ∧ x < 65536) :
    Calls Try.prog 17 #[stV ⟨[c0, c1, c2, c3, c4, c5, c6, c7], r, ls, dl⟩, .slice A m cp] w (refPost (doS ⟨[c0, c1, c2, c3, c4, c5, c6, c7], r, ls, dl⟩ d) w) := by
  have hl := hr.numlen
  obtain ⟨y, hy⟩ : ∃ y, y = doS ⟨[c0, c1, c2, c3, c4, c5, c6, c7], r, ls, dl⟩ d := ⟨_, rfl⟩
  rw [← hy, stV, stC_lit]
  have HY := Lib.hid hy
  clear hy
  have HLEN := Lib.hid hl
  by_cases h2 : d.length < 2
  · go_enter Try.func17, Try.ntmps17
    go_wp2
    obtain rfl : y = (⟨[c0, c1, c2, c3, c4, c5, c6, c7], r, ls, dl⟩, [], 0, 3) := by rw [HY.out, doS, if_pos h2]
    refine bodyPost_ret (v := .tuple #[.agg #[.int .u16 c0, .int .u16 c1, .int .u16 c2, .int .u16 c3, .int .u16 c4, .int .u16 c5, .int .u16 c6, .int .u16 c7, .int .u16 r, .bool ls, .int .u8 dl], .slice none 0 0, .int .i64 0, .int .i64 3]) (by simp [results, Try.results17, go_sem]) rfl ?_
    exact ⟨none, 0, 0, rfl, Rd.nil_ _ _ _, Nat.le_refl _, Nat.zero_le _, (fun ad h => by cases h), ((Fr.refl _ _).alloc _).alloc _⟩
  · have hr2 := (hr.alloc (.cells #[.int .u16 c0, .int .u16 c1, .int .u16 c2, .int .u16 c3, .int .u16 c4, .int .u16 c5, .int .u16 c6, .int .u16 c7, .int .u16 r, .bool ls, .int .u8 dl] 43)).alloc (.cells #[.int .u16 0, .int .u16 0, .int .u16 0, .int .u16 0, .int .u16 0, .int .u16 0, .int .u16 0, .int .u16 0, .int .u16 0, .bool false, .int .u8 0] 43)
    have hm2 : 0 + 2 ≤ m := by omega
    go_enter Try.func17, Try.ntmps17
    go_wp2_with fail
    refine (ref_at_ok A m cp d 0 _ hr2 hd hm2 hm hcp).mono ?_
    rintro e w2 ⟨rfl, k2, rfl⟩
    obtain ⟨n, hn⟩ : ∃ n, n = at2 d 0 := ⟨_, rfl⟩
    have hnb : 0 ≤ n ∧ n ≤ 65535 := by rw [hn]; exact at2_word hd 0
    rw [← hn]
    have HN := Lib.hid hn
    clear hn
    go_wp2_with fail
    refine (ref18_known n _ hnb).mono ?_
    rintro e w3 ⟨rfl, rfl⟩
    cases hk : knownN n with
    | false =>
      have HK := Lib.hid hk
      clear hk
      go_wp2_with fail
      obtain rfl : y = (⟨[c0, c1, c2, c3, c4, c5, c6, c7], r, ls, dl⟩, [], 0, 1) := by rw [HY.out, doS, if_neg h2, ← HN.out, if_pos HK.out]
      refine bodyPost_ret (v := .tuple #[.agg #[.int .u16 c0, .int .u16 c1, .int .u16 c2, .int .u16 c3, .int .u16 c4, .int .u16 c5, .int .u16 c6, .int .u16 c7, .int .u16 r, .bool ls, .int .u8 dl], .slice none 0 0, .int .i64 0, .int .i64 1]) (by simp [results, Try.results17, go_sem]) rfl ?_
      exact ⟨none, 0, 0, rfl, Rd.nil_ _ _ _, Nat.le_refl _, Nat.zero_le _, (fun ad h => by cases h), ((((Fr.refl nob w).alloc _).alloc _).drewN _).set11 (.inr (Nat.le_succ _)) _ _ _ _ _ _ _ _ _ _ _⟩
    | true =>
      have HK := Lib.hid hk
      clear hk
      obtain ⟨A2, hrun, hcut, _⟩ := cut_run (size := 1) Try.underlying23 (by kernel_rfl) A m cp 2 2 rfl (by omega) hm
      have hrd : Rd w 1 A2 (m - 2) (nums .u8 (d.drop 2)) := by
        have := hcut w _ hr
        rwa [show (nums .u8 d).drop (2 * 1) = nums .u8 (d.drop 2) by simp [nums]] at this
      clear hcut
      have hdd : bytes8 (d.drop 2) := fun z hz => hd z (List.mem_of_mem_drop hz)
      go_wp2_with fail
      refine (ref_at0 A2 (m - 2) (cp - 2) (d.drop 2) _ (((hrd.alloc _).alloc _).drewN _) hdd (by omega) (by omega)).mono ?_
      rintro e w4 ⟨rfl, k4, rfl⟩
      clear hrun
      have hxx : 0 ≤ word0 (d.drop 2) ∧ word0 (d.drop 2) ≤ 65535 := by
        rw [word0]
        split
        · exact at2_word hdd 0
        · omega
      obtain ⟨x, hx⟩ : ∃ x, x = word0 (d.drop 2) := ⟨_, rfl⟩
      rw [← hx] at hxx ⊢
      have HX := Lib.hid hx
      obtain ⟨g2, hg2⟩ : ∃ g2, g2 = decide (2 ≤ (d.drop 2).length) := ⟨_, rfl⟩
      rw [← hg2]
      have HL2 : Hid ((d.drop 2).length = m - 2) := Lib.hid (by rw [List.length_drop, hl])
      have HY2 : Hid (y = if mayS n (d.drop 2) = false then (⟨[c0, c1, c2, c3, c4, c5, c6, c7], r, ls, dl⟩, [], 0, 3) else ((doN ⟨[c0, c1, c2, c3, c4, c5, c6, c7], r, ls, dl⟩ n (at2 d 2) d).1, (doN ⟨[c0, c1, c2, c3, c4, c5, c6, c7], r, ls, dl⟩ n (at2 d 2) d).2.1, (doN ⟨[c0, c1, c2, c3, c4, c5, c6, c7], r, ls, dl⟩ n (at2 d 2) d).2.2, 0)) := Lib.hid (by
        rw [HY.out, doS, if_neg h2, ← HN.out, if_neg (by rw [HK.out]; simp)])
      have hg2v : g2 = decide (2 ≤ m - 2) := by rw [hg2, HL2.out]
      have HG2 := Lib.hid hg2v
      clear hx hg2 hg2v
      have hbx : Blk ((((w.alloc (.cells #[.int .u16 c0, .int .u16 c1, .int .u16 c2, .int .u16 c3, .int .u16 c4, .int .u16 c5, .int .u16 c6, .int .u16 c7, .int .u16 r, .bool ls, .int .u8 dl] 43)).alloc (.cells #[.int .u16 0, .int .u16 0, .int .u16 0, .int .u16 0, .int .u16 0, .int .u16 0, .int .u16 0, .int .u16 0, .int .u16 0, .bool false, .int .u8 0] 43)).drewN k2).drewN k4) w.heap.size 43 #[.int .u16 c0, .int .u16 c1, .int .u16 c2, .int .u16 c3, .int .u16 c4, .int .u16 c5, .int .u16 c6, .int .u16 c7, .int .u16 r, .bool ls, .int .u8 dl] := (((Blk.new w _ _).alloc _).drewN _).drewN _
      have hby : Blk ((((w.alloc (.cells #[.int .u16 c0, .int .u16 c1, .int .u16 c2, .int .u16 c3, .int .u16 c4, .int .u16 c5, .int .u16 c6, .int .u16 c7, .int .u16 r, .bool ls, .int .u8 dl] 43)).alloc (.cells #[.int .u16 0, .int .u16 0, .int .u16 0, .int .u16 0, .int .u16 0, .int .u16 0, .int .u16 0, .int .u16 0, .int .u16 0, .bool false, .int .u8 0] 43)).drewN k2).drewN k4) (w.heap.size + 1) 43 #[.int .u16 0, .int .u16 0, .int .u16 0, .int .u16 0, .int .u16 0, .int .u16 0, .int .u16 0, .int .u16 0, .int .u16 0, .bool false, .int .u8 0] := by
        have h0 := ((Blk.new (w.alloc (.cells #[.int .u16 c0, .int .u16 c1, .int .u16 c2, .int .u16 c3, .int .u16 c4, .int .u16 c5, .int .u16 c6, .int .u16 c7, .int .u16 r, .bool ls, .int .u8 dl] 43)) 43 #[.int .u16 0, .int .u16 0, .int .u16 0, .int .u16 0, .int .u16 0, .int .u16 0, .int .u16 0, .int .u16 0, .int .u16 0, .bool false, .int .u8 0]).drewN k2).drewN k4
        rwa [World.size_alloc] at h0
      have hfw : Fr nob w ((((w.alloc (.cells #[.int .u16 c0, .int .u16 c1, .int .u16 c2, .int .u16 c3, .int .u16 c4, .int .u16 c5, .int .u16 c6, .int .u16 c7, .int .u16 r, .bool ls, .int .u8 dl] 43)).alloc (.cells #[.int .u16 0, .int .u16 0, .int .u16 0, .int .u16 0, .int .u16 0, .int .u16 0, .int .u16 0, .int .u16 0, .int .u16 0, .bool false, .int .u8 0] 43)).drewN k2).drewN k4) := ((((Fr.refl nob w).alloc _).alloc _).drewN _).drewN _
      obtain ⟨w5, hw5⟩ : ∃ w5, w5 = ((((w.alloc (.cells #[.int .u16 c0, .int .u16 c1, .int .u16 c2, .int .u16 c3, .int .u16 c4, .int .u16 c5, .int .u16 c6, .int .u16 c7, .int .u16 r, .bool ls, .int .u8 dl] 43)).alloc (.cells #[.int .u16 0, .int .u16 0, .int .u16 0, .int .u16 0, .int .u16 0, .int .u16 0, .int .u16 0, .int .u16 0, .int .u16 0, .bool false, .int .u8 0] 43)).drewN k2).drewN k4) := ⟨_, rfl⟩
      rw [← hw5] at hbx hby hfw
      rw [← hw5]
      clear hw5
      have hry := hr.nob hfw
      have q1 := hbx.cell
      have q2 := hby.cell
      have q3 := hbx.frozen
      have q4 := hby.frozen
      have z1 := hbx.lt
      have z2 := hby.lt
      by_cases hn0 : n = 0
      · have HN1 := Lib.hid hn0
        have e0 : (n == 0) = true := by rw [beq_iff_eq]; exact hn0
        clear hn0
        by_cases hl1 : m - 2 < 2
        · have mf : mayS n (d.drop 2) = false := by rw [HN1.out, mayS, if_pos rfl, HL2.out, decide_eq_false (by omega)]; rfl
          have MF := Lib.hid mf
          clear mf
          go_wp2_with fail
          obtain rfl : y = ((⟨[c0, c1, c2, c3, c4, c5, c6, c7], r, ls, dl⟩ : Dg), [], 0, 3) := by rw [HY2.out, if_pos (MF.out)]
          refine bodyPost_ret (v := .tuple #[.agg #[.int .u16 c0, .int .u16 c1, .int .u16 c2, .int .u16 c3, .int .u16 c4, .int .u16 c5, .int .u16 c6, .int .u16 c7, .int .u16 r, .bool ls, .int .u8 dl], .slice none 0 0, .int .i64 0, .int .i64 3]) (by simp [results, Try.results17, go_sem, q2]) rfl ?_
          exact ⟨none, 0, 0, rfl, Rd.nil_ _ _ _, Nat.le_refl _, Nat.zero_le _, (fun ad h => by cases h), hfw.set11 (.inr (Nat.le_succ _)) _ _ _ _ _ _ _ _ _ _ _⟩
        by_cases hl3 : 250 < m - 2
        · have mf : mayS n (d.drop 2) = false := by rw [HN1.out, mayS, if_pos rfl, HL2.out, decide_eq_false (show ¬ m - 2 ≤ 250 by omega), Bool.and_false]; rfl
          have MF := Lib.hid mf
          clear mf
          go_wp2_with fail
          obtain rfl : y = ((⟨[c0, c1, c2, c3, c4, c5, c6, c7], r, ls, dl⟩ : Dg), [], 0, 3) := by rw [HY2.out, if_pos (MF.out)]
          refine bodyPost_ret (v := .tuple #[.agg #[.int .u16 c0, .int .u16 c1, .int .u16 c2, .int .u16 c3, .int .u16 c4, .int .u16 c5, .int .u16 c6, .int .u16 c7, .int .u16 r, .bool ls, .int .u8 dl], .slice none 0 0, .int .i64 0, .int .i64 3]) (by simp [results, Try.results17, go_sem, q2]) rfl ?_
          exact ⟨none, 0, 0, rfl, Rd.nil_ _ _ _, Nat.le_refl _, Nat.zero_le _, (fun ad h => by cases h), hfw.set11 (.inr (Nat.le_succ _)) _ _ _ _ _ _ _ _ _ _ _⟩
        by_cases hl4 : (m - 2) % 2 = 1
        · have mf : mayS n (d.drop 2) = false := by rw [HN1.out, mayS, if_pos rfl, HL2.out, decide_eq_false (show ¬ (m - 2) % 2 = 0 by omega), Bool.and_false]
          have MF := Lib.hid mf
          have et : (((↑(m - 2) : Int) % 2) == 1) = true := by rw [beq_iff_eq]; omega
          clear mf hl4
          go_wp2_with fail
          obtain rfl : y = ((⟨[c0, c1, c2, c3, c4, c5, c6, c7], r, ls, dl⟩ : Dg), [], 0, 3) := by rw [HY2.out, if_pos (MF.out)]
          refine bodyPost_ret (v := .tuple #[.agg #[.int .u16 c0, .int .u16 c1, .int .u16 c2, .int .u16 c3, .int .u16 c4, .int .u16 c5, .int .u16 c6, .int .u16 c7, .int .u16 r, .bool ls, .int .u8 dl], .slice none 0 0, .int .i64 0, .int .i64 3]) (by simp [results, Try.results17, go_sem, q2]) rfl ?_
          exact ⟨none, 0, 0, rfl, Rd.nil_ _ _ _, Nat.le_refl _, Nat.zero_le _, (fun ad h => by cases h), hfw.set11 (.inr (Nat.le_succ _)) _ _ _ _ _ _ _ _ _ _ _⟩
        · have mf : mayS n (d.drop 2) = true := by rw [HN1.out, mayS, if_pos rfl, HL2.out, decide_eq_true (show 2 ≤ m - 2 by omega), decide_eq_true (show m - 2 ≤ 250 by omega), decide_eq_true (show (m - 2) % 2 = 0 by omega)]; rfl
          have MF := Lib.hid mf
          have et : (((↑(m - 2) : Int) % 2) == 1) = false := by rw [beq_eq_false_iff_ne]; omega
          clear mf hl4
          have hyy := HY2.out
          rw [if_neg (by rw [MF.out]; simp), doN_0 HN1.out] at hyy
          have HYY := Lib.hid hyy
          clear hyy
          go_wp2_with fail
          have hownE : ((w5.alloc (.cells #[] 5)).drew).ownsRow w5.heap.size 5 1 (.slice (some ⟨w5.heap.size, 0, none⟩) 0 0) 0 [] := own_empty w5 5 1
          have hryE : Rd ((w5.alloc (.cells #[] 5)).drew) 1 A m (nums .u8 d) := hry.alloc (.cells #[] 5)
          refine wp_region_held_drew (S := fun w' => ∀ i, w'.cell? ⟨w.heap.size, i, none⟩ = (#[.int .u16 c0, .int .u16 c1, .int .u16 c2, .int .u16 c3, .int .u16 c4, .int .u16 c5, .int .u16 c6, .int .u16 c7, .int .u16 r, .bool ls, .int .u8 dl] : Array Value)[i]?) (by kernel_rfl) (q1) (fun hHeld => ?_)
          first
            | (refine mix_skip 0 rfl (by kernel_rfl) (by kernel_rfl) (by kernel_rfl) (by rfl) (by assumption) (fun _ _ _ h => h) ?_)
            | (refine mix_pure 0 (v := ?_) rfl (by kernel_rfl) (by kernel_rfl) (by kernel_rfl) (by rfl) (by assumption) (fun _ _ _ h => h) ?_ ?_; rotate_left; · (intro wS hSw; (try dsimp only at hSw); go_simp; try with_reducible rfl))
          simp only [Act.put, List.setIfInBounds_toArray, List.set_cons_zero, List.set_cons_succ]
          first
            | (refine mix_skip 2 rfl (by kernel_rfl) (by kernel_rfl) (by kernel_rfl) (by rfl) (by assumption) (fun _ _ _ h => h) ?_)
            | (refine mix_pure 2 (v := ?_) rfl (by kernel_rfl) (by kernel_rfl) (by kernel_rfl) (by rfl) (by assumption) (fun _ _ _ h => h) ?_ ?_; rotate_left; · (intro wS hSw; (try dsimp only at hSw); go_simp; try with_reducible rfl))
          simp only [Act.put, List.setIfInBounds_toArray, List.set_cons_zero, List.set_cons_succ]
          refine mix_one 1 rfl (by kernel_rfl) (fun K hK => ?_)
          go_simp
          refine hK.out _ _ (((hbx.alloc (.cells #[] 5)).drew).cell) (fun hHeld0 => ?_)
          clear hK K
          try simp only [Act.put, List.setIfInBounds_toArray, List.set_cons_zero, List.set_cons_succ]
          refine mix_one 3 rfl (by kernel_rfl) (fun K hK => ?_)
          rw [if_pos (by rfl)]
          refine app_row_op (P := Try.prog) (W := (w5.alloc (.cells #[] 5)).drew) w5.heap.size  _ _ _ 5 (Value.int .u8 0) 1 1 rfl Try.underlying23 (by kernel_rfl) rfl (by omega) (.slice (some ⟨w5.heap.size, 0, none⟩) 0 0) 0 [] A m cp (nums .u8 d) rfl rfl (nums_one _ _) hownE hryE (by simp) (by omega) (by omega) ?_
          intro v6 w6 hown1 hg6 _
          have hown6 : w6.ownsRow w5.heap.size 5 1 v6 m (nums .u8 d) := by simpa using hown1
          have hbx6 := ((hbx.alloc (.cells #[] 5)).drew).grown hg6 (fun e => by have := own_at hownE _ e.symm; omega)
          have hby6 := ((hby.alloc (.cells #[] 5)).drew).grown hg6 (fun e => by have := own_at hownE _ e.symm; omega)
          have hfw6 : Fr nob w w6 := ((hfw.alloc _).drew).grown hg6 (fun k hk => .inr (by have := own_at hownE k hk; have := hfw.size; omega))
          obtain ⟨A6, e6, rfl, hle6, _⟩ := own_form hown6
          have hge6 := own_ge hown6
          have hcap6 := own_cap hown6
          have q5 := hbx6.cell
          have q6 := hby6.cell
          have q7 := hbx6.frozen
          have q8 := hby6.frozen
          have z3 := hbx6.lt
          have z4 := hby6.lt
          refine hK.out _ _ (hbx6.cell) (fun hHeld1 => ?_)
          clear hK K
          try simp only [Act.put, List.setIfInBounds_toArray, List.set_cons_zero, List.set_cons_succ]
          refine mix_one 4 rfl (by kernel_rfl) (fun K hK => ?_)
          go_simp
          refine hK.out _ _ ((hbx6.fr ((Fr.refl (fun i => i = w.heap.size + 1) w6).set11 (.inl rfl) _ _ _ _ _ _ _ _ _ _ _) (by omega)).cell) (fun hHeld2 => ?_)
          clear hK K
          try simp only [Act.put, List.setIfInBounds_toArray, List.set_cons_zero, List.set_cons_succ]
          first
            | (refine mix_skip 5 rfl (by kernel_rfl) (by kernel_rfl) (by kernel_rfl) (by rfl) (by assumption) (fun _ _ _ h => h) ?_)
            | (refine mix_pure 5 (v := ?_) rfl (by kernel_rfl) (by kernel_rfl) (by kernel_rfl) (by rfl) (by assumption) (fun _ _ _ h => h) ?_ ?_; rotate_left; · (intro wS hSw; (try dsimp only at hSw); go_simp; try with_reducible rfl))
          simp only [Act.put, List.setIfInBounds_toArray, List.set_cons_zero, List.set_cons_succ]
          first
            | (refine mix_skip 6 rfl (by kernel_rfl) (by kernel_rfl) (by kernel_rfl) (by rfl) (by assumption) (fun _ _ _ h => h) ?_)
            | (refine mix_pure 6 (v := ?_) rfl (by kernel_rfl) (by kernel_rfl) (by kernel_rfl) (by rfl) (by assumption) (fun _ _ _ h => h) ?_ ?_; rotate_left; · (intro wS hSw; (try dsimp only at hSw); go_simp; try with_reducible rfl))
          simp only [Act.put, List.setIfInBounds_toArray, List.set_cons_zero, List.set_cons_succ]
          first
            | (refine mix_skip 7 rfl (by kernel_rfl) (by kernel_rfl) (by kernel_rfl) (by rfl) (by assumption) (fun _ _ _ h => h) ?_)
            | (refine mix_pure 7 (v := ?_) rfl (by kernel_rfl) (by kernel_rfl) (by kernel_rfl) (by rfl) (by assumption) (fun _ _ _ h => h) ?_ ?_; rotate_left; · (intro wS hSw; (try dsimp only at hSw); go_simp; try with_reducible rfl))
          simp only [Act.put, List.setIfInBounds_toArray, List.set_cons_zero, List.set_cons_succ]
          refine wpAnyH_done (by kernel_rfl) ?_ _
          clear hHeld hHeld0 hHeld1 hHeld2
          go_wp2_with fail
          obtain rfl := HYY.out
          refine bodyPost_ret (v := .tuple #[.agg #[.int .u16 c0, .int .u16 c1, .int .u16 c2, .int .u16 c3, .int .u16 c4, .int .u16 c5, .int .u16 c6, .int .u16 c7, .int .u16 r, .bool ls, .int .u8 dl], .slice A6 m e6, .int .i64 0, .int .i64 0]) (by simp [results, Try.results17, go_sem, q6]) rfl ?_
          exact ⟨A6, m, e6, rfl, (Rd.of_own hown6).fr ((Fr.refl (fun i => i = w.heap.size ∨ i = w.heap.size + 1) w6).set11 (.inl (.inr rfl)) _ _ _ _ _ _ _ _ _ _ _) (fun ad h hs => by have := hge6 ad h; omega), hle6, hcap6, (fun ad h => Nat.le_trans hfw.size (hge6 ad h)), hfw6.newer ((Fr.refl (fun i => i = w.heap.size ∨ i = w.heap.size + 1) w6).set11 (.inl (.inr rfl)) _ _ _ _ _ _ _ _ _ _ _) (fun i hi => by omega)⟩
      have HN0 := Lib.hid hn0
      have e0 : (n == 0) = false := by rw [beq_eq_false_iff_ne]; exact hn0
      clear hn0
      by_cases hlen : m - 2 = 2
      rotate_left
      · have mf : mayS n (d.drop 2) = false := may_no HN0.out (by rw [HL2.out]; exact hlen)
        have MF := Lib.hid mf
        have hne : ((↑(m - 2) : Int) != 2) = true := by rw [bne_iff_ne]; omega
        clear mf hlen
        go_wp2_with fail
        obtain rfl : y = ((⟨[c0, c1, c2, c3, c4, c5, c6, c7], r, ls, dl⟩ : Dg), [], 0, 3) := by rw [HY2.out, if_pos (MF.out)]
        refine bodyPost_ret (v := .tuple #[.agg #[.int .u16 c0, .int .u16 c1, .int .u16 c2, .int .u16 c3, .int .u16 c4, .int .u16 c5, .int .u16 c6, .int .u16 c7, .int .u16 r, .bool ls, .int .u8 dl], .slice none 0 0, .int .i64 0, .int .i64 3]) (by simp [results, Try.results17, go_sem, q2]) rfl ?_
        exact ⟨none, 0, 0, rfl, Rd.nil_ _ _ _, Nat.le_refl _, Nat.zero_le _, (fun ad h => by cases h), hfw.set11 (.inr (Nat.le_succ _)) _ _ _ _ _ _ _ _ _ _ _⟩
      have hne : ((↑(m - 2) : Int) != 2) = false := by rw [bne_eq_false_iff_eq]; omega
      have hl2 : (d.drop 2).length = 2 := by rw [HL2.out]; exact hlen
      have hxw : word0 (d.drop 2) = at2 d 2 := word0_drop (by omega)
      rw [← hxw, ← HX.out] at HY2
      have HL := Lib.hid hl2
      clear hlen hl2 hxw
      have hcases : n = 1 ∨ n = 2 ∨ n = 3 ∨ n = 4 ∨ n = 10 ∨ n = 20 ∨ (11 ≤ n ∧ n < 19) := by have := known_cases HK.out; have := HN0.out; omega
      rcases hcases with hn1 | hn1 | hn1 | hn1 | hn1 | hn1 | hn1
      · have HN1 := Lib.hid hn1
        have e1 : (n == 1) = true := by rw [beq_iff_eq]; have := HN1.out; omega
        have e2 : (n == 2) = false := by rw [beq_eq_false_iff_ne, ne_eq]; have := HN1.out; omega
        have e3 : (n == 3) = false := by rw [beq_eq_false_iff_ne, ne_eq]; have := HN1.out; omega
        have e4 : (n == 4) = false := by rw [beq_eq_false_iff_ne, ne_eq]; have := HN1.out; omega
        have e10 : (n == 10) = false := by rw [beq_eq_false_iff_ne, ne_eq]; have := HN1.out; omega
        have e20 : (n == 20) = false := by rw [beq_eq_false_iff_ne, ne_eq]; have := HN1.out; omega
        have n1 : (n != 1) = false := by rw [bne_eq_false_iff_eq]; have := HN1.out; omega
        have n3 : (n != 3) = true := by rw [bne_iff_ne, ne_eq]; have := HN1.out; omega
        clear hn1
        by_cases hx0 : x = 0
        · have HX0 := Lib.hid hx0
          have x0 : (x != 0) = false := by rw [bne_eq_false_iff_eq]; omega
          have y0 : (x == 0) = true := by rw [beq_iff_eq]; omega
          have mf : mayS n (d.drop 2) = true := by rw [may_1 HN1.out HL.out, ← HX.out, HX0.out]; rfl
          have MF := Lib.hid mf
          have hyy := HY2.out
          rw [if_neg (by rw [MF.out]; simp), doN_1 HN1.out] at hyy
          have HYY := Lib.hid hyy
          clear hyy
          clear mf hx0
          have hownE := own_empty w5 5 1
          have hryE := hry.alloc (.cells #[] 5)
          go_wp2_with (at_builtin; (refine app_row (P := Try.prog) (W := w5.alloc (.cells #[] 5)) w5.heap.size rfl _ _ _ 5 (Value.int .u8 0) 1 1 rfl Try.underlying23 (by kernel_rfl) rfl (by omega) (.slice (some ⟨w5.heap.size, 0, none⟩) 0 0) 0 [] A m cp (nums .u8 d) rfl rfl (nums_one _ _) hownE hryE (by simp) (by omega) (by omega) ?_); intro v6 w6 hown1 hg6 hat6; go_must ((have hown6 : w6.ownsRow w5.heap.size 5 1 v6 m (nums .u8 d) := by simpa using hown1); (have hbx6 := ((hbx.alloc (.cells #[] 5))).grown hg6 (fun e => by have := own_at hownE _ e.symm; omega)); (have hby6 := ((hby.alloc (.cells #[] 5))).grown hg6 (fun e => by have := own_at hownE _ e.symm; omega)); (have hfw6 : Fr nob w w6 := ((hfw.alloc _)).grown hg6 (fun k hk => .inr (by have := own_at hownE k hk; have := hfw.size; omega))); (obtain ⟨A6, e6, rfl, hle6, _⟩ := own_form hown6); (have hge6 := own_ge hown6); (have hcap6 := own_cap hown6); (have q5 := hbx6.cell); (have q6 := hby6.cell); (have q7 := hbx6.frozen); (have q8 := hby6.frozen); (have z3 := hbx6.lt); (have z4 := hby6.lt)))
          obtain rfl : y = ((⟨[0, 0, 0, 0, 0, 0, 0, 0], r, false, dl⟩ : Dg), d, 1, 0) := by rw [HYY.out, HX0.out]; rfl
          refine bodyPost_ret (v := .tuple #[.agg #[.int .u16 0, .int .u16 0, .int .u16 0, .int .u16 0, .int .u16 0, .int .u16 0, .int .u16 0, .int .u16 0, .int .u16 r, .bool false, .int .u8 dl], .slice A6 m e6, .int .i64 1, .int .i64 0]) (by simp [results, Try.results17, go_sem, q6]) rfl ?_
          exact ⟨A6, m, e6, rfl, (Rd.of_own hown6).fr (((((((((((Fr.refl (fun i => i = w.heap.size ∨ i = w.heap.size + 1) w6).set_ (p := ⟨w.heap.size, 0, none⟩) (.inl (.inl rfl)) _).set_ (p := ⟨w.heap.size, 1, none⟩) (.inl (.inl rfl)) _).set_ (p := ⟨w.heap.size, 2, none⟩) (.inl (.inl rfl)) _).set_ (p := ⟨w.heap.size, 3, none⟩) (.inl (.inl rfl)) _).set_ (p := ⟨w.heap.size, 4, none⟩) (.inl (.inl rfl)) _).set_ (p := ⟨w.heap.size, 5, none⟩) (.inl (.inl rfl)) _).set_ (p := ⟨w.heap.size, 6, none⟩) (.inl (.inl rfl)) _).set_ (p := ⟨w.heap.size, 7, none⟩) (.inl (.inl rfl)) _).set_ (p := ⟨w.heap.size, 9, none⟩) (.inl (.inl rfl)) _).set11 (.inl (.inr rfl)) _ _ _ _ _ _ _ _ _ _ _) (fun ad h hs => by have := hge6 ad h; omega), hle6, hcap6, (fun ad h => Nat.le_trans hfw.size (hge6 ad h)), hfw6.newer (((((((((((Fr.refl (fun i => i = w.heap.size ∨ i = w.heap.size + 1) w6).set_ (p := ⟨w.heap.size, 0, none⟩) (.inl (.inl rfl)) _).set_ (p := ⟨w.heap.size, 1, none⟩) (.inl (.inl rfl)) _).set_ (p := ⟨w.heap.size, 2, none⟩) (.inl (.inl rfl)) _).set_ (p := ⟨w.heap.size, 3, none⟩) (.inl (.inl rfl)) _).set_ (p := ⟨w.heap.size, 4, none⟩) (.inl (.inl rfl)) _).set_ (p := ⟨w.heap.size, 5, none⟩) (.inl (.inl rfl)) _).set_ (p := ⟨w.heap.size, 6, none⟩) (.inl (.inl rfl)) _).set_ (p := ⟨w.heap.size, 7, none⟩) (.inl (.inl rfl)) _).set_ (p := ⟨w.heap.size, 9, none⟩) (.inl (.inl rfl)) _).set11 (.inl (.inr rfl)) _ _ _ _ _ _ _ _ _ _ _) (fun i hi => by omega)⟩
        by_cases hx1 : x = 65280
        · have HX1 := Lib.hid hx1
          have x0 : (x != 0) = true := by rw [bne_iff_ne, ne_eq]; omega
          have y0 : (x == 0) = false := by rw [beq_eq_false_iff_ne, ne_eq]; omega
          have x65280 : (x != 65280) = false := by rw [bne_eq_false_iff_eq]; omega
          have y65280 : (x == 65280) = true := by rw [beq_iff_eq]; omega
          have mf : mayS n (d.drop 2) = true := by rw [may_1 HN1.out HL.out, ← HX.out, HX1.out]; rfl
          have MF := Lib.hid mf
          have hyy := HY2.out
          rw [if_neg (by rw [MF.out]; simp), doN_1 HN1.out] at hyy
          have HYY := Lib.hid hyy
          clear hyy
          clear mf hx0 hx1
          have hownE := own_empty w5 5 1
          have hryE := hry.alloc (.cells #[] 5)
          go_wp2_with (at_builtin; (refine app_row (P := Try.prog) (W := w5.alloc (.cells #[] 5)) w5.heap.size rfl _ _ _ 5 (Value.int .u8 0) 1 1 rfl Try.underlying23 (by kernel_rfl) rfl (by omega) (.slice (some ⟨w5.heap.size, 0, none⟩) 0 0) 0 [] A m cp (nums .u8 d) rfl rfl (nums_one _ _) hownE hryE (by simp) (by omega) (by omega) ?_); intro v6 w6 hown1 hg6 hat6; go_must ((have hown6 : w6.ownsRow w5.heap.size 5 1 v6 m (nums .u8 d) := by simpa using hown1); (have hbx6 := ((hbx.alloc (.cells #[] 5))).grown hg6 (fun e => by have := own_at hownE _ e.symm; omega)); (have hby6 := ((hby.alloc (.cells #[] 5))).grown hg6 (fun e => by have := own_at hownE _ e.symm; omega)); (have hfw6 : Fr nob w w6 := ((hfw.alloc _)).grown hg6 (fun k hk => .inr (by have := own_at hownE k hk; have := hfw.size; omega))); (obtain ⟨A6, e6, rfl, hle6, _⟩ := own_form hown6); (have hge6 := own_ge hown6); (have hcap6 := own_cap hown6); (have q5 := hbx6.cell); (have q6 := hby6.cell); (have q7 := hbx6.frozen); (have q8 := hby6.frozen); (have z3 := hbx6.lt); (have z4 := hby6.lt)))
          obtain rfl : y = ((⟨[0, 0, 0, 0, 0, 0, 0, 0], r, false, dl⟩ : Dg), d, 2, 0) := by rw [HYY.out, HX1.out]; rfl
          refine bodyPost_ret (v := .tuple #[.agg #[.int .u16 0, .int .u16 0, .int .u16 0, .int .u16 0, .int .u16 0, .int .u16 0, .int .u16 0, .int .u16 0, .int .u16 r, .bool false, .int .u8 dl], .slice A6 m e6, .int .i64 2, .int .i64 0]) (by simp [results, Try.results17, go_sem, q6]) rfl ?_
          exact ⟨A6, m, e6, rfl, (Rd.of_own hown6).fr (((((((((((Fr.refl (fun i => i = w.heap.size ∨ i = w.heap.size + 1) w6).set_ (p := ⟨w.heap.size, 0, none⟩) (.inl (.inl rfl)) _).set_ (p := ⟨w.heap.size, 1, none⟩) (.inl (.inl rfl)) _).set_ (p := ⟨w.heap.size, 2, none⟩) (.inl (.inl rfl)) _).set_ (p := ⟨w.heap.size, 3, none⟩) (.inl (.inl rfl)) _).set_ (p := ⟨w.heap.size, 4, none⟩) (.inl (.inl rfl)) _).set_ (p := ⟨w.heap.size, 5, none⟩) (.inl (.inl rfl)) _).set_ (p := ⟨w.heap.size, 6, none⟩) (.inl (.inl rfl)) _).set_ (p := ⟨w.heap.size, 7, none⟩) (.inl (.inl rfl)) _).set_ (p := ⟨w.heap.size, 9, none⟩) (.inl (.inl rfl)) _).set11 (.inl (.inr rfl)) _ _ _ _ _ _ _ _ _ _ _) (fun ad h hs => by have := hge6 ad h; omega), hle6, hcap6, (fun ad h => Nat.le_trans hfw.size (hge6 ad h)), hfw6.newer (((((((((((Fr.refl (fun i => i = w.heap.size ∨ i = w.heap.size + 1) w6).set_ (p := ⟨w.heap.size, 0, none⟩) (.inl (.inl rfl)) _).set_ (p := ⟨w.heap.size, 1, none⟩) (.inl (.inl rfl)) _).set_ (p := ⟨w.heap.size, 2, none⟩) (.inl (.inl rfl)) _).set_ (p := ⟨w.heap.size, 3, none⟩) (.inl (.inl rfl)) _).set_ (p := ⟨w.heap.size, 4, none⟩) (.inl (.inl rfl)) _).set_ (p := ⟨w.heap.size, 5, none⟩) (.inl (.inl rfl)) _).set_ (p := ⟨w.heap.size, 6, none⟩) (.inl (.inl rfl)) _).set_ (p := ⟨w.heap.size, 7, none⟩) (.inl (.inl rfl)) _).set_ (p := ⟨w.heap.size, 9, none⟩) (.inl (.inl rfl)) _).set11 (.inl (.inr rfl)) _ _ _ _ _ _ _ _ _ _ _) (fun i hi => by omega)⟩
        · have mf : mayS n (d.drop 2) = false := by rw [may_1 HN1.out HL.out, ← HX.out, decide_eq_false hx0, decide_eq_false hx1]; rfl
          have MF := Lib.hid mf
          have x0 : (x != 0) = true := by rw [bne_iff_ne, ne_eq]; omega
          have y0 : (x == 0) = false := by rw [beq_eq_false_iff_ne, ne_eq]; omega
          have x65280 : (x != 65280) = true := by rw [bne_iff_ne, ne_eq]; omega
          have y65280 : (x == 65280) = false := by rw [beq_eq_false_iff_ne, ne_eq]; omega
          clear mf hx0 hx1
          go_wp2_with fail
          obtain rfl : y = ((⟨[c0, c1, c2, c3, c4, c5, c6, c7], r, ls, dl⟩ : Dg), [], 0, 3) := by rw [HY2.out, if_pos (MF.out)]
          refine bodyPost_ret (v := .tuple #[.agg #[.int .u16 c0, .int .u16 c1, .int .u16 c2, .int .u16 c3, .int .u16 c4, .int .u16 c5, .int .u16 c6, .int .u16 c7, .int .u16 r, .bool ls, .int .u8 dl], .slice none 0 0, .int .i64 0, .int .i64 3]) (by simp [results, Try.results17, go_sem, q2]) rfl ?_
          exact ⟨none, 0, 0, rfl, Rd.nil_ _ _ _, Nat.le_refl _, Nat.zero_le _, (fun ad h => by cases h), hfw.set11 (.inr (Nat.le_succ _)) _ _ _ _ _ _ _ _ _ _ _⟩
      · have HN1 := Lib.hid hn1
        have e1 : (n == 1) = false := by rw [beq_eq_false_iff_ne, ne_eq]; have := HN1.out; omega
        have e2 : (n == 2) = true := by rw [beq_iff_eq]; have := HN1.out; omega
        have e3 : (n == 3) = false := by rw [beq_eq_false_iff_ne, ne_eq]; have := HN1.out; omega
        have e4 : (n == 4) = false := by rw [beq_eq_false_iff_ne, ne_eq]; have := HN1.out; omega
        have e10 : (n == 10) = false := by rw [beq_eq_false_iff_ne, ne_eq]; have := HN1.out; omega
        have e20 : (n == 20) = false := by rw [beq_eq_false_iff_ne, ne_eq]; have := HN1.out; omega
        have n1 : (n != 1) = true := by rw [bne_iff_ne, ne_eq]; have := HN1.out; omega
        have n3 : (n != 3) = true := by rw [bne_iff_ne, ne_eq]; have := HN1.out; omega
        have HNO : Hid (n ≠ 0 ∧ n ≠ 1 ∧ n ≠ 3) := Lib.hid ⟨HN0.out, by omega, by omega⟩
        clear hn1
        by_cases hx0 : x = 0
        rotate_left
        · have mf : mayS n (d.drop 2) = false := by rw [may_o HNO.out HL.out, ← HX.out, decide_eq_false hx0]
          have MF := Lib.hid mf
          have x0 : (x != 0) = true := by rw [bne_iff_ne, ne_eq]; omega
          have y0 : (x == 0) = false := by rw [beq_eq_false_iff_ne, ne_eq]; omega
          clear mf hx0
          go_wp2_with fail
          obtain rfl : y = ((⟨[c0, c1, c2, c3, c4, c5, c6, c7], r, ls, dl⟩ : Dg), [], 0, 3) := by rw [HY2.out, if_pos (MF.out)]
          refine bodyPost_ret (v := .tuple #[.agg #[.int .u16 c0, .int .u16 c1, .int .u16 c2, .int .u16 c3, .int .u16 c4, .int .u16 c5, .int .u16 c6, .int .u16 c7, .int .u16 r, .bool ls, .int .u8 dl], .slice none 0 0, .int .i64 0, .int .i64 3]) (by simp [results, Try.results17, go_sem, q2]) rfl ?_
          exact ⟨none, 0, 0, rfl, Rd.nil_ _ _ _, Nat.le_refl _, Nat.zero_le _, (fun ad h => by cases h), hfw.set11 (.inr (Nat.le_succ _)) _ _ _ _ _ _ _ _ _ _ _⟩
        · have HX0 := Lib.hid hx0
          have x0 : (x != 0) = false := by rw [bne_eq_false_iff_eq]; omega
          have y0 : (x == 0) = true := by rw [beq_iff_eq]; omega
          have mf : mayS n (d.drop 2) = true := by rw [may_o HNO.out HL.out, ← HX.out, HX0.out]; rfl
          have MF := Lib.hid mf
          have hyy := HY2.out
          rw [if_neg (by rw [MF.out]; simp), doN_2 HN1.out] at hyy
          have HYY := Lib.hid hyy
          clear hyy
          clear mf hx0
          have hownE := own_empty w5 5 1
          have hryE := hry.alloc (.cells #[] 5)
          go_wp2_with (at_builtin; (refine app_row (P := Try.prog) (W := w5.alloc (.cells #[] 5)) w5.heap.size rfl _ _ _ 5 (Value.int .u8 0) 1 1 rfl Try.underlying23 (by kernel_rfl) rfl (by omega) (.slice (some ⟨w5.heap.size, 0, none⟩) 0 0) 0 [] A m cp (nums .u8 d) rfl rfl (nums_one _ _) hownE hryE (by simp) (by omega) (by omega) ?_); intro v6 w6 hown1 hg6 hat6; go_must ((have hown6 : w6.ownsRow w5.heap.size 5 1 v6 m (nums .u8 d) := by simpa using hown1); (have hbx6 := ((hbx.alloc (.cells #[] 5))).grown hg6 (fun e => by have := own_at hownE _ e.symm; omega)); (have hby6 := ((hby.alloc (.cells #[] 5))).grown hg6 (fun e => by have := own_at hownE _ e.symm; omega)); (have hfw6 : Fr nob w w6 := ((hfw.alloc _)).grown hg6 (fun k hk => .inr (by have := own_at hownE k hk; have := hfw.size; omega))); (obtain ⟨A6, e6, rfl, hle6, _⟩ := own_form hown6); (have hge6 := own_ge hown6); (have hcap6 := own_cap hown6); (have q5 := hbx6.cell); (have q6 := hby6.cell); (have q7 := hbx6.frozen); (have q8 := hby6.frozen); (have z3 := hbx6.lt); (have z4 := hby6.lt)))
          have hyn := HYY.out
          rw [HN1.out] at hyn
          clear HYY
          have HYY := Lib.hid hyn
          clear hyn
          have hw16 : words16 [2, r] := by intro z hz; simp at hz; rcases hz with rfl | rfl <;> omega
          refine wp_region_held_drew (S := fun w' => w'.cell? ⟨w.heap.size, 0, none⟩ = some (.int .u16 c0) ∧ w'.cell? ⟨w.heap.size, 1, none⟩ = some (.int .u16 c1) ∧ w'.cell? ⟨w.heap.size, 2, none⟩ = some (.int .u16 c2) ∧ w'.cell? ⟨w.heap.size, 3, none⟩ = some (.int .u16 c3) ∧ w'.cell? ⟨w.heap.size, 4, none⟩ = some (.int .u16 c4) ∧ w'.cell? ⟨w.heap.size, 5, none⟩ = some (.int .u16 c5) ∧ w'.cell? ⟨w.heap.size, 6, none⟩ = some (.int .u16 c6) ∧ w'.cell? ⟨w.heap.size, 7, none⟩ = some (.int .u16 c7) ∧ w'.cell? ⟨w.heap.size, 8, none⟩ = some (.int .u16 r) ∧ w'.cell? ⟨w.heap.size, 9, none⟩ = some (.bool ls) ∧ w'.cell? ⟨w.heap.size, 10, none⟩ = some (.int .u8 dl)) (by kernel_rfl) (⟨(hbx6.drew).cell 0, (hbx6.drew).cell 1, (hbx6.drew).cell 2, (hbx6.drew).cell 3, (hbx6.drew).cell 4, (hbx6.drew).cell 5, (hbx6.drew).cell 6, (hbx6.drew).cell 7, (hbx6.drew).cell 8, (hbx6.drew).cell 9, (hbx6.drew).cell 10⟩) (fun hHeld => ?_)
          first
            | (refine mix_skip 0 rfl (by kernel_rfl) (by kernel_rfl) (by kernel_rfl) (by rfl) (by assumption) (fun _ _ _ h => h) ?_)
            | (refine mix_pure 0 (v := ?_) rfl (by kernel_rfl) (by kernel_rfl) (by kernel_rfl) (by rfl) (by assumption) (fun _ _ _ h => h) ?_ ?_; rotate_left; · (intro wS hSw; (try dsimp only at hSw); go_simp; try with_reducible rfl))
          simp only [Act.put, List.setIfInBounds_toArray, List.set_cons_zero, List.set_cons_succ]
          first
            | (refine mix_skip 1 rfl (by kernel_rfl) (by kernel_rfl) (by kernel_rfl) (by rfl) (by assumption) (fun _ _ _ h => h) ?_)
            | (refine mix_pure 1 (v := ?_) rfl (by kernel_rfl) (by kernel_rfl) (by kernel_rfl) (by rfl) (by assumption) (fun _ _ _ h => h) ?_ ?_; rotate_left; · (intro wS hSw; (try dsimp only at hSw); go_simp; try with_reducible rfl))
          simp only [Act.put, List.setIfInBounds_toArray, List.set_cons_zero, List.set_cons_succ]
          first
            | (refine mix_skip 2 rfl (by kernel_rfl) (by kernel_rfl) (by kernel_rfl) (by rfl) (by assumption) (fun _ _ _ h => h) ?_)
            | (refine mix_pure 2 (v := ?_) rfl (by kernel_rfl) (by kernel_rfl) (by kernel_rfl) (by rfl) (by assumption) (fun _ _ _ h => h) ?_ ?_; rotate_left; · (intro wS hSw; (try dsimp only at hSw); go_simp; try with_reducible rfl))
          simp only [Act.put, List.setIfInBounds_toArray, List.set_cons_zero, List.set_cons_succ]
          refine mix_one 3 rfl (by kernel_rfl) (fun K hK => ?_)
          go_simp
          refine hK.out _ _ (⟨((hbx6.alloc (.cells #[.int .u16 2, .int .u16 r] 36)).drew).cell 0, ((hbx6.alloc (.cells #[.int .u16 2, .int .u16 r] 36)).drew).cell 1, ((hbx6.alloc (.cells #[.int .u16 2, .int .u16 r] 36)).drew).cell 2, ((hbx6.alloc (.cells #[.int .u16 2, .int .u16 r] 36)).drew).cell 3, ((hbx6.alloc (.cells #[.int .u16 2, .int .u16 r] 36)).drew).cell 4, ((hbx6.alloc (.cells #[.int .u16 2, .int .u16 r] 36)).drew).cell 5, ((hbx6.alloc (.cells #[.int .u16 2, .int .u16 r] 36)).drew).cell 6, ((hbx6.alloc (.cells #[.int .u16 2, .int .u16 r] 36)).drew).cell 7, ((hbx6.alloc (.cells #[.int .u16 2, .int .u16 r] 36)).drew).cell 8, ((hbx6.alloc (.cells #[.int .u16 2, .int .u16 r] 36)).drew).cell 9, ((hbx6.alloc (.cells #[.int .u16 2, .int .u16 r] 36)).drew).cell 10⟩) (fun hHeld0 => ?_)
          clear hK K
          try simp only [Act.put, List.setIfInBounds_toArray, List.set_cons_zero, List.set_cons_succ]
          refine mix_one 4 rfl (by kernel_rfl) (fun K hK => ?_)
          go_simp
          refine (ref_put _ 2 2 [2, r] _ (Rd.of_blk ((Blk.new w6 36 #[.int .u16 2, .int .u16 r]).drew) rfl (fun j u hu => by rw [Nat.zero_add]; simpa [nums] using hu)) hw16 (by omega) (by omega)).mono ?_
          rintro e w7 ⟨A7, c8, rfl, hown7, hf7⟩
          have hbx7 := (hbx6.alloc (.cells #[.int .u16 2, .int .u16 r] 36)).drew.fr hf7 (fun h => h)
          have hby7 := (hby6.alloc (.cells #[.int .u16 2, .int .u16 r] 36)).drew.fr hf7 (fun h => h)
          have hfw7 : Fr nob w w7 := ((hfw6.alloc (.cells #[.int .u16 2, .int .u16 r] 36)).drew).trans hf7 (fun _ _ h => h)
          have q9 := hbx7.cell
          have qa := hby7.cell
          have qb := hbx7.frozen
          have qc := hby7.frozen
          have z5 := hbx7.lt
          have z6 := hby7.lt
          refine hK.out _ _ (⟨(hbx7).cell 0, (hbx7).cell 1, (hbx7).cell 2, (hbx7).cell 3, (hbx7).cell 4, (hbx7).cell 5, (hbx7).cell 6, (hbx7).cell 7, (hbx7).cell 8, (hbx7).cell 9, (hbx7).cell 10⟩) (fun hHeld1 => ?_)
          clear hK K
          try simp only [Act.put, List.setIfInBounds_toArray, List.set_cons_zero, List.set_cons_succ]
          refine mix_one 5 rfl (by kernel_rfl) (fun K hK => ?_)
          go_simp
          refine hK.out _ _ (⟨((hbx7.fr ((Fr.refl (fun i => i = w.heap.size + 1) w7).set11 (.inl rfl) _ _ _ _ _ _ _ _ _ _ _) (by omega))).cell 0, ((hbx7.fr ((Fr.refl (fun i => i = w.heap.size + 1) w7).set11 (.inl rfl) _ _ _ _ _ _ _ _ _ _ _) (by omega))).cell 1, ((hbx7.fr ((Fr.refl (fun i => i = w.heap.size + 1) w7).set11 (.inl rfl) _ _ _ _ _ _ _ _ _ _ _) (by omega))).cell 2, ((hbx7.fr ((Fr.refl (fun i => i = w.heap.size + 1) w7).set11 (.inl rfl) _ _ _ _ _ _ _ _ _ _ _) (by omega))).cell 3, ((hbx7.fr ((Fr.refl (fun i => i = w.heap.size + 1) w7).set11 (.inl rfl) _ _ _ _ _ _ _ _ _ _ _) (by omega))).cell 4, ((hbx7.fr ((Fr.refl (fun i => i = w.heap.size + 1) w7).set11 (.inl rfl) _ _ _ _ _ _ _ _ _ _ _) (by omega))).cell 5, ((hbx7.fr ((Fr.refl (fun i => i = w.heap.size + 1) w7).set11 (.inl rfl) _ _ _ _ _ _ _ _ _ _ _) (by omega))).cell 6, ((hbx7.fr ((Fr.refl (fun i => i = w.heap.size + 1) w7).set11 (.inl rfl) _ _ _ _ _ _ _ _ _ _ _) (by omega))).cell 7, ((hbx7.fr ((Fr.refl (fun i => i = w.heap.size + 1) w7).set11 (.inl rfl) _ _ _ _ _ _ _ _ _ _ _) (by omega))).cell 8, ((hbx7.fr ((Fr.refl (fun i => i = w.heap.size + 1) w7).set11 (.inl rfl) _ _ _ _ _ _ _ _ _ _ _) (by omega))).cell 9, ((hbx7.fr ((Fr.refl (fun i => i = w.heap.size + 1) w7).set11 (.inl rfl) _ _ _ _ _ _ _ _ _ _ _) (by omega))).cell 10⟩) (fun hHeld2 => ?_)
          clear hK K
          try simp only [Act.put, List.setIfInBounds_toArray, List.set_cons_zero, List.set_cons_succ]
          first
            | (refine mix_skip 6 rfl (by kernel_rfl) (by kernel_rfl) (by kernel_rfl) (by rfl) (by assumption) (fun _ _ _ h => h) ?_)
            | (refine mix_pure 6 (v := ?_) rfl (by kernel_rfl) (by kernel_rfl) (by kernel_rfl) (by rfl) (by assumption) (fun _ _ _ h => h) ?_ ?_; rotate_left; · (intro wS hSw; (try dsimp only at hSw); go_simp; try with_reducible rfl))
          simp only [Act.put, List.setIfInBounds_toArray, List.set_cons_zero, List.set_cons_succ]
          first
            | (refine mix_skip 7 rfl (by kernel_rfl) (by kernel_rfl) (by kernel_rfl) (by rfl) (by assumption) (fun _ _ _ h => h) ?_)
            | (refine mix_pure 7 (v := ?_) rfl (by kernel_rfl) (by kernel_rfl) (by kernel_rfl) (by rfl) (by assumption) (fun _ _ _ h => h) ?_ ?_; rotate_left; · (intro wS hSw; (try dsimp only at hSw); go_simp; try with_reducible rfl))
          simp only [Act.put, List.setIfInBounds_toArray, List.set_cons_zero, List.set_cons_succ]
          first
            | (refine mix_skip 8 rfl (by kernel_rfl) (by kernel_rfl) (by kernel_rfl) (by rfl) (by assumption) (fun _ _ _ h => h) ?_)
            | (refine mix_pure 8 (v := ?_) rfl (by kernel_rfl) (by kernel_rfl) (by kernel_rfl) (by rfl) (by assumption) (fun _ _ _ h => h) ?_ ?_; rotate_left; · (intro wS hSw; (try dsimp only at hSw); go_simp; try with_reducible rfl))
          simp only [Act.put, List.setIfInBounds_toArray, List.set_cons_zero, List.set_cons_succ]
          refine wpAnyH_done (by kernel_rfl) ?_ _
          clear hHeld hHeld0 hHeld1 hHeld2
          go_wp2_with fail
          have hge7 := own_ge hown7
          simp at hge7
          have hcap7 := own_cap hown7
          have hle7 : 4 ≤ c8 := by obtain ⟨A9, c9, e9, hle9, _⟩ := own_form hown7; injection e9; omega
          obtain rfl := HYY.out
          refine bodyPost_ret (v := .tuple #[.agg #[.int .u16 c0, .int .u16 c1, .int .u16 c2, .int .u16 c3, .int .u16 c4, .int .u16 c5, .int .u16 c6, .int .u16 c7, .int .u16 r, .bool ls, .int .u8 dl], .slice A7 4 c8, .int .i64 0, .int .i64 0]) (by simp [results, Try.results17, go_sem, qa]) rfl ?_
          exact ⟨A7, 4, c8, rfl, (Rd.of_own hown7).fr ((Fr.refl (fun i => i = w.heap.size ∨ i = w.heap.size + 1) w7).set11 (.inl (.inr rfl)) _ _ _ _ _ _ _ _ _ _ _) (fun ad h hs => by have := hge7 ad h; omega), hle7, hcap7, (fun ad h => by have := hge7 ad h; have := hfw6.size; omega), hfw7.newer ((Fr.refl (fun i => i = w.heap.size ∨ i = w.heap.size + 1) w7).set11 (.inl (.inr rfl)) _ _ _ _ _ _ _ _ _ _ _) (fun i hi => by omega)⟩
      · have HN1 := Lib.hid hn1
        have e1 : (n == 1) = false := by rw [beq_eq_false_iff_ne, ne_eq]; have := HN1.out; omega
        have e2 : (n == 2) = false := by rw [beq_eq_false_iff_ne, ne_eq]; have := HN1.out; omega
        have e3 : (n == 3) = true := by rw [beq_iff_eq]; have := HN1.out; omega
        have e4 : (n == 4) = false := by rw [beq_eq_false_iff_ne, ne_eq]; have := HN1.out; omega
        have e10 : (n == 10) = false := by rw [beq_eq_false_iff_ne, ne_eq]; have := HN1.out; omega
        have e20 : (n == 20) = false := by rw [beq_eq_false_iff_ne, ne_eq]; have := HN1.out; omega
        have n1 : (n != 1) = true := by rw [bne_iff_ne, ne_eq]; have := HN1.out; omega
        have n3 : (n != 3) = false := by rw [bne_eq_false_iff_eq]; have := HN1.out; omega
        clear hn1
        by_cases hx0 : x % 256 = 0
        rotate_left
        · have mf : mayS n (d.drop 2) = false := by rw [may_3 HN1.out HL.out, ← HX.out, decide_eq_false hx0]
          have MF := Lib.hid mf
          have x3 : (x % 256 != 0) = true := by rw [bne_iff_ne, ne_eq]; exact hx0
          clear mf hx0
          go_wp2_with fail
          obtain rfl : y = ((⟨[c0, c1, c2, c3, c4, c5, c6, c7], r, ls, dl⟩ : Dg), [], 0, 3) := by rw [HY2.out, if_pos (MF.out)]
          refine bodyPost_ret (v := .tuple #[.agg #[.int .u16 c0, .int .u16 c1, .int .u16 c2, .int .u16 c3, .int .u16 c4, .int .u16 c5, .int .u16 c6, .int .u16 c7, .int .u16 r, .bool ls, .int .u8 dl], .slice none 0 0, .int .i64 0, .int .i64 3]) (by simp [results, Try.results17, go_sem, q2]) rfl ?_
          exact ⟨none, 0, 0, rfl, Rd.nil_ _ _ _, Nat.le_refl _, Nat.zero_le _, (fun ad h => by cases h), hfw.set11 (.inr (Nat.le_succ _)) _ _ _ _ _ _ _ _ _ _ _⟩
        · have x3 : (x % 256 != 0) = false := by rw [bne_eq_false_iff_eq]; exact hx0
          have mf : mayS n (d.drop 2) = true := by rw [may_3 HN1.out HL.out, ← HX.out, hx0]; rfl
          have MF := Lib.hid mf
          have hyy := HY2.out
          rw [if_neg (by rw [MF.out]; simp), doN_3 HN1.out] at hyy
          have HYY := Lib.hid hyy
          clear hyy
          clear mf hx0
          have hd3 : IntKind.u16.wrap (x.tdiv 256) % 256 = x / 256 := by
            rw [Int.tdiv_eq_ediv_of_nonneg hxx.1, wraps_u16 _ (by omega) (by omega)]; omega
          have HD3 := Lib.hid hd3
          clear hd3
          have hownE := own_empty w5 5 1
          have hryE := hry.alloc (.cells #[] 5)
          go_wp2_with (at_builtin; (refine app_row (P := Try.prog) (W := w5.alloc (.cells #[] 5)) w5.heap.size rfl _ _ _ 5 (Value.int .u8 0) 1 1 rfl Try.underlying23 (by kernel_rfl) rfl (by omega) (.slice (some ⟨w5.heap.size, 0, none⟩) 0 0) 0 [] A m cp (nums .u8 d) rfl rfl (nums_one _ _) hownE hryE (by simp) (by omega) (by omega) ?_); intro v6 w6 hown1 hg6 hat6; go_must ((have hown6 : w6.ownsRow w5.heap.size 5 1 v6 m (nums .u8 d) := by simpa using hown1); (have hbx6 := ((hbx.alloc (.cells #[] 5))).grown hg6 (fun e => by have := own_at hownE _ e.symm; omega)); (have hby6 := ((hby.alloc (.cells #[] 5))).grown hg6 (fun e => by have := own_at hownE _ e.symm; omega)); (have hfw6 : Fr nob w w6 := ((hfw.alloc _)).grown hg6 (fun k hk => .inr (by have := own_at hownE k hk; have := hfw.size; omega))); (obtain ⟨A6, e6, rfl, hle6, _⟩ := own_form hown6); (have hge6 := own_ge hown6); (have hcap6 := own_cap hown6); (have q5 := hbx6.cell); (have q6 := hby6.cell); (have q7 := hbx6.frozen); (have q8 := hby6.frozen); (have z3 := hbx6.lt); (have z4 := hby6.lt)))
          have hd3 := HD3.out
          obtain rfl := HYY.out
          refine bodyPost_ret (v := .tuple #[.agg #[.int .u16 c0, .int .u16 c1, .int .u16 c2, .int .u16 c3, .int .u16 c4, .int .u16 c5, .int .u16 c6, .int .u16 c7, .int .u16 r, .bool ls, .int .u8 (x / 256)], .slice A6 m e6, .int .i64 0, .int .i64 0]) (by simp [results, Try.results17, go_sem, q6, hd3]) rfl ?_
          exact ⟨A6, m, e6, rfl, (Rd.of_own hown6).fr (((Fr.refl (fun i => i = w.heap.size ∨ i = w.heap.size + 1) w6).set_ (p := ⟨w.heap.size, 10, none⟩) (.inl (.inl rfl)) _).set11 (.inl (.inr rfl)) _ _ _ _ _ _ _ _ _ _ _) (fun ad h hs => by have := hge6 ad h; omega), hle6, hcap6, (fun ad h => Nat.le_trans hfw.size (hge6 ad h)), hfw6.newer (((Fr.refl (fun i => i = w.heap.size ∨ i = w.heap.size + 1) w6).set_ (p := ⟨w.heap.size, 10, none⟩) (.inl (.inl rfl)) _).set11 (.inl (.inr rfl)) _ _ _ _ _ _ _ _ _ _ _) (fun i hi => by omega)⟩
      · have HN1 := Lib.hid hn1
        have e1 : (n == 1) = false := by rw [beq_eq_false_iff_ne, ne_eq]; have := HN1.out; omega
        have e2 : (n == 2) = false := by rw [beq_eq_false_iff_ne, ne_eq]; have := HN1.out; omega
        have e3 : (n == 3) = false := by rw [beq_eq_false_iff_ne, ne_eq]; have := HN1.out; omega
        have e4 : (n == 4) = true := by rw [beq_iff_eq]; have := HN1.out; omega
        have e10 : (n == 10) = false := by rw [beq_eq_false_iff_ne, ne_eq]; have := HN1.out; omega
        have e20 : (n == 20) = false := by rw [beq_eq_false_iff_ne, ne_eq]; have := HN1.out; omega
        have n1 : (n != 1) = true := by rw [bne_iff_ne, ne_eq]; have := HN1.out; omega
        have n3 : (n != 3) = true := by rw [bne_iff_ne, ne_eq]; have := HN1.out; omega
        have HNO : Hid (n ≠ 0 ∧ n ≠ 1 ∧ n ≠ 3) := Lib.hid ⟨HN0.out, by omega, by omega⟩
        clear hn1
        by_cases hx0 : x = 0
        rotate_left
        · have mf : mayS n (d.drop 2) = false := by rw [may_o HNO.out HL.out, ← HX.out, decide_eq_false hx0]
          have MF := Lib.hid mf
          have x0 : (x != 0) = true := by rw [bne_iff_ne, ne_eq]; omega
          have y0 : (x == 0) = false := by rw [beq_eq_false_iff_ne, ne_eq]; omega
          clear mf hx0
          go_wp2_with fail
          obtain rfl : y = ((⟨[c0, c1, c2, c3, c4, c5, c6, c7], r, ls, dl⟩ : Dg), [], 0, 3) := by rw [HY2.out, if_pos (MF.out)]
          refine bodyPost_ret (v := .tuple #[.agg #[.int .u16 c0, .int .u16 c1, .int .u16 c2, .int .u16 c3, .int .u16 c4, .int .u16 c5, .int .u16 c6, .int .u16 c7, .int .u16 r, .bool ls, .int .u8 dl], .slice none 0 0, .int .i64 0, .int .i64 3]) (by simp [results, Try.results17, go_sem, q2]) rfl ?_
          exact ⟨none, 0, 0, rfl, Rd.nil_ _ _ _, Nat.le_refl _, Nat.zero_le _, (fun ad h => by cases h), hfw.set11 (.inr (Nat.le_succ _)) _ _ _ _ _ _ _ _ _ _ _⟩
        · have HX0 := Lib.hid hx0
          have x0 : (x != 0) = false := by rw [bne_eq_false_iff_eq]; omega
          have y0 : (x == 0) = true := by rw [beq_iff_eq]; omega
          have mf : mayS n (d.drop 2) = true := by rw [may_o HNO.out HL.out, ← HX.out, HX0.out]; rfl
          have MF := Lib.hid mf
          have hyy := HY2.out
          rw [if_neg (by rw [MF.out]; simp), doN_4 HN1.out] at hyy
          have HYY := Lib.hid hyy
          clear hyy
          clear mf hx0
          have hownE := own_empty w5 5 1
          have hryE := hry.alloc (.cells #[] 5)
          go_wp2_with (at_builtin; (refine app_row (P := Try.prog) (W := w5.alloc (.cells #[] 5)) w5.heap.size rfl _ _ _ 5 (Value.int .u8 0) 1 1 rfl Try.underlying23 (by kernel_rfl) rfl (by omega) (.slice (some ⟨w5.heap.size, 0, none⟩) 0 0) 0 [] A m cp (nums .u8 d) rfl rfl (nums_one _ _) hownE hryE (by simp) (by omega) (by omega) ?_); intro v6 w6 hown1 hg6 hat6; go_must ((have hown6 : w6.ownsRow w5.heap.size 5 1 v6 m (nums .u8 d) := by simpa using hown1); (have hbx6 := ((hbx.alloc (.cells #[] 5))).grown hg6 (fun e => by have := own_at hownE _ e.symm; omega)); (have hby6 := ((hby.alloc (.cells #[] 5))).grown hg6 (fun e => by have := own_at hownE _ e.symm; omega)); (have hfw6 : Fr nob w w6 := ((hfw.alloc _)).grown hg6 (fun k hk => .inr (by have := own_at hownE k hk; have := hfw.size; omega))); (obtain ⟨A6, e6, rfl, hle6, _⟩ := own_form hown6); (have hge6 := own_ge hown6); (have hcap6 := own_cap hown6); (have q5 := hbx6.cell); (have q6 := hby6.cell); (have q7 := hbx6.frozen); (have q8 := hby6.frozen); (have z3 := hbx6.lt); (have z4 := hby6.lt)))
          obtain rfl := HYY.out
          refine bodyPost_ret (v := .tuple #[.agg #[.int .u16 c0, .int .u16 c1, .int .u16 c2, .int .u16 c3, .int .u16 c4, .int .u16 c5, .int .u16 c6, .int .u16 c7, .int .u16 r, .bool true, .int .u8 dl], .slice none 0 0, .int .i64 3, .int .i64 0]) (by simp [results, Try.results17, go_sem, q6]) rfl ?_
          exact ⟨none, 0, 0, rfl, Rd.nil_ _ _ _, Nat.le_refl _, Nat.zero_le _, (fun ad h => by cases h), hfw6.newer (((Fr.refl (fun i => i = w.heap.size ∨ i = w.heap.size + 1) w6).set_ (p := ⟨w.heap.size, 9, none⟩) (.inl (.inl rfl)) _).set11 (.inl (.inr rfl)) _ _ _ _ _ _ _ _ _ _ _) (fun i hi => by omega)⟩
      · have HN1 := Lib.hid hn1
        have e1 : (n == 1) = false := by rw [beq_eq_false_iff_ne, ne_eq]; have := HN1.out; omega
        have e2 : (n == 2) = false := by rw [beq_eq_false_iff_ne, ne_eq]; have := HN1.out; omega
        have e3 : (n == 3) = false := by rw [beq_eq_false_iff_ne, ne_eq]; have := HN1.out; omega
        have e4 : (n == 4) = false := by rw [beq_eq_false_iff_ne, ne_eq]; have := HN1.out; omega
        have e10 : (n == 10) = true := by rw [beq_iff_eq]; have := HN1.out; omega
        have e20 : (n == 20) = false := by rw [beq_eq_false_iff_ne, ne_eq]; have := HN1.out; omega
        have n1 : (n != 1) = true := by rw [bne_iff_ne, ne_eq]; have := HN1.out; omega
        have n3 : (n != 3) = true := by rw [bne_iff_ne, ne_eq]; have := HN1.out; omega
        have HNO : Hid (n ≠ 0 ∧ n ≠ 1 ∧ n ≠ 3) := Lib.hid ⟨HN0.out, by omega, by omega⟩
        clear hn1
        by_cases hx0 : x = 0
        rotate_left
        · have mf : mayS n (d.drop 2) = false := by rw [may_o HNO.out HL.out, ← HX.out, decide_eq_false hx0]
          have MF := Lib.hid mf
          have x0 : (x != 0) = true := by rw [bne_iff_ne, ne_eq]; omega
          have y0 : (x == 0) = false := by rw [beq_eq_false_iff_ne, ne_eq]; omega
          clear mf hx0
          go_wp2_with fail
          obtain rfl : y = ((⟨[c0, c1, c2, c3, c4, c5, c6, c7], r, ls, dl⟩ : Dg), [], 0, 3) := by rw [HY2.out, if_pos (MF.out)]
          refine bodyPost_ret (v := .tuple #[.agg #[.int .u16 c0, .int .u16 c1, .int .u16 c2, .int .u16 c3, .int .u16 c4, .int .u16 c5, .int .u16 c6, .int .u16 c7, .int .u16 r, .bool ls, .int .u8 dl], .slice none 0 0, .int .i64 0, .int .i64 3]) (by simp [results, Try.results17, go_sem, q2]) rfl ?_
          exact ⟨none, 0, 0, rfl, Rd.nil_ _ _ _, Nat.le_refl _, Nat.zero_le _, (fun ad h => by cases h), hfw.set11 (.inr (Nat.le_succ _)) _ _ _ _ _ _ _ _ _ _ _⟩
        · have HX0 := Lib.hid hx0
          have x0 : (x != 0) = false := by rw [bne_eq_false_iff_eq]; omega
          have y0 : (x == 0) = true := by rw [beq_iff_eq]; omega
          have mf : mayS n (d.drop 2) = true := by rw [may_o HNO.out HL.out, ← HX.out, HX0.out]; rfl
          have MF := Lib.hid mf
          have hyy := HY2.out
          rw [if_neg (by rw [MF.out]; simp), doN_10 HN1.out] at hyy
          have HYY := Lib.hid hyy
          clear hyy
          clear mf hx0
          have hownE := own_empty w5 5 1
          have hryE := hry.alloc (.cells #[] 5)
          go_wp2_with (at_builtin; (refine app_row (P := Try.prog) (W := w5.alloc (.cells #[] 5)) w5.heap.size rfl _ _ _ 5 (Value.int .u8 0) 1 1 rfl Try.underlying23 (by kernel_rfl) rfl (by omega) (.slice (some ⟨w5.heap.size, 0, none⟩) 0 0) 0 [] A m cp (nums .u8 d) rfl rfl (nums_one _ _) hownE hryE (by simp) (by omega) (by omega) ?_); intro v6 w6 hown1 hg6 hat6; go_must ((have hown6 : w6.ownsRow w5.heap.size 5 1 v6 m (nums .u8 d) := by simpa using hown1); (have hbx6 := ((hbx.alloc (.cells #[] 5))).grown hg6 (fun e => by have := own_at hownE _ e.symm; omega)); (have hby6 := ((hby.alloc (.cells #[] 5))).grown hg6 (fun e => by have := own_at hownE _ e.symm; omega)); (have hfw6 : Fr nob w w6 := ((hfw.alloc _)).grown hg6 (fun k hk => .inr (by have := own_at hownE k hk; have := hfw.size; omega))); (obtain ⟨A6, e6, rfl, hle6, _⟩ := own_form hown6); (have hge6 := own_ge hown6); (have hcap6 := own_cap hown6); (have q5 := hbx6.cell); (have q6 := hby6.cell); (have q7 := hbx6.frozen); (have q8 := hby6.frozen); (have z3 := hbx6.lt); (have z4 := hby6.lt)))
          obtain rfl := HYY.out
          refine bodyPost_ret (v := .tuple #[.agg #[.int .u16 0, .int .u16 0, .int .u16 0, .int .u16 0, .int .u16 0, .int .u16 0, .int .u16 0, .int .u16 0, .int .u16 0, .bool ls, .int .u8 dl], .slice A6 m e6, .int .i64 0, .int .i64 0]) (by simp [results, Try.results17, go_sem, q6]) rfl ?_
          exact ⟨A6, m, e6, rfl, (Rd.of_own hown6).fr (((((((((((Fr.refl (fun i => i = w.heap.size ∨ i = w.heap.size + 1) w6).set_ (p := ⟨w.heap.size, 0, none⟩) (.inl (.inl rfl)) _).set_ (p := ⟨w.heap.size, 1, none⟩) (.inl (.inl rfl)) _).set_ (p := ⟨w.heap.size, 2, none⟩) (.inl (.inl rfl)) _).set_ (p := ⟨w.heap.size, 3, none⟩) (.inl (.inl rfl)) _).set_ (p := ⟨w.heap.size, 4, none⟩) (.inl (.inl rfl)) _).set_ (p := ⟨w.heap.size, 5, none⟩) (.inl (.inl rfl)) _).set_ (p := ⟨w.heap.size, 6, none⟩) (.inl (.inl rfl)) _).set_ (p := ⟨w.heap.size, 7, none⟩) (.inl (.inl rfl)) _).set_ (p := ⟨w.heap.size, 8, none⟩) (.inl (.inl rfl)) _).set11 (.inl (.inr rfl)) _ _ _ _ _ _ _ _ _ _ _) (fun ad h hs => by have := hge6 ad h; omega), hle6, hcap6, (fun ad h => Nat.le_trans hfw.size (hge6 ad h)), hfw6.newer (((((((((((Fr.refl (fun i => i = w.heap.size ∨ i = w.heap.size + 1) w6).set_ (p := ⟨w.heap.size, 0, none⟩) (.inl (.inl rfl)) _).set_ (p := ⟨w.heap.size, 1, none⟩) (.inl (.inl rfl)) _).set_ (p := ⟨w.heap.size, 2, none⟩) (.inl (.inl rfl)) _).set_ (p := ⟨w.heap.size, 3, none⟩) (.inl (.inl rfl)) _).set_ (p := ⟨w.heap.size, 4, none⟩) (.inl (.inl rfl)) _).set_ (p := ⟨w.heap.size, 5, none⟩) (.inl (.inl rfl)) _).set_ (p := ⟨w.heap.size, 6, none⟩) (.inl (.inl rfl)) _).set_ (p := ⟨w.heap.size, 7, none⟩) (.inl (.inl rfl)) _).set_ (p := ⟨w.heap.size, 8, none⟩) (.inl (.inl rfl)) _).set11 (.inl (.inr rfl)) _ _ _ _ _ _ _ _ _ _ _) (fun i hi => by omega)⟩
      · have HN1 := Lib.hid hn1
        have e1 : (n == 1) = false := by rw [beq_eq_false_iff_ne, ne_eq]; have := HN1.out; omega
        have e2 : (n == 2) = false := by rw [beq_eq_false_iff_ne, ne_eq]; have := HN1.out; omega
        have e3 : (n == 3) = false := by rw [beq_eq_false_iff_ne, ne_eq]; have := HN1.out; omega
        have e4 : (n == 4) = false := by rw [beq_eq_false_iff_ne, ne_eq]; have := HN1.out; omega
        have e10 : (n == 10) = false := by rw [beq_eq_false_iff_ne, ne_eq]; have := HN1.out; omega
        have e20 : (n == 20) = true := by rw [beq_iff_eq]; have := HN1.out; omega
        have n1 : (n != 1) = true := by rw [bne_iff_ne, ne_eq]; have := HN1.out; omega
        have n3 : (n != 3) = true := by rw [bne_iff_ne, ne_eq]; have := HN1.out; omega
        have HNO : Hid (n ≠ 0 ∧ n ≠ 1 ∧ n ≠ 3) := Lib.hid ⟨HN0.out, by omega, by omega⟩
        clear hn1
        by_cases hx0 : x = 0
        rotate_left
        · have mf : mayS n (d.drop 2) = false := by rw [may_o HNO.out HL.out, ← HX.out, decide_eq_false hx0]
          have MF := Lib.hid mf
          have x0 : (x != 0) = true := by rw [bne_iff_ne, ne_eq]; omega
          have y0 : (x == 0) = false := by rw [beq_eq_false_iff_ne, ne_eq]; omega
          clear mf hx0
          go_wp2_with fail
          obtain rfl : y = ((⟨[c0, c1, c2, c3, c4, c5, c6, c7], r, ls, dl⟩ : Dg), [], 0, 3) := by rw [HY2.out, if_pos (MF.out)]
          refine bodyPost_ret (v := .tuple #[.agg #[.int .u16 c0, .int .u16 c1, .int .u16 c2, .int .u16 c3, .int .u16 c4, .int .u16 c5, .int .u16 c6, .int .u16 c7, .int .u16 r, .bool ls, .int .u8 dl], .slice none 0 0, .int .i64 0, .int .i64 3]) (by simp [results, Try.results17, go_sem, q2]) rfl ?_
          exact ⟨none, 0, 0, rfl, Rd.nil_ _ _ _, Nat.le_refl _, Nat.zero_le _, (fun ad h => by cases h), hfw.set11 (.inr (Nat.le_succ _)) _ _ _ _ _ _ _ _ _ _ _⟩
        · have HX0 := Lib.hid hx0
          have x0 : (x != 0) = false := by rw [bne_eq_false_iff_eq]; omega
          have y0 : (x == 0) = true := by rw [beq_iff_eq]; omega
          have mf : mayS n (d.drop 2) = true := by rw [may_o HNO.out HL.out, ← HX.out, HX0.out]; rfl
          have MF := Lib.hid mf
          have hyy := HY2.out
          rw [if_neg (by rw [MF.out]; simp), doN_20 HN1.out] at hyy
          have HYY := Lib.hid hyy
          clear hyy
          clear mf hx0
          have hownE := own_empty w5 5 1
          have hryE := hry.alloc (.cells #[] 5)
          go_wp2_with (at_builtin; (refine app_row (P := Try.prog) (W := w5.alloc (.cells #[] 5)) w5.heap.size rfl _ _ _ 5 (Value.int .u8 0) 1 1 rfl Try.underlying23 (by kernel_rfl) rfl (by omega) (.slice (some ⟨w5.heap.size, 0, none⟩) 0 0) 0 [] A m cp (nums .u8 d) rfl rfl (nums_one _ _) hownE hryE (by simp) (by omega) (by omega) ?_); intro v6 w6 hown1 hg6 hat6; go_must ((have hown6 : w6.ownsRow w5.heap.size 5 1 v6 m (nums .u8 d) := by simpa using hown1); (have hbx6 := ((hbx.alloc (.cells #[] 5))).grown hg6 (fun e => by have := own_at hownE _ e.symm; omega)); (have hby6 := ((hby.alloc (.cells #[] 5))).grown hg6 (fun e => by have := own_at hownE _ e.symm; omega)); (have hfw6 : Fr nob w w6 := ((hfw.alloc _)).grown hg6 (fun k hk => .inr (by have := own_at hownE k hk; have := hfw.size; omega))); (obtain ⟨A6, e6, rfl, hle6, _⟩ := own_form hown6); (have hge6 := own_ge hown6); (have hcap6 := own_cap hown6); (have q5 := hbx6.cell); (have q6 := hby6.cell); (have q7 := hbx6.frozen); (have q8 := hby6.frozen); (have z3 := hbx6.lt); (have z4 := hby6.lt)))
          obtain rfl := HYY.out
          refine bodyPost_ret (v := .tuple #[.agg #[.int .u16 c0, .int .u16 c1, .int .u16 c2, .int .u16 c3, .int .u16 c4, .int .u16 c5, .int .u16 c6, .int .u16 0, .int .u16 r, .bool ls, .int .u8 dl], .slice A6 m e6, .int .i64 0, .int .i64 0]) (by simp [results, Try.results17, go_sem, q6]) rfl ?_
          exact ⟨A6, m, e6, rfl, (Rd.of_own hown6).fr (((Fr.refl (fun i => i = w.heap.size ∨ i = w.heap.size + 1) w6).set_ (p := ⟨w.heap.size, 7, none⟩) (.inl (.inl rfl)) _).set11 (.inl (.inr rfl)) _ _ _ _ _ _ _ _ _ _ _) (fun ad h hs => by have := hge6 ad h; omega), hle6, hcap6, (fun ad h => Nat.le_trans hfw.size (hge6 ad h)), hfw6.newer (((Fr.refl (fun i => i = w.heap.size ∨ i = w.heap.size + 1) w6).set_ (p := ⟨w.heap.size, 7, none⟩) (.inl (.inl rfl)) _).set11 (.inl (.inr rfl)) _ _ _ _ _ _ _ _ _ _ _) (fun i hi => by omega)⟩
      · have HN1 := Lib.hid hn1
        have e1 : (n == 1) = false := by rw [beq_eq_false_iff_ne, ne_eq]; have := HN1.out; omega
        have e2 : (n == 2) = false := by rw [beq_eq_false_iff_ne, ne_eq]; have := HN1.out; omega
        have e3 : (n == 3) = false := by rw [beq_eq_false_iff_ne, ne_eq]; have := HN1.out; omega
        have e4 : (n == 4) = false := by rw [beq_eq_false_iff_ne, ne_eq]; have := HN1.out; omega
        have e10 : (n == 10) = false := by rw [beq_eq_false_iff_ne, ne_eq]; have := HN1.out; omega
        have e20 : (n == 20) = false := by rw [beq_eq_false_iff_ne, ne_eq]; have := HN1.out; omega
        have n1 : (n != 1) = true := by rw [bne_iff_ne, ne_eq]; have := HN1.out; omega
        have n3 : (n != 3) = true := by rw [bne_iff_ne, ne_eq]; have := HN1.out; omega
        have HNO : Hid (n ≠ 0 ∧ n ≠ 1 ∧ n ≠ 3) := Lib.hid ⟨HN0.out, by omega, by omega⟩
        obtain ⟨kc, hkc⟩ : ∃ kc, kc = n - 11 := ⟨_, rfl⟩
        have hwr : IntKind.i64.wrap (n - 11) = kc := by rw [hkc]; simp [IntKind.wrap, IntKind.bits, IntKind.signed]; omega
        have hkb : 0 ≤ kc ∧ kc < 8 := by omega
        obtain ⟨yc, hyc⟩ : ∃ yc, yc = [c0, c1, c2, c3, c4, c5, c6, c7].getD (n - 11).toNat 0 := ⟨_, rfl⟩
        have hc8 : ∀ W, Blk W w.heap.size 43 #[.int .u16 c0, .int .u16 c1, .int .u16 c2, .int .u16 c3, .int .u16 c4, .int .u16 c5, .int .u16 c6, .int .u16 c7, .int .u16 r, .bool ls, .int .u8 dl] → W.cell? ⟨w.heap.size, kc.toNat, none⟩ = some (.int .u16 yc) := fun W h => by
          rw [h.cell, hyc, ← hkc]
          have hk8 : kc = 0 ∨ kc = 1 ∨ kc = 2 ∨ kc = 3 ∨ kc = 4 ∨ kc = 5 ∨ kc = 6 ∨ kc = 7 := by omega
          rcases hk8 with e | e | e | e | e | e | e | e <;> rw [e] <;> rfl
        have HC8 := Lib.hid hc8
        have hyb : 0 ≤ yc ∧ yc < 65536 := by
          have hk8 : kc = 0 ∨ kc = 1 ∨ kc = 2 ∨ kc = 3 ∨ kc = 4 ∨ kc = 5 ∨ kc = 6 ∨ kc = 7 := by omega
          rw [hyc, ← hkc]
          rcases hk8 with e | e | e | e | e | e | e | e <;> rw [e] <;> exact hcs _ (by simp)
        have HYC := Lib.hid hyc
        have hw16 : words16 [n, yc] := by intro z hz; simp at hz; rcases hz with rfl | rfl <;> omega
        clear hkc hc8 hyc
        clear hn1
        by_cases hx0 : x = 0
        rotate_left
        · have mf : mayS n (d.drop 2) = false := by rw [may_o HNO.out HL.out, ← HX.out, decide_eq_false hx0]
          have MF := Lib.hid mf
          have x0 : (x != 0) = true := by rw [bne_iff_ne, ne_eq]; omega
          have y0 : (x == 0) = false := by rw [beq_eq_false_iff_ne, ne_eq]; omega
          clear mf hx0
          go_wp2_with fail
          obtain rfl : y = ((⟨[c0, c1, c2, c3, c4, c5, c6, c7], r, ls, dl⟩ : Dg), [], 0, 3) := by rw [HY2.out, if_pos (MF.out)]
          refine bodyPost_ret (v := .tuple #[.agg #[.int .u16 c0, .int .u16 c1, .int .u16 c2, .int .u16 c3, .int .u16 c4, .int .u16 c5, .int .u16 c6, .int .u16 c7, .int .u16 r, .bool ls, .int .u8 dl], .slice none 0 0, .int .i64 0, .int .i64 3]) (by simp [results, Try.results17, go_sem, q2]) rfl ?_
          exact ⟨none, 0, 0, rfl, Rd.nil_ _ _ _, Nat.le_refl _, Nat.zero_le _, (fun ad h => by cases h), hfw.set11 (.inr (Nat.le_succ _)) _ _ _ _ _ _ _ _ _ _ _⟩
        · have HX0 := Lib.hid hx0
          have x0 : (x != 0) = false := by rw [bne_eq_false_iff_eq]; omega
          have y0 : (x == 0) = true := by rw [beq_iff_eq]; omega
          have mf : mayS n (d.drop 2) = true := by rw [may_o HNO.out HL.out, ← HX.out, HX0.out]; rfl
          have MF := Lib.hid mf
          have hyy := HY2.out
          rw [if_neg (by rw [MF.out]; simp), doN_c HN1.out, ← HYC.out] at hyy
          have HYY := Lib.hid hyy
          clear hyy
          clear mf hx0
          have hownE := own_empty w5 5 1
          have hryE := hry.alloc (.cells #[] 5)
          go_wp2_with (at_builtin; (refine app_row (P := Try.prog) (W := w5.alloc (.cells #[] 5)) w5.heap.size rfl _ _ _ 5 (Value.int .u8 0) 1 1 rfl Try.underlying23 (by kernel_rfl) rfl (by omega) (.slice (some ⟨w5.heap.size, 0, none⟩) 0 0) 0 [] A m cp (nums .u8 d) rfl rfl (nums_one _ _) hownE hryE (by simp) (by omega) (by omega) ?_); intro v6 w6 hown1 hg6 hat6; go_must ((have hown6 : w6.ownsRow w5.heap.size 5 1 v6 m (nums .u8 d) := by simpa using hown1); (have hbx6 := ((hbx.alloc (.cells #[] 5))).grown hg6 (fun e => by have := own_at hownE _ e.symm; omega)); (have hby6 := ((hby.alloc (.cells #[] 5))).grown hg6 (fun e => by have := own_at hownE _ e.symm; omega)); (have hfw6 : Fr nob w w6 := ((hfw.alloc _)).grown hg6 (fun k hk => .inr (by have := own_at hownE k hk; have := hfw.size; omega))); (obtain ⟨A6, e6, rfl, hle6, _⟩ := own_form hown6); (have hge6 := own_ge hown6); (have hcap6 := own_cap hown6); (have q5 := hbx6.cell); (have q6 := hby6.cell); (have q7 := hbx6.frozen); (have q8 := hby6.frozen); (have z3 := hbx6.lt); (have z4 := hby6.lt)))
          refine wp_region_held_drew (S := fun w' => w'.cell? ⟨w.heap.size, 0, none⟩ = some (.int .u16 c0) ∧ w'.cell? ⟨w.heap.size, 1, none⟩ = some (.int .u16 c1) ∧ w'.cell? ⟨w.heap.size, 2, none⟩ = some (.int .u16 c2) ∧ w'.cell? ⟨w.heap.size, 3, none⟩ = some (.int .u16 c3) ∧ w'.cell? ⟨w.heap.size, 4, none⟩ = some (.int .u16 c4) ∧ w'.cell? ⟨w.heap.size, 5, none⟩ = some (.int .u16 c5) ∧ w'.cell? ⟨w.heap.size, 6, none⟩ = some (.int .u16 c6) ∧ w'.cell? ⟨w.heap.size, 7, none⟩ = some (.int .u16 c7) ∧ w'.cell? ⟨w.heap.size, 8, none⟩ = some (.int .u16 r) ∧ w'.cell? ⟨w.heap.size, 9, none⟩ = some (.bool ls) ∧ w'.cell? ⟨w.heap.size, 10, none⟩ = some (.int .u8 dl) ∧ w'.cell? ⟨w.heap.size, kc.toNat, none⟩ = some (.int .u16 yc)) (by kernel_rfl) (⟨(hbx6.drew).cell 0, (hbx6.drew).cell 1, (hbx6.drew).cell 2, (hbx6.drew).cell 3, (hbx6.drew).cell 4, (hbx6.drew).cell 5, (hbx6.drew).cell 6, (hbx6.drew).cell 7, (hbx6.drew).cell 8, (hbx6.drew).cell 9, (hbx6.drew).cell 10, HC8.out _ (hbx6.drew)⟩) (fun hHeld => ?_)
          first
            | (refine mix_skip 0 rfl (by kernel_rfl) (by kernel_rfl) (by kernel_rfl) (by rfl) (by assumption) (fun _ _ _ h => h) ?_)
            | (refine mix_pure 0 (v := ?_) rfl (by kernel_rfl) (by kernel_rfl) (by kernel_rfl) (by rfl) (by assumption) (fun _ _ _ h => h) ?_ ?_; rotate_left; · (intro wS hSw; (try dsimp only at hSw); go_simp; try with_reducible rfl))
          simp only [Act.put, List.setIfInBounds_toArray, List.set_cons_zero, List.set_cons_succ]
          first
            | (refine mix_skip 1 rfl (by kernel_rfl) (by kernel_rfl) (by kernel_rfl) (by rfl) (by assumption) (fun _ _ _ h => h) ?_)
            | (refine mix_pure 1 (v := ?_) rfl (by kernel_rfl) (by kernel_rfl) (by kernel_rfl) (by rfl) (by assumption) (fun _ _ _ h => h) ?_ ?_; rotate_left; · (intro wS hSw; (try dsimp only at hSw); go_simp; try with_reducible rfl))
          simp only [Act.put, List.setIfInBounds_toArray, List.set_cons_zero, List.set_cons_succ]
          first
            | (refine mix_skip 2 rfl (by kernel_rfl) (by kernel_rfl) (by kernel_rfl) (by rfl) (by assumption) (fun _ _ _ h => h) ?_)
            | (refine mix_pure 2 (v := ?_) rfl (by kernel_rfl) (by kernel_rfl) (by kernel_rfl) (by rfl) (by assumption) (fun _ _ _ h => h) ?_ ?_; rotate_left; · (intro wS hSw; (try dsimp only at hSw); go_simp; try with_reducible rfl))
          simp only [Act.put, List.setIfInBounds_toArray, List.set_cons_zero, List.set_cons_succ]
          first
            | (refine mix_skip 3 rfl (by kernel_rfl) (by kernel_rfl) (by kernel_rfl) (by rfl) (by assumption) (fun _ _ _ h => h) ?_)
            | (refine mix_pure 3 (v := ?_) rfl (by kernel_rfl) (by kernel_rfl) (by kernel_rfl) (by rfl) (by assumption) (fun _ _ _ h => h) ?_ ?_; rotate_left; · (intro wS hSw; (try dsimp only at hSw); go_simp; try with_reducible rfl))
          simp only [Act.put, List.setIfInBounds_toArray, List.set_cons_zero, List.set_cons_succ]
          first
            | (refine mix_skip 4 rfl (by kernel_rfl) (by kernel_rfl) (by kernel_rfl) (by rfl) (by assumption) (fun _ _ _ h => h) ?_)
            | (refine mix_pure 4 (v := ?_) rfl (by kernel_rfl) (by kernel_rfl) (by kernel_rfl) (by rfl) (by assumption) (fun _ _ _ h => h) ?_ ?_; rotate_left; · (intro wS hSw; (try dsimp only at hSw); go_simp; try with_reducible rfl))
          simp only [Act.put, List.setIfInBounds_toArray, List.set_cons_zero, List.set_cons_succ]
          first
            | (refine mix_skip 5 rfl (by kernel_rfl) (by kernel_rfl) (by kernel_rfl) (by rfl) (by assumption) (fun _ _ _ h => h) ?_)
            | (refine mix_pure 5 (v := ?_) rfl (by kernel_rfl) (by kernel_rfl) (by kernel_rfl) (by rfl) (by assumption) (fun _ _ _ h => h) ?_ ?_; rotate_left; · (intro wS hSw; (try dsimp only at hSw); go_simp; try with_reducible rfl))
          simp only [Act.put, List.setIfInBounds_toArray, List.set_cons_zero, List.set_cons_succ]
          first
            | (refine mix_skip 6 rfl (by kernel_rfl) (by kernel_rfl) (by kernel_rfl) (by rfl) (by assumption) (fun _ _ _ h => h) ?_)
            | (refine mix_pure 6 (v := ?_) rfl (by kernel_rfl) (by kernel_rfl) (by kernel_rfl) (by rfl) (by assumption) (fun _ _ _ h => h) ?_ ?_; rotate_left; · (intro wS hSw; (try dsimp only at hSw); go_simp; try with_reducible rfl))
          simp only [Act.put, List.setIfInBounds_toArray, List.set_cons_zero, List.set_cons_succ]
          refine mix_one 7 rfl (by kernel_rfl) (fun K hK => ?_)
          go_simp
          refine hK.out _ _ (⟨((hbx6.alloc (.cells #[.int .u16 n, .int .u16 yc] 36)).drew).cell 0, ((hbx6.alloc (.cells #[.int .u16 n, .int .u16 yc] 36)).drew).cell 1, ((hbx6.alloc (.cells #[.int .u16 n, .int .u16 yc] 36)).drew).cell 2, ((hbx6.alloc (.cells #[.int .u16 n, .int .u16 yc] 36)).drew).cell 3, ((hbx6.alloc (.cells #[.int .u16 n, .int .u16 yc] 36)).drew).cell 4, ((hbx6.alloc (.cells #[.int .u16 n, .int .u16 yc] 36)).drew).cell 5, ((hbx6.alloc (.cells #[.int .u16 n, .int .u16 yc] 36)).drew).cell 6, ((hbx6.alloc (.cells #[.int .u16 n, .int .u16 yc] 36)).drew).cell 7, ((hbx6.alloc (.cells #[.int .u16 n, .int .u16 yc] 36)).drew).cell 8, ((hbx6.alloc (.cells #[.int .u16 n, .int .u16 yc] 36)).drew).cell 9, ((hbx6.alloc (.cells #[.int .u16 n, .int .u16 yc] 36)).drew).cell 10, HC8.out _ ((hbx6.alloc (.cells #[.int .u16 n, .int .u16 yc] 36)).drew)⟩) (fun hHeld0 => ?_)
          clear hK K
          try simp only [Act.put, List.setIfInBounds_toArray, List.set_cons_zero, List.set_cons_succ]
          refine mix_one 8 rfl (by kernel_rfl) (fun K hK => ?_)
          go_simp
          refine (ref_put _ 2 2 [n, yc] _ (Rd.of_blk ((Blk.new w6 36 #[.int .u16 n, .int .u16 yc]).drew) rfl (fun j u hu => by rw [Nat.zero_add]; simpa [nums] using hu)) hw16 (by omega) (by omega)).mono ?_
          rintro e w7 ⟨A7, c8, rfl, hown7, hf7⟩
          have hbx7 := (hbx6.alloc (.cells #[.int .u16 n, .int .u16 yc] 36)).drew.fr hf7 (fun h => h)
          have hby7 := (hby6.alloc (.cells #[.int .u16 n, .int .u16 yc] 36)).drew.fr hf7 (fun h => h)
          have hfw7 : Fr nob w w7 := ((hfw6.alloc (.cells #[.int .u16 n, .int .u16 yc] 36)).drew).trans hf7 (fun _ _ h => h)
          have q9 := hbx7.cell
          have qa := hby7.cell
          have qb := hbx7.frozen
          have qc := hby7.frozen
          have z5 := hbx7.lt
          have z6 := hby7.lt
          refine hK.out _ _ (⟨(hbx7).cell 0, (hbx7).cell 1, (hbx7).cell 2, (hbx7).cell 3, (hbx7).cell 4, (hbx7).cell 5, (hbx7).cell 6, (hbx7).cell 7, (hbx7).cell 8, (hbx7).cell 9, (hbx7).cell 10, HC8.out _ (hbx7)⟩) (fun hHeld1 => ?_)
          clear hK K
          try simp only [Act.put, List.setIfInBounds_toArray, List.set_cons_zero, List.set_cons_succ]
          refine mix_one 9 rfl (by kernel_rfl) (fun K hK => ?_)
          go_simp
          refine hK.out _ _ (⟨((hbx7.fr ((Fr.refl (fun i => i = w.heap.size + 1) w7).set11 (.inl rfl) _ _ _ _ _ _ _ _ _ _ _) (by omega))).cell 0, ((hbx7.fr ((Fr.refl (fun i => i = w.heap.size + 1) w7).set11 (.inl rfl) _ _ _ _ _ _ _ _ _ _ _) (by omega))).cell 1, ((hbx7.fr ((Fr.refl (fun i => i = w.heap.size + 1) w7).set11 (.inl rfl) _ _ _ _ _ _ _ _ _ _ _) (by omega))).cell 2, ((hbx7.fr ((Fr.refl (fun i => i = w.heap.size + 1) w7).set11 (.inl rfl) _ _ _ _ _ _ _ _ _ _ _) (by omega))).cell 3, ((hbx7.fr ((Fr.refl (fun i => i = w.heap.size + 1) w7).set11 (.inl rfl) _ _ _ _ _ _ _ _ _ _ _) (by omega))).cell 4, ((hbx7.fr ((Fr.refl (fun i => i = w.heap.size + 1) w7).set11 (.inl rfl) _ _ _ _ _ _ _ _ _ _ _) (by omega))).cell 5, ((hbx7.fr ((Fr.refl (fun i => i = w.heap.size + 1) w7).set11 (.inl rfl) _ _ _ _ _ _ _ _ _ _ _) (by omega))).cell 6, ((hbx7.fr ((Fr.refl (fun i => i = w.heap.size + 1) w7).set11 (.inl rfl) _ _ _ _ _ _ _ _ _ _ _) (by omega))).cell 7, ((hbx7.fr ((Fr.refl (fun i => i = w.heap.size + 1) w7).set11 (.inl rfl) _ _ _ _ _ _ _ _ _ _ _) (by omega))).cell 8, ((hbx7.fr ((Fr.refl (fun i => i = w.heap.size + 1) w7).set11 (.inl rfl) _ _ _ _ _ _ _ _ _ _ _) (by omega))).cell 9, ((hbx7.fr ((Fr.refl (fun i => i = w.heap.size + 1) w7).set11 (.inl rfl) _ _ _ _ _ _ _ _ _ _ _) (by omega))).cell 10, HC8.out _ ((hbx7.fr ((Fr.refl (fun i => i = w.heap.size + 1) w7).set11 (.inl rfl) _ _ _ _ _ _ _ _ _ _ _) (by omega)))⟩) (fun hHeld2 => ?_)
          clear hK K
          try simp only [Act.put, List.setIfInBounds_toArray, List.set_cons_zero, List.set_cons_succ]
          first
            | (refine mix_skip 10 rfl (by kernel_rfl) (by kernel_rfl) (by kernel_rfl) (by rfl) (by assumption) (fun _ _ _ h => h) ?_)
            | (refine mix_pure 10 (v := ?_) rfl (by kernel_rfl) (by kernel_rfl) (by kernel_rfl) (by rfl) (by assumption) (fun _ _ _ h => h) ?_ ?_; rotate_left; · (intro wS hSw; (try dsimp only at hSw); go_simp; try with_reducible rfl))
          simp only [Act.put, List.setIfInBounds_toArray, List.set_cons_zero, List.set_cons_succ]
          first
            | (refine mix_skip 11 rfl (by kernel_rfl) (by kernel_rfl) (by kernel_rfl) (by rfl) (by assumption) (fun _ _ _ h => h) ?_)
            | (refine mix_pure 11 (v := ?_) rfl (by kernel_rfl) (by kernel_rfl) (by kernel_rfl) (by rfl) (by assumption) (fun _ _ _ h => h) ?_ ?_; rotate_left; · (intro wS hSw; (try dsimp only at hSw); go_simp; try with_reducible rfl))
          simp only [Act.put, List.setIfInBounds_toArray, List.set_cons_zero, List.set_cons_succ]
          first
            | (refine mix_skip 12 rfl (by kernel_rfl) (by kernel_rfl) (by kernel_rfl) (by rfl) (by assumption) (fun _ _ _ h => h) ?_)
            | (refine mix_pure 12 (v := ?_) rfl (by kernel_rfl) (by kernel_rfl) (by kernel_rfl) (by rfl) (by assumption) (fun _ _ _ h => h) ?_ ?_; rotate_left; · (intro wS hSw; (try dsimp only at hSw); go_simp; try with_reducible rfl))
          simp only [Act.put, List.setIfInBounds_toArray, List.set_cons_zero, List.set_cons_succ]
          refine wpAnyH_done (by kernel_rfl) ?_ _
          clear hHeld hHeld0 hHeld1 hHeld2
          go_wp2_with fail
          have hge7 := own_ge hown7
          simp at hge7
          have hcap7 := own_cap hown7
          have hle7 : 4 ≤ c8 := by obtain ⟨A9, c9, e9, hle9, _⟩ := own_form hown7; injection e9; omega
          obtain rfl := HYY.out
          refine bodyPost_ret (v := .tuple #[.agg #[.int .u16 c0, .int .u16 c1, .int .u16 c2, .int .u16 c3, .int .u16 c4, .int .u16 c5, .int .u16 c6, .int .u16 c7, .int .u16 r, .bool ls, .int .u8 dl], .slice A7 4 c8, .int .i64 0, .int .i64 0]) (by simp [results, Try.results17, go_sem, qa]) rfl ?_
          exact ⟨A7, 4, c8, rfl, (Rd.of_own hown7).fr ((Fr.refl (fun i => i = w.heap.size ∨ i = w.heap.size + 1) w7).set11 (.inl (.inr rfl)) _ _ _ _ _ _ _ _ _ _ _) (fun ad h hs => by have := hge7 ad h; omega), hle7, hcap7, (fun ad h => by have := hge7 ad h; have := hfw6.size; omega), hfw7.newer ((Fr.refl (fun i => i = w.heap.size ∨ i = w.heap.size + 1) w7).set11 (.inl (.inr rfl)) _ _ _ _ _ _ _ _ _ _ _) (fun i hi => by omega)⟩
end Go.Proofs.Ytmpjdploacfmeab
