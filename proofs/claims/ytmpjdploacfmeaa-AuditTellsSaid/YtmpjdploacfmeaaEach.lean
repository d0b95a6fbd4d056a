/- Contract of audit.each's iterator: the frames, one by one. -/
import Derived.Test.YtmpjdploacfmeaaAud5
import Derived.Test.YtmpjdploacfmeaaRangeT
import Derived.ControlIn
namespace Go.Proofs.Ytmpjdploacfmeaa
set_option linter.unusedSimpArgs false
set_option linter.unusedVariables false
open Go.RowKit

/-- A frame as it is yielded: when it begins, its bytes in new memory. -/
def EncF (tb : Nat) (x : Int × List Int) (v : Value) (w : World) : Prop := ∃ A m c, v = .agg #[.int .i64 x.1, .slice A m c] ∧ InnR w w.heap.size (.slice A m c) x.2 ∧ ∀ ad, A = some ad → tb < ad.block
/-- How far the iterator is: k bytes are gone over; a frame is being written into the record tb. -/
def EachAt (tb : Nat) (wr : World) (J : Nat → World → Prop) (tc : Int) (lo : List (Int × Int)) (k : Nat) : Prop :=
  (k = 0 ∧ Blk wr tb 117 #[.int .i64 0, .slice none 0 0] ∧ J 0 wr) ∨
  (0 < k ∧ ∃ y done cur ats at0 cv W1, lo[k - 1]? = some y ∧ 0 ≤ y.1 ∧ y.1 ≤ 1099511627776 ∧ framesF tc lo = goF tc y.1 done cur (ats ++ [at0]) (lo.drop k) ∧ ats.length = done.length ∧ 0 < cur.length ∧ cur.length ≤ k ∧
    Blk wr tb 117 #[.int .i64 at0, cv] ∧ J done.length W1 ∧ Fr (fun b => b = tb) W1 wr ∧ tb < W1.heap.size ∧ wr.ownsRow W1.heap.size 5 1 cv cur.length (nums .u8 cur))
/-- What goes on from here is behind what is done. -/
theorem goF_some {tc : Int} : ∀ {rest : List (Int × Int)} {p : Int} {done : List (List Int)} {cur ats : List Int} {fs : List (List Int)} {ats' : List Int}, goF tc p done cur ats rest = some (fs, ats') →
    ∃ ms bs, fs = done ++ ms ∧ ats' = ats ++ bs ∧ (rest = [] → ms = [cur] ∧ bs = [])
  | [], p, done, cur, ats, fs, ats', h => by
    rw [goF] at h
    cases h
    exact ⟨[cur], [], rfl, by simp, fun _ => ⟨rfl, rfl⟩⟩
  | x :: r, p, done, cur, ats, fs, ats', h => by
    rw [goF] at h
    split at h
    · cases h
    · split at h
      · obtain ⟨ms, bs, h1, h2, _⟩ := goF_some h
        exact ⟨[cur] ++ ms, [x.1] ++ bs, by rw [h1, List.append_assoc], by rw [h2, List.append_assoc], fun h => by cases h⟩
      · obtain ⟨ms, bs, h1, h2, _⟩ := goF_some h
        exact ⟨ms, bs, h1, h2, fun h => by cases h⟩
theorem goF_step {tc p : Int} {done : List (List Int)} {cur ats : List Int} {x : Int × Int} {r : List (Int × Int)} {fs : List (List Int)} {ats' : List Int} (h : goF tc p done cur ats (x :: r) = some (fs, ats')) : 0 ≤ x.1 ∧ x.1 ≤ 1099511627776 ∧ p + tc ≤ x.1 := by
  rw [goF] at h
  split at h
  · cases h
  · omega
theorem zip_mid {as1 bs : List Int} {at0 : Int} {done ms : List (List Int)} {cur : List Int} (h : as1.length = done.length) : ((as1 ++ [at0] ++ bs).zip (done ++ [cur] ++ ms))[done.length]? = some (at0, cur) := by
  rw [List.getElem?_zip_eq_some]
  constructor
  · rw [List.append_assoc, List.getElem?_append_right (by omega), h, Nat.sub_self]
    rfl
  · rw [List.append_assoc, List.getElem?_append_right (by omega), Nat.sub_self]
    rfl
/-- One byte more in the record. -/
theorem each_app {W1 V w6 : World} {tb B n : Nat} {at0 xb : Int} {cv v1 : Value} {cur : List Int}
    (hb : Blk V tb 117 #[.int .i64 at0, cv]) (ho : V.ownsRow B 5 1 cv n (nums .u8 cur)) (hf : Fr (fun b => b = tb) W1 V) (hB : W1.heap.size ≤ B)
    (hg : V.grownBy w6 cv.ownBlock) (hown : w6.ownsRow B 5 1 v1 (n + 1) (nums .u8 cur ++ [.int .u8 xb])) :
    Blk w6 tb 117 #[.int .i64 at0, cv] ∧ Blk (w6.setCell ⟨tb, 1, none⟩ v1) tb 117 #[.int .i64 at0, v1] ∧ Fr (fun b => b = tb) W1 (w6.setCell ⟨tb, 1, none⟩ v1) ∧
    (w6.setCell ⟨tb, 1, none⟩ v1).ownsRow B 5 1 v1 (n + 1) (nums .u8 (cur ++ [xb])) ∧
    ∀ (S : Nat → Prop) (w : World), Fr S w V → w.heap.size ≤ tb → w.heap.size ≤ B → Fr S w (w6.setCell ⟨tb, 1, none⟩ v1) := by
  have hb6 : Blk w6 tb 117 #[.int .i64 at0, cv] := hb.grown hg (fun e => by
    obtain ⟨cs, hcs⟩ := own_block ho tb e.symm
    unfold Blk at hb
    rw [hb] at hcs
    cases hcs)
  refine ⟨hb6, by simpa using hb6.set_ 1 v1, ?_, ?_, fun S w h h1 h2 => ?_⟩
  · exact (hf.grown hg (fun k hk => .inr (Nat.le_trans hB (own_at ho k hk.symm.symm)))).set_ (p := ⟨tb, 1, none⟩) (.inl rfl) v1
  · rw [nums_app]
    exact own_set (i := 1) hown hb6 (by decide) v1
  · exact (h.grown hg (fun k hk => .inr (Nat.le_trans h2 (own_at ho k hk)))).set_ (p := ⟨tb, 1, none⟩) (.inr h1) v1
theorem first_ok {tc : Int} {lo : List (Int × Int)} {x : Int × Int} {r : List (List Int) × List Int} (h : framesF tc lo = some r) (hx : lo[0]? = some x) : 0 ≤ x.1 ∧ x.1 ≤ 1099511627776 := by
  have := drop_out hx
  rw [List.drop_zero] at this
  rw [this, framesF] at h
  split at h
  · cases h
  · omega

set_option maxHeartbeats 4000000 in
set_option maxRecDepth 100000 in
theorem each1_seq (n : Nat) (A : Option Addr) (m c : Nat) (lo : List (Int × Int)) (tc : Int) (fs : List (List Int)) (ats : List Int) (bl bc : Nat) (S : Nat → Prop) (w₀ w : World) (h : Rd w₀ 2 A m (lo.flatMap outc)) (hm : m ≤ 400) (hmc : m ≤ c)
    (hfs : framesF tc lo = some (fs, ats)) (htc : 1 ≤ tc ∧ tc ≤ 16777216) (hw : Fr nob w₀ w) (hS : ∀ b, S b → w₀.heap.size ≤ b)
    (hbl : w.cell? ⟨bl, 0, none⟩ = some (.slice A m c)) (hbc : w.cell? ⟨bc, 0, none⟩ = some (.int .i64 tc)) (nl : ¬ S bl ∧ bl < w.heap.size) (nc : ¬ S bc ∧ bc < w.heap.size) :
    SeqT Fence.wide n Try.prog 75 #[.pointer (some ⟨bl, 0, none⟩), .pointer (some ⟨bc, 0, none⟩)] (ats.zip fs) EncF S (fun t => t = 117 ∨ t = 110) w := by
  intro l J Jx W hW hJ hJx hY hJ0
  have hlen : lo.length = m := by
    have := h.1
    rw [flat_len outc 2 lo outc_len] at this
    omega
  have HFS := Lib.hid hfs
  have hfn : ∀ f, Fence.wide.fn f := fun _ => trivial
  have hbl' : W.cell? ⟨bl, 0, none⟩ = some (.slice A m c) := (hW.cell (p := ⟨bl, 0, none⟩) nl.2 id).trans hbl
  have hblz : bl < W.heap.size := Nat.lt_of_lt_of_le nl.2 hW.size
  have hWz := hW.size
  have hb0 := Blk.new W 117 #[.int .i64 0, .slice none 0 0]
  have hf0 := (Fr.refl nob W).alloc (.cells #[.int .i64 0, .slice none 0 0] 117)
  have HY := Lib.hid hY
  clear hfs hY
  refine callsIn_of_wp Try.func75 rfl trivial ?_ rfl
  simp only [Try.ntmps75, List.size_toArray, List.length_cons, List.length_nil, Nat.reduceAdd, Nat.reduceSub, Array.replicate_succ, Array.replicate_zero, List.push_toArray, List.append_toArray, List.nil_append, List.cons_append]
  gi_wp2
  gi_loopw [9] (fun i wr => ∃ k : Nat, k ≤ m ∧ i = .int .i64 k ∧ Hid (EachAt W.heap.size wr J tc lo k) ∧ Hid (Fr S w wr)) (fun i _ => m - (intOf i).toNat)
  case atStart => exact ⟨0, by omega, rfl, Lib.hid (.inl ⟨rfl, hb0, hJ _ _ _ hJ0 hf0.of_nob⟩), Lib.hid ((hW.trans hf0 (fun _ _ h => h)).of_nob)⟩
  case round =>
    obtain ⟨k, hk, rfl, hat, hf⟩ := hrel
    by_cases hlt : k < m
    · obtain ⟨b, o, x, rfl, hb, hx, hc0, hc1⟩ := out_at h hlt
      have hi0 : (0 : Int) ≤ (k : Int) ∧ (k : Int) < (m : Int) := ⟨by omega, by omega⟩
      have hw0 := hw.newer hf.out hS
      have hd0 := (hw0.cell (p := ⟨b, _, none⟩) hb id).trans hc0
      have hd1 := (hw0.cell (p := ⟨b, _, none⟩) hb id).trans hc1
      have hbw : b < wr.heap.size := Nat.lt_of_lt_of_le hb hw0.size
      obtain ⟨xa, xb⟩ := x
      dsimp only at hd0 hd1
      have hbl2 := (hf.out.cell (p := ⟨bl, 0, none⟩) nl.2 nl.1).trans hbl
      have hbc2 := (hf.out.cell (p := ⟨bc, 0, none⟩) nc.2 nc.1).trans hbc
      have hblw : bl < wr.heap.size := Nat.lt_of_lt_of_le nl.2 hf.out.size
      have hbcw : bc < wr.heap.size := Nat.lt_of_lt_of_le nc.2 hf.out.size
      have HX := Lib.hid hx
      clear hc1 hx
      have hel := Blk.new wr 110 #[.int .i64 xa, .int .u8 xb]
      have hfel := (Fr.refl nob wr).alloc (.cells #[.int .i64 xa, .int .u8 xb] 110)
      rcases hat.out with ⟨rfl, htb, hJk⟩ | ⟨hk0, y, done, cur, ats1, at0, cv, W1, hy, y1, y2, hgo, e1, e2, e3, htb, hJk, hf1, ht1, hown⟩
      · have q1 := htb.cell
        have q2 := htb.frozen
        have q3 := htb.lt
        have HXB := Lib.hid (first_ok HFS.out HX.out)
        simp only [Nat.zero_mul, Nat.add_zero] at hd0 hd1
        clear hc0 hel hfel hat
        gi_wp2_with fail
        refine wpIn_wide.2 ?_
        refine wp_region_held_drew (S := fun _ => True) (by kernel_rfl) trivial (fun hHeld => ?_)
        first
          | (refine mix_skip 0 rfl (by kernel_rfl) (by kernel_rfl) (by kernel_rfl) (by rfl) (by assumption) (fun _ _ _ h => h) ?_)
          | (refine mix_pure 0 (v := ?_) rfl (by kernel_rfl) (by kernel_rfl) (by kernel_rfl) (by rfl) (by assumption) (fun _ _ _ h => h) ?_ ?_; rotate_left; · (intro wS hSw; (try dsimp only at hSw); go_simp; try with_reducible rfl))
        simp only [Act.put, List.setIfInBounds_toArray, List.set_cons_zero, List.set_cons_succ]
        first
          | (refine mix_skip 1 rfl (by kernel_rfl) (by kernel_rfl) (by kernel_rfl) (by rfl) (by assumption) (fun _ _ _ h => h) ?_)
          | (refine mix_pure 1 (v := ?_) rfl (by kernel_rfl) (by kernel_rfl) (by kernel_rfl) (by rfl) (by assumption) (fun _ _ _ h => h) ?_ ?_; rotate_left; · (intro wS hSw; (try dsimp only at hSw); go_simp; try with_reducible rfl))
        simp only [Act.put, List.setIfInBounds_toArray, List.set_cons_zero, List.set_cons_succ]
        first
          | (refine mix_skip 2 rfl (by kernel_rfl) (by kernel_rfl) (by kernel_rfl) (by rfl) (by assumption) (fun _ _ _ h => h) ?_)
          | (refine mix_pure 2 (v := ?_) rfl (by kernel_rfl) (by kernel_rfl) (by kernel_rfl) (by rfl) (by assumption) (fun _ _ _ h => h) ?_ ?_; rotate_left; · (intro wS hSw; (try dsimp only at hSw); go_simp; try with_reducible rfl))
        simp only [Act.put, List.setIfInBounds_toArray, List.set_cons_zero, List.set_cons_succ]
        first
          | (refine mix_skip 3 rfl (by kernel_rfl) (by kernel_rfl) (by kernel_rfl) (by rfl) (by assumption) (fun _ _ _ h => h) ?_)
          | (refine mix_pure 3 (v := ?_) rfl (by kernel_rfl) (by kernel_rfl) (by kernel_rfl) (by rfl) (by assumption) (fun _ _ _ h => h) ?_ ?_; rotate_left; · (intro wS hSw; (try dsimp only at hSw); go_simp; try with_reducible rfl))
        simp only [Act.put, List.setIfInBounds_toArray, List.set_cons_zero, List.set_cons_succ]
        first
          | (refine mix_skip 4 rfl (by kernel_rfl) (by kernel_rfl) (by kernel_rfl) (by rfl) (by assumption) (fun _ _ _ h => h) ?_)
          | (refine mix_pure 4 (v := ?_) rfl (by kernel_rfl) (by kernel_rfl) (by kernel_rfl) (by rfl) (by assumption) (fun _ _ _ h => h) ?_ ?_; rotate_left; · (intro wS hSw; (try dsimp only at hSw); go_simp; try with_reducible rfl))
        simp only [Act.put, List.setIfInBounds_toArray, List.set_cons_zero, List.set_cons_succ]
        first
          | (refine mix_skip 5 rfl (by kernel_rfl) (by kernel_rfl) (by kernel_rfl) (by rfl) (by assumption) (fun _ _ _ h => h) ?_)
          | (refine mix_pure 5 (v := ?_) rfl (by kernel_rfl) (by kernel_rfl) (by kernel_rfl) (by rfl) (by assumption) (fun _ _ _ h => h) ?_ ?_; rotate_left; · (intro wS hSw; (try dsimp only at hSw); go_simp; try with_reducible rfl))
        simp only [Act.put, List.setIfInBounds_toArray, List.set_cons_zero, List.set_cons_succ]
        first
          | (refine mix_skip 6 rfl (by kernel_rfl) (by kernel_rfl) (by kernel_rfl) (by rfl) (by assumption) (fun _ _ _ h => h) ?_)
          | (refine mix_pure 6 (v := ?_) rfl (by kernel_rfl) (by kernel_rfl) (by kernel_rfl) (by rfl) (by assumption) (fun _ _ _ h => h) ?_ ?_; rotate_left; · (intro wS hSw; (try dsimp only at hSw); go_simp; try with_reducible rfl))
        simp only [Act.put, List.setIfInBounds_toArray, List.set_cons_zero, List.set_cons_succ]
        first
          | (refine mix_skip 7 rfl (by kernel_rfl) (by kernel_rfl) (by kernel_rfl) (by rfl) (by assumption) (fun _ _ _ h => h) ?_)
          | (refine mix_pure 7 (v := ?_) rfl (by kernel_rfl) (by kernel_rfl) (by kernel_rfl) (by rfl) (by assumption) (fun _ _ _ h => h) ?_ ?_; rotate_left; · (intro wS hSw; (try dsimp only at hSw); go_simp; try with_reducible rfl))
        simp only [Act.put, List.setIfInBounds_toArray, List.set_cons_zero, List.set_cons_succ]
        first
          | (refine mix_skip 8 rfl (by kernel_rfl) (by kernel_rfl) (by kernel_rfl) (by rfl) (by assumption) (fun _ _ _ h => h) ?_)
          | (refine mix_pure 8 (v := ?_) rfl (by kernel_rfl) (by kernel_rfl) (by kernel_rfl) (by rfl) (by assumption) (fun _ _ _ h => h) ?_ ?_; rotate_left; · (intro wS hSw; (try dsimp only at hSw); go_simp; try with_reducible rfl))
        simp only [Act.put, List.setIfInBounds_toArray, List.set_cons_zero, List.set_cons_succ]
        first
          | (refine mix_skip 9 rfl (by kernel_rfl) (by kernel_rfl) (by kernel_rfl) (by rfl) (by assumption) (fun _ _ _ h => h) ?_)
          | (refine mix_pure 9 (v := ?_) rfl (by kernel_rfl) (by kernel_rfl) (by kernel_rfl) (by rfl) (by assumption) (fun _ _ _ h => h) ?_ ?_; rotate_left; · (intro wS hSw; (try dsimp only at hSw); go_simp; try with_reducible rfl))
        simp only [Act.put, List.setIfInBounds_toArray, List.set_cons_zero, List.set_cons_succ]
        first
          | (refine mix_skip 10 rfl (by kernel_rfl) (by kernel_rfl) (by kernel_rfl) (by rfl) (by assumption) (fun _ _ _ h => h) ?_)
          | (refine mix_pure 10 (v := ?_) rfl (by kernel_rfl) (by kernel_rfl) (by kernel_rfl) (by rfl) (by assumption) (fun _ _ _ h => h) ?_ ?_; rotate_left; · (intro wS hSw; (try dsimp only at hSw); go_simp; try with_reducible rfl))
        simp only [Act.put, List.setIfInBounds_toArray, List.set_cons_zero, List.set_cons_succ]
        first
          | (refine mix_skip 11 rfl (by kernel_rfl) (by kernel_rfl) (by kernel_rfl) (by rfl) (by assumption) (fun _ _ _ h => h) ?_)
          | (refine mix_pure 11 (v := ?_) rfl (by kernel_rfl) (by kernel_rfl) (by kernel_rfl) (by rfl) (by assumption) (fun _ _ _ h => h) ?_ ?_; rotate_left; · (intro wS hSw; (try dsimp only at hSw); go_simp; try with_reducible rfl))
        simp only [Act.put, List.setIfInBounds_toArray, List.set_cons_zero, List.set_cons_succ]
        first
          | (refine mix_skip 12 rfl (by kernel_rfl) (by kernel_rfl) (by kernel_rfl) (by rfl) (by assumption) (fun _ _ _ h => h) ?_)
          | (refine mix_pure 12 (v := ?_) rfl (by kernel_rfl) (by kernel_rfl) (by kernel_rfl) (by rfl) (by assumption) (fun _ _ _ h => h) ?_ ?_; rotate_left; · (intro wS hSw; (try dsimp only at hSw); go_simp; try with_reducible rfl))
        simp only [Act.put, List.setIfInBounds_toArray, List.set_cons_zero, List.set_cons_succ]
        first
          | (refine mix_skip 13 rfl (by kernel_rfl) (by kernel_rfl) (by kernel_rfl) (by rfl) (by assumption) (fun _ _ _ h => h) ?_)
          | (refine mix_pure 13 (v := ?_) rfl (by kernel_rfl) (by kernel_rfl) (by kernel_rfl) (by rfl) (by assumption) (fun _ _ _ h => h) ?_ ?_; rotate_left; · (intro wS hSw; (try dsimp only at hSw); go_simp; try with_reducible rfl))
        simp only [Act.put, List.setIfInBounds_toArray, List.set_cons_zero, List.set_cons_succ]
        first
          | (refine mix_skip 14 rfl (by kernel_rfl) (by kernel_rfl) (by kernel_rfl) (by rfl) (by assumption) (fun _ _ _ h => h) ?_)
          | (refine mix_pure 14 (v := ?_) rfl (by kernel_rfl) (by kernel_rfl) (by kernel_rfl) (by rfl) (by assumption) (fun _ _ _ h => h) ?_ ?_; rotate_left; · (intro wS hSw; (try dsimp only at hSw); go_simp; try with_reducible rfl))
        simp only [Act.put, List.setIfInBounds_toArray, List.set_cons_zero, List.set_cons_succ]
        refine wpAnyH_done (by kernel_rfl) ?_ _
        have hbV : Blk ((wr.setCell ⟨W.heap.size, 0, none⟩ (.int .i64 xa)).alloc (.cells #[.int .i64 xa, .int .u8 xb] 110)).drew W.heap.size 117 #[.int .i64 xa, .slice none 0 0] := by
          simpa using ((htb.set_ 0 (.int .i64 xa)).alloc (.cells #[.int .i64 xa, .int .u8 xb] 110)).drew
        have hfV : Fr (fun b => b = W.heap.size) wr ((wr.setCell ⟨W.heap.size, 0, none⟩ (.int .i64 xa)).alloc (.cells #[.int .i64 xa, .int .u8 xb] 110)).drew :=
          (((Fr.refl (fun b => b = W.heap.size) wr).set_ (p := ⟨W.heap.size, 0, none⟩) (.inl rfl) (.int .i64 xa)).alloc _).drew
        have hoV : (((wr.setCell ⟨W.heap.size, 0, none⟩ (.int .i64 xa)).alloc (.cells #[.int .i64 xa, .int .u8 xb] 110)).drew).ownsRow wr.heap.size 5 1 (.slice none 0 0) 0 (nums .u8 []) := World.ownsRow_nil _ _ _ _
        have hsV : wr.heap.size ≤ ((wr.setCell ⟨W.heap.size, 0, none⟩ (.int .i64 xa)).alloc (.cells #[.int .i64 xa, .int .u8 xb] 110)).drew.heap.size := hfV.size
        have HZV : Hid (wr.heap.size + 1 = ((wr.setCell ⟨W.heap.size, 0, none⟩ (.int .i64 xa)).alloc (.cells #[.int .i64 xa, .int .u8 xb] 110)).drew.heap.size) := Lib.hid <| by
          show _ = ((wr.setCell ⟨W.heap.size, 0, none⟩ (.int .i64 xa)).alloc (.cells #[.int .i64 xa, .int .u8 xb] 110)).heap.size
          simp [World.setCell]
        have HFR : Hid (Fr S w ((wr.setCell ⟨W.heap.size, 0, none⟩ (.int .i64 xa)).alloc (.cells #[.int .i64 xa, .int .u8 xb] 110)).drew) := Lib.hid (hf.out.trans hfV (fun i hi e => by subst e; exact absurd hW.size (by omega)))
        gi_wp2_with (gi_at_builtin; (refine app_oneIn (P := Try.prog) (W := ((wr.setCell ⟨W.heap.size, 0, none⟩ (.int .i64 xa)).alloc (.cells #[.int .i64 xa, .int .u8 xb] 110)).drew) wr.heap.size rfl _ _ _ 5 (.int .u8 0) 1 1 rfl Try.underlying47 (by kernel_rfl) rfl (by omega) (.slice none 0 0) 0 (nums .u8 []) _ rfl (by show Value.slice (some ⟨wr.heap.size + 1, 0, none⟩) 1 1 = _; rw [HZV.out]) rfl (by simp [Value.oneCell']) hoV hsV (by omega) (by omega) ?_); intro v1 w6 hown6 hg6 _; obtain ⟨A1, c1, rfl, _⟩ := own_form hown6; obtain ⟨r6, r7, r8, r9, r10⟩ := each_app hbV hoV hfV (Nat.le_refl _) hg6 hown6; have t6 := r6.cell; have t7 := r6.frozen; have t8 := r6.lt)
        go_roundw
        case rel => exact ⟨1, by omega, by go_num, Lib.hid (.inr ⟨by omega, (xa, xb), [], [xb], [], xa, .slice A1 1 c1, wr, HX.out, HXB.out.1, HXB.out.2, far_first HX.out HXB.out, rfl, by simp, by simp, r7, hJk, r8, q3, r9⟩), Lib.hid (r10 S w HFR.out hWz (Nat.le_trans hWz (Nat.le_of_lt q3)))⟩
        case measure => simp [intOf]; omega
      · obtain ⟨kp, rfl⟩ : ∃ kp, k = kp + 1 := ⟨k - 1, by omega⟩
        obtain ⟨b', o', y', e', _, hy', hc2, _⟩ := out_at h (k := kp) (by omega)
        cases e'
        rw [Nat.add_sub_cancel] at hy
        rw [hy] at hy'
        cases hy'
        have hd2 := (hw0.cell (p := ⟨b, _, none⟩) hb id).trans hc2
        have hGO := HFS.out
        rw [hgo, drop_out HX.out] at hGO
        have hstep := goF_step hGO
        obtain ⟨ya, yb⟩ := y
        dsimp only at hd2 hstep y1 y2
        have HGO := Lib.hid hgo
        obtain ⟨Ac, cc, rfl, hcc, _⟩ := own_form hown
        have hwt : IntKind.i64.wrap (ya + tc) = ya + tc := IntWalk.i64_in _ (by omega)
        have hwk : IntKind.i64.wrap (kp : Int) = (kp : Int) := IntWalk.i64_in _ (by omega)
        have hp1 : (0 : Int) < (kp : Int) + 1 := by omega
        have hp2 : decide ((0 : Int) < (kp : Int) + 1) = true := decide_eq_true hp1
        have hi1 : (0 : Int) ≤ (kp : Int) ∧ (kp : Int) < (m : Int) := ⟨by omega, by omega⟩
        have hi2 : kp < m := by omega
        have q1 := htb.cell
        have q2 := htb.frozen
        have q3 := htb.lt
        have hcl : ∀ V, Fr nob (wr.alloc (.cells #[.int .i64 xa, .int .u8 xb] 110)) V → V.cell? ⟨wr.heap.size, 0, none⟩ = some (.int .i64 xa) ∧ V.cell? ⟨bl, 0, none⟩ = some (.slice (some ⟨b, o, none⟩) m c) ∧ V.cell? ⟨b, o + kp * 2, none⟩ = some (.int .i64 ya) ∧ V.cell? ⟨bc, 0, none⟩ = some (.int .i64 tc) := fun V hV =>
          ⟨((hel.fr hV id).cell 0).trans rfl, ((hfel.trans hV (fun _ _ h => h)).cell (p := ⟨bl, _, none⟩) hblw id).trans hbl2, ((hfel.trans hV (fun _ _ h => h)).cell (p := ⟨b, _, none⟩) hbw id).trans hd2, ((hfel.trans hV (fun _ _ h => h)).cell (p := ⟨bc, _, none⟩) hbcw id).trans hbc2⟩
        have HCL := Lib.hid hcl
        have HSTEP := Lib.hid hstep
        have HF1 := Lib.hid hf1
        have HJK := Lib.hid hJk
        have hnz : decide ((0 : Int) < (cur.length : Int)) = true := decide_eq_true (by omega)
        have hcz : ((cur.length : Int) == 0) = false := beq_eq_false_iff_ne.2 (by omega)
        clear hc0 hc2 hy hgo hGO hcl hat hf1 hJk
        by_cases hcase : xa = ya + tc
        · have hne : (xa == ya + tc) = true := beq_iff_eq.2 hcase
          have HCASE := Lib.hid hcase
          clear hstep hcase
          gi_wp2_with fail
          refine wpIn_wide.2 ?_
          refine wp_region_held_drew (S := fun w' => w'.cell? ⟨wr.heap.size, 0, none⟩ = some (.int .i64 xa) ∧ w'.cell? ⟨bl, 0, none⟩ = some (.slice (some ⟨b, o, none⟩) m c) ∧ w'.cell? ⟨b, o + kp * 2, none⟩ = some (.int .i64 ya) ∧ w'.cell? ⟨bc, 0, none⟩ = some (.int .i64 tc)) (by kernel_rfl) (HCL.out _ (Fr.refl _ _).drew) (fun hHeld => ?_)
          first
            | (refine mix_skip 0 rfl (by kernel_rfl) (by kernel_rfl) (by kernel_rfl) (by rfl) (by assumption) (fun _ _ _ h => h) ?_)
            | (refine mix_pure 0 (v := ?_) rfl (by kernel_rfl) (by kernel_rfl) (by kernel_rfl) (by rfl) (by assumption) (fun _ _ _ h => h) ?_ ?_; rotate_left; · (intro wS hSw; (try dsimp only at hSw); go_simp; try with_reducible rfl))
          simp only [Act.put, List.setIfInBounds_toArray, List.set_cons_zero, List.set_cons_succ]
          first
            | (refine mix_skip 1 rfl (by kernel_rfl) (by kernel_rfl) (by kernel_rfl) (by rfl) (by assumption) (fun _ _ _ h => h) ?_)
            | (refine mix_pure 1 (v := ?_) rfl (by kernel_rfl) (by kernel_rfl) (by kernel_rfl) (by rfl) (by assumption) (fun _ _ _ h => h) ?_ ?_; rotate_left; · (intro wS hSw; (try dsimp only at hSw); go_simp; try with_reducible rfl))
          simp only [Act.put, List.setIfInBounds_toArray, List.set_cons_zero, List.set_cons_succ]
          first
            | (refine mix_skip 2 rfl (by kernel_rfl) (by kernel_rfl) (by kernel_rfl) (by rfl) (by assumption) (fun _ _ _ h => h) ?_)
            | (refine mix_pure 2 (v := ?_) rfl (by kernel_rfl) (by kernel_rfl) (by kernel_rfl) (by rfl) (by assumption) (fun _ _ _ h => h) ?_ ?_; rotate_left; · (intro wS hSw; (try dsimp only at hSw); go_simp; try with_reducible rfl))
          simp only [Act.put, List.setIfInBounds_toArray, List.set_cons_zero, List.set_cons_succ]
          first
            | (refine mix_skip 3 rfl (by kernel_rfl) (by kernel_rfl) (by kernel_rfl) (by rfl) (by assumption) (fun _ _ _ h => h) ?_)
            | (refine mix_pure 3 (v := ?_) rfl (by kernel_rfl) (by kernel_rfl) (by kernel_rfl) (by rfl) (by assumption) (fun _ _ _ h => h) ?_ ?_; rotate_left; · (intro wS hSw; (try dsimp only at hSw); go_simp; try with_reducible rfl))
          simp only [Act.put, List.setIfInBounds_toArray, List.set_cons_zero, List.set_cons_succ]
          first
            | (refine mix_skip 4 rfl (by kernel_rfl) (by kernel_rfl) (by kernel_rfl) (by rfl) (by assumption) (fun _ _ _ h => h) ?_)
            | (refine mix_pure 4 (v := ?_) rfl (by kernel_rfl) (by kernel_rfl) (by kernel_rfl) (by rfl) (by assumption) (fun _ _ _ h => h) ?_ ?_; rotate_left; · (intro wS hSw; (try dsimp only at hSw); go_simp; try with_reducible rfl))
          simp only [Act.put, List.setIfInBounds_toArray, List.set_cons_zero, List.set_cons_succ]
          first
            | (refine mix_skip 5 rfl (by kernel_rfl) (by kernel_rfl) (by kernel_rfl) (by rfl) (by assumption) (fun _ _ _ h => h) ?_)
            | (refine mix_pure 5 (v := ?_) rfl (by kernel_rfl) (by kernel_rfl) (by kernel_rfl) (by rfl) (by assumption) (fun _ _ _ h => h) ?_ ?_; rotate_left; · (intro wS hSw; (try dsimp only at hSw); go_simp; try with_reducible rfl))
          simp only [Act.put, List.setIfInBounds_toArray, List.set_cons_zero, List.set_cons_succ]
          first
            | (refine mix_skip 6 rfl (by kernel_rfl) (by kernel_rfl) (by kernel_rfl) (by rfl) (by assumption) (fun _ _ _ h => h) ?_)
            | (refine mix_pure 6 (v := ?_) rfl (by kernel_rfl) (by kernel_rfl) (by kernel_rfl) (by rfl) (by assumption) (fun _ _ _ h => h) ?_ ?_; rotate_left; · (intro wS hSw; (try dsimp only at hSw); go_simp; try with_reducible rfl))
          simp only [Act.put, List.setIfInBounds_toArray, List.set_cons_zero, List.set_cons_succ]
          first
            | (refine mix_skip 7 rfl (by kernel_rfl) (by kernel_rfl) (by kernel_rfl) (by rfl) (by assumption) (fun _ _ _ h => h) ?_)
            | (refine mix_pure 7 (v := ?_) rfl (by kernel_rfl) (by kernel_rfl) (by kernel_rfl) (by rfl) (by assumption) (fun _ _ _ h => h) ?_ ?_; rotate_left; · (intro wS hSw; (try dsimp only at hSw); go_simp; try with_reducible rfl))
          simp only [Act.put, List.setIfInBounds_toArray, List.set_cons_zero, List.set_cons_succ]
          first
            | (refine mix_skip 8 rfl (by kernel_rfl) (by kernel_rfl) (by kernel_rfl) (by rfl) (by assumption) (fun _ _ _ h => h) ?_)
            | (refine mix_pure 8 (v := ?_) rfl (by kernel_rfl) (by kernel_rfl) (by kernel_rfl) (by rfl) (by assumption) (fun _ _ _ h => h) ?_ ?_; rotate_left; · (intro wS hSw; (try dsimp only at hSw); go_simp; try with_reducible rfl))
          simp only [Act.put, List.setIfInBounds_toArray, List.set_cons_zero, List.set_cons_succ]
          first
            | (refine mix_skip 9 rfl (by kernel_rfl) (by kernel_rfl) (by kernel_rfl) (by rfl) (by assumption) (fun _ _ _ h => h) ?_)
            | (refine mix_pure 9 (v := ?_) rfl (by kernel_rfl) (by kernel_rfl) (by kernel_rfl) (by rfl) (by assumption) (fun _ _ _ h => h) ?_ ?_; rotate_left; · (intro wS hSw; (try dsimp only at hSw); go_simp; try with_reducible rfl))
          simp only [Act.put, List.setIfInBounds_toArray, List.set_cons_zero, List.set_cons_succ]
          first
            | (refine mix_skip 10 rfl (by kernel_rfl) (by kernel_rfl) (by kernel_rfl) (by rfl) (by assumption) (fun _ _ _ h => h) ?_)
            | (refine mix_pure 10 (v := ?_) rfl (by kernel_rfl) (by kernel_rfl) (by kernel_rfl) (by rfl) (by assumption) (fun _ _ _ h => h) ?_ ?_; rotate_left; · (intro wS hSw; (try dsimp only at hSw); go_simp; try with_reducible rfl))
          simp only [Act.put, List.setIfInBounds_toArray, List.set_cons_zero, List.set_cons_succ]
          first
            | (refine mix_skip 11 rfl (by kernel_rfl) (by kernel_rfl) (by kernel_rfl) (by rfl) (by assumption) (fun _ _ _ h => h) ?_)
            | (refine mix_pure 11 (v := ?_) rfl (by kernel_rfl) (by kernel_rfl) (by kernel_rfl) (by rfl) (by assumption) (fun _ _ _ h => h) ?_ ?_; rotate_left; · (intro wS hSw; (try dsimp only at hSw); go_simp; try with_reducible rfl))
          simp only [Act.put, List.setIfInBounds_toArray, List.set_cons_zero, List.set_cons_succ]
          first
            | (refine mix_skip 12 rfl (by kernel_rfl) (by kernel_rfl) (by kernel_rfl) (by rfl) (by assumption) (fun _ _ _ h => h) ?_)
            | (refine mix_pure 12 (v := ?_) rfl (by kernel_rfl) (by kernel_rfl) (by kernel_rfl) (by rfl) (by assumption) (fun _ _ _ h => h) ?_ ?_; rotate_left; · (intro wS hSw; (try dsimp only at hSw); go_simp; try with_reducible rfl))
          simp only [Act.put, List.setIfInBounds_toArray, List.set_cons_zero, List.set_cons_succ]
          first
            | (refine mix_skip 13 rfl (by kernel_rfl) (by kernel_rfl) (by kernel_rfl) (by rfl) (by assumption) (fun _ _ _ h => h) ?_)
            | (refine mix_pure 13 (v := ?_) rfl (by kernel_rfl) (by kernel_rfl) (by kernel_rfl) (by rfl) (by assumption) (fun _ _ _ h => h) ?_ ?_; rotate_left; · (intro wS hSw; (try dsimp only at hSw); go_simp; try with_reducible rfl))
          simp only [Act.put, List.setIfInBounds_toArray, List.set_cons_zero, List.set_cons_succ]
          first
            | (refine mix_skip 14 rfl (by kernel_rfl) (by kernel_rfl) (by kernel_rfl) (by rfl) (by assumption) (fun _ _ _ h => h) ?_)
            | (refine mix_pure 14 (v := ?_) rfl (by kernel_rfl) (by kernel_rfl) (by kernel_rfl) (by rfl) (by assumption) (fun _ _ _ h => h) ?_ ?_; rotate_left; · (intro wS hSw; (try dsimp only at hSw); go_simp; try with_reducible rfl))
          simp only [Act.put, List.setIfInBounds_toArray, List.set_cons_zero, List.set_cons_succ]
          refine wpAnyH_done (by kernel_rfl) ?_ _
          have hbV : Blk ((wr.alloc (.cells #[.int .i64 xa, .int .u8 xb] 110)).drew) W.heap.size 117 #[.int .i64 at0, .slice Ac cur.length cc] := (htb.alloc _).drew
          have hfV : Fr (fun b => b = W.heap.size) W1 ((wr.alloc (.cells #[.int .i64 xa, .int .u8 xb] 110)).drew) :=
            (HF1.out.alloc _).drew
          have hoV : (((wr.alloc (.cells #[.int .i64 xa, .int .u8 xb] 110)).drew)).ownsRow W1.heap.size 5 1 (.slice Ac cur.length cc) cur.length (nums .u8 cur) := hown.alloc _
          have hsV : W1.heap.size ≤ ((wr.alloc (.cells #[.int .i64 xa, .int .u8 xb] 110)).drew).heap.size := hfV.size
          have HZV : Hid (wr.heap.size + 1 = ((wr.alloc (.cells #[.int .i64 xa, .int .u8 xb] 110)).drew).heap.size) := Lib.hid <| by
            show _ = (wr.alloc (.cells #[.int .i64 xa, .int .u8 xb] 110)).heap.size
            simp
          have HFR : Hid (Fr S w ((wr.alloc (.cells #[.int .i64 xa, .int .u8 xb] 110)).drew)) := Lib.hid ((hf.out.alloc _).drew)
          gi_wp2_with (gi_at_builtin; (refine app_oneIn (P := Try.prog) (W := ((wr.alloc (.cells #[.int .i64 xa, .int .u8 xb] 110)).drew)) W1.heap.size rfl _ _ _ 5 (.int .u8 0) 1 1 rfl Try.underlying47 (by kernel_rfl) rfl (by omega) (.slice Ac cur.length cc) cur.length (nums .u8 cur) _ rfl (by show Value.slice (some ⟨wr.heap.size + 1, 0, none⟩) 1 1 = _; rw [HZV.out]) rfl (by simp [Value.oneCell']) hoV hsV (by omega) (by omega) ?_); intro v1 w6 hown6 hg6 _; obtain ⟨A1, c1, rfl, _⟩ := own_form hown6; obtain ⟨r6, r7, r8, r9, r10⟩ := each_app hbV hoV hfV (Nat.le_refl _) hg6 hown6; have t6 := r6.cell; have t7 := r6.frozen; have t8 := r6.lt)
          go_roundw
          case rel => exact ⟨kp + 2, by omega, by go_num, Lib.hid (.inr ⟨by omega, (xa, xb), done, cur ++ [xb], ats1, at0, .slice A1 (cur.length + 1) c1, W1, HX.out, HSTEP.out.1, HSTEP.out.2.1, by rw [HGO.out]; exact go_on HX.out ⟨HSTEP.out.1, HSTEP.out.2.1⟩ HCASE.out, e1, by simp, by simp; omega, r7, HJK.out, r8, ht1, by rw [List.length_append]; exact r9⟩), Lib.hid (r10 S w HFR.out hWz (Nat.le_trans hWz (Nat.le_of_lt ht1)))⟩
          case measure => simp [intOf]; omega
        · have hne : (xa == ya + tc) = false := beq_eq_false_iff_ne.2 hcase
          have HCASE := Lib.hid hcase
          have hlt4 : ya + tc < xa := by omega
          have hGO := HFS.out
          rw [HGO.out, go_new HX.out ⟨hstep.1, hstep.2.1⟩ hlt4] at hGO
          obtain ⟨ms, bs, g1, g2, _⟩ := goF_some hGO
          have hzip : (ats.zip fs)[done.length]? = some (at0, cur) := by
            rw [g1, g2, List.append_assoc (ats1 ++ [at0])]
            exact zip_mid e1
          have hfV0 : Fr (fun b => b = W.heap.size) W1 ((wr.alloc (.cells #[.int .i64 xa, .int .u8 xb] 110)).drew) := (HF1.out.alloc _).drew
          have hoV0 : (((wr.alloc (.cells #[.int .i64 xa, .int .u8 xb] 110)).drew)).ownsRow W1.heap.size 5 1 (.slice Ac cur.length cc) cur.length (nums .u8 cur) := hown.alloc _
          have HCASE := Lib.hid hlt4
          obtain ⟨fn, tmps, assign, body, hyl, hR⟩ := HY.out done.length (at0, cur) (.agg #[.int .i64 at0, .slice Ac cur.length cc]) ((wr.alloc (.cells #[.int .i64 xa, .int .u8 xb] 110)).drew) hzip ⟨Ac, cur.length, cc, rfl, InnR.of_own hoV0, fun ad e => Nat.lt_of_lt_of_le ht1 (own_ge hoV0 ad e)⟩ (hJ _ _ _ HJK.out hfV0)
          have HGO2 := Lib.hid hGO
          clear hstep hcase hGO hzip g1 g2 hfV0 hoV0 hlt4
          gi_wp2_with fail
          refine wpIn_wide.2 ?_
          refine wp_region_held_drew (S := fun w' => w'.cell? ⟨wr.heap.size, 0, none⟩ = some (.int .i64 xa) ∧ w'.cell? ⟨bl, 0, none⟩ = some (.slice (some ⟨b, o, none⟩) m c) ∧ w'.cell? ⟨b, o + kp * 2, none⟩ = some (.int .i64 ya) ∧ w'.cell? ⟨bc, 0, none⟩ = some (.int .i64 tc)) (by kernel_rfl) (HCL.out _ (Fr.refl _ _).drew) (fun hHeld => ?_)
          first
            | (refine mix_skip 0 rfl (by kernel_rfl) (by kernel_rfl) (by kernel_rfl) (by rfl) (by assumption) (fun _ _ _ h => h) ?_)
            | (refine mix_pure 0 (v := ?_) rfl (by kernel_rfl) (by kernel_rfl) (by kernel_rfl) (by rfl) (by assumption) (fun _ _ _ h => h) ?_ ?_; rotate_left; · (intro wS hSw; (try dsimp only at hSw); go_simp; try with_reducible rfl))
          simp only [Act.put, List.setIfInBounds_toArray, List.set_cons_zero, List.set_cons_succ]
          first
            | (refine mix_skip 1 rfl (by kernel_rfl) (by kernel_rfl) (by kernel_rfl) (by rfl) (by assumption) (fun _ _ _ h => h) ?_)
            | (refine mix_pure 1 (v := ?_) rfl (by kernel_rfl) (by kernel_rfl) (by kernel_rfl) (by rfl) (by assumption) (fun _ _ _ h => h) ?_ ?_; rotate_left; · (intro wS hSw; (try dsimp only at hSw); go_simp; try with_reducible rfl))
          simp only [Act.put, List.setIfInBounds_toArray, List.set_cons_zero, List.set_cons_succ]
          first
            | (refine mix_skip 2 rfl (by kernel_rfl) (by kernel_rfl) (by kernel_rfl) (by rfl) (by assumption) (fun _ _ _ h => h) ?_)
            | (refine mix_pure 2 (v := ?_) rfl (by kernel_rfl) (by kernel_rfl) (by kernel_rfl) (by rfl) (by assumption) (fun _ _ _ h => h) ?_ ?_; rotate_left; · (intro wS hSw; (try dsimp only at hSw); go_simp; try with_reducible rfl))
          simp only [Act.put, List.setIfInBounds_toArray, List.set_cons_zero, List.set_cons_succ]
          first
            | (refine mix_skip 3 rfl (by kernel_rfl) (by kernel_rfl) (by kernel_rfl) (by rfl) (by assumption) (fun _ _ _ h => h) ?_)
            | (refine mix_pure 3 (v := ?_) rfl (by kernel_rfl) (by kernel_rfl) (by kernel_rfl) (by rfl) (by assumption) (fun _ _ _ h => h) ?_ ?_; rotate_left; · (intro wS hSw; (try dsimp only at hSw); go_simp; try with_reducible rfl))
          simp only [Act.put, List.setIfInBounds_toArray, List.set_cons_zero, List.set_cons_succ]
          first
            | (refine mix_skip 4 rfl (by kernel_rfl) (by kernel_rfl) (by kernel_rfl) (by rfl) (by assumption) (fun _ _ _ h => h) ?_)
            | (refine mix_pure 4 (v := ?_) rfl (by kernel_rfl) (by kernel_rfl) (by kernel_rfl) (by rfl) (by assumption) (fun _ _ _ h => h) ?_ ?_; rotate_left; · (intro wS hSw; (try dsimp only at hSw); go_simp; try with_reducible rfl))
          simp only [Act.put, List.setIfInBounds_toArray, List.set_cons_zero, List.set_cons_succ]
          first
            | (refine mix_skip 5 rfl (by kernel_rfl) (by kernel_rfl) (by kernel_rfl) (by rfl) (by assumption) (fun _ _ _ h => h) ?_)
            | (refine mix_pure 5 (v := ?_) rfl (by kernel_rfl) (by kernel_rfl) (by kernel_rfl) (by rfl) (by assumption) (fun _ _ _ h => h) ?_ ?_; rotate_left; · (intro wS hSw; (try dsimp only at hSw); go_simp; try with_reducible rfl))
          simp only [Act.put, List.setIfInBounds_toArray, List.set_cons_zero, List.set_cons_succ]
          first
            | (refine mix_skip 6 rfl (by kernel_rfl) (by kernel_rfl) (by kernel_rfl) (by rfl) (by assumption) (fun _ _ _ h => h) ?_)
            | (refine mix_pure 6 (v := ?_) rfl (by kernel_rfl) (by kernel_rfl) (by kernel_rfl) (by rfl) (by assumption) (fun _ _ _ h => h) ?_ ?_; rotate_left; · (intro wS hSw; (try dsimp only at hSw); go_simp; try with_reducible rfl))
          simp only [Act.put, List.setIfInBounds_toArray, List.set_cons_zero, List.set_cons_succ]
          first
            | (refine mix_skip 7 rfl (by kernel_rfl) (by kernel_rfl) (by kernel_rfl) (by rfl) (by assumption) (fun _ _ _ h => h) ?_)
            | (refine mix_pure 7 (v := ?_) rfl (by kernel_rfl) (by kernel_rfl) (by kernel_rfl) (by rfl) (by assumption) (fun _ _ _ h => h) ?_ ?_; rotate_left; · (intro wS hSw; (try dsimp only at hSw); go_simp; try with_reducible rfl))
          simp only [Act.put, List.setIfInBounds_toArray, List.set_cons_zero, List.set_cons_succ]
          first
            | (refine mix_skip 8 rfl (by kernel_rfl) (by kernel_rfl) (by kernel_rfl) (by rfl) (by assumption) (fun _ _ _ h => h) ?_)
            | (refine mix_pure 8 (v := ?_) rfl (by kernel_rfl) (by kernel_rfl) (by kernel_rfl) (by rfl) (by assumption) (fun _ _ _ h => h) ?_ ?_; rotate_left; · (intro wS hSw; (try dsimp only at hSw); go_simp; try with_reducible rfl))
          simp only [Act.put, List.setIfInBounds_toArray, List.set_cons_zero, List.set_cons_succ]
          first
            | (refine mix_skip 9 rfl (by kernel_rfl) (by kernel_rfl) (by kernel_rfl) (by rfl) (by assumption) (fun _ _ _ h => h) ?_)
            | (refine mix_pure 9 (v := ?_) rfl (by kernel_rfl) (by kernel_rfl) (by kernel_rfl) (by rfl) (by assumption) (fun _ _ _ h => h) ?_ ?_; rotate_left; · (intro wS hSw; (try dsimp only at hSw); go_simp; try with_reducible rfl))
          simp only [Act.put, List.setIfInBounds_toArray, List.set_cons_zero, List.set_cons_succ]
          first
            | (refine mix_skip 10 rfl (by kernel_rfl) (by kernel_rfl) (by kernel_rfl) (by rfl) (by assumption) (fun _ _ _ h => h) ?_)
            | (refine mix_pure 10 (v := ?_) rfl (by kernel_rfl) (by kernel_rfl) (by kernel_rfl) (by rfl) (by assumption) (fun _ _ _ h => h) ?_ ?_; rotate_left; · (intro wS hSw; (try dsimp only at hSw); go_simp; try with_reducible rfl))
          simp only [Act.put, List.setIfInBounds_toArray, List.set_cons_zero, List.set_cons_succ]
          first
            | (refine mix_skip 11 rfl (by kernel_rfl) (by kernel_rfl) (by kernel_rfl) (by rfl) (by assumption) (fun _ _ _ h => h) ?_)
            | (refine mix_pure 11 (v := ?_) rfl (by kernel_rfl) (by kernel_rfl) (by kernel_rfl) (by rfl) (by assumption) (fun _ _ _ h => h) ?_ ?_; rotate_left; · (intro wS hSw; (try dsimp only at hSw); go_simp; try with_reducible rfl))
          simp only [Act.put, List.setIfInBounds_toArray, List.set_cons_zero, List.set_cons_succ]
          first
            | (refine mix_skip 12 rfl (by kernel_rfl) (by kernel_rfl) (by kernel_rfl) (by rfl) (by assumption) (fun _ _ _ h => h) ?_)
            | (refine mix_pure 12 (v := ?_) rfl (by kernel_rfl) (by kernel_rfl) (by kernel_rfl) (by rfl) (by assumption) (fun _ _ _ h => h) ?_ ?_; rotate_left; · (intro wS hSw; (try dsimp only at hSw); go_simp; try with_reducible rfl))
          simp only [Act.put, List.setIfInBounds_toArray, List.set_cons_zero, List.set_cons_succ]
          first
            | (refine mix_skip 13 rfl (by kernel_rfl) (by kernel_rfl) (by kernel_rfl) (by rfl) (by assumption) (fun _ _ _ h => h) ?_)
            | (refine mix_pure 13 (v := ?_) rfl (by kernel_rfl) (by kernel_rfl) (by kernel_rfl) (by rfl) (by assumption) (fun _ _ _ h => h) ?_ ?_; rotate_left; · (intro wS hSw; (try dsimp only at hSw); go_simp; try with_reducible rfl))
          simp only [Act.put, List.setIfInBounds_toArray, List.set_cons_zero, List.set_cons_succ]
          first
            | (refine mix_skip 14 rfl (by kernel_rfl) (by kernel_rfl) (by kernel_rfl) (by rfl) (by assumption) (fun _ _ _ h => h) ?_)
            | (refine mix_pure 14 (v := ?_) rfl (by kernel_rfl) (by kernel_rfl) (by kernel_rfl) (by rfl) (by assumption) (fun _ _ _ h => h) ?_ ?_; rotate_left; · (intro wS hSw; (try dsimp only at hSw); go_simp; try with_reducible rfl))
          simp only [Act.put, List.setIfInBounds_toArray, List.set_cons_zero, List.set_cons_succ]
          refine wpAnyH_done (by kernel_rfl) ?_ _
          have HB4 : Hid (Blk ((wr.alloc (.cells #[.int .i64 xa, .int .u8 xb] 110)).drew) W.heap.size 117 #[.int .i64 at0, .slice Ac cur.length cc]) := Lib.hid ((htb.alloc _).drew)
          have HE4 : Hid (Blk ((wr.alloc (.cells #[.int .i64 xa, .int .u8 xb] 110)).drew) wr.heap.size 110 #[.int .i64 xa, .int .u8 xb]) := Lib.hid hel.drew
          have HFV : Hid (Fr S w ((wr.alloc (.cells #[.int .i64 xa, .int .u8 xb] 110)).drew)) := Lib.hid ((hf.out.alloc _).drew)
          gi_wp2_with fail
          refine ⟨fun h => (by cases h), hR.mono ?_⟩
          clear hR hyl
          rintro e w4 (⟨rfl, hJ4, hf4, hk4⟩ | ⟨rfl, hJx4⟩)
          · have htb4 := hk4 _ _ _ (.inl rfl) HB4.out
            have hel4 := hk4 _ _ _ (.inr rfl) HE4.out
            have p1 := htb4.cell
            have p2 := htb4.frozen
            have p3 := htb4.lt
            have p4 := hel4.cell
            have p5 := hel4.lt
            have HFW4 := Lib.hid (HFV.out.trans hf4 (fun _ _ h => h))
            have HJ4 := Lib.hid hJ4
            clear hJ4 hf4 hk4 hHeld
            have hbV : Blk (((w4.setCell ⟨W.heap.size, 0, none⟩ (.int .i64 0)).setCell ⟨W.heap.size, 1, none⟩ (.slice none 0 0)).setCell ⟨W.heap.size, 0, none⟩ (.int .i64 xa)) W.heap.size 117 #[.int .i64 xa, .slice none 0 0] := by
              simpa using ((htb4.set_ 0 (.int .i64 0)).set_ 1 (.slice none 0 0)).set_ 0 (.int .i64 xa)
            have hfV : Fr (fun b => b = W.heap.size) w4 (((w4.setCell ⟨W.heap.size, 0, none⟩ (.int .i64 0)).setCell ⟨W.heap.size, 1, none⟩ (.slice none 0 0)).setCell ⟨W.heap.size, 0, none⟩ (.int .i64 xa)) :=
              (((Fr.refl (fun b => b = W.heap.size) w4).set_ (p := ⟨W.heap.size, 0, none⟩) (.inl rfl) _).set_ (p := ⟨W.heap.size, 1, none⟩) (.inl rfl) _).set_ (p := ⟨W.heap.size, 0, none⟩) (.inl rfl) _
            have hoV : ((((w4.setCell ⟨W.heap.size, 0, none⟩ (.int .i64 0)).setCell ⟨W.heap.size, 1, none⟩ (.slice none 0 0)).setCell ⟨W.heap.size, 0, none⟩ (.int .i64 xa))).ownsRow w4.heap.size 5 1 (.slice none 0 0) 0 (nums .u8 []) := World.ownsRow_nil _ _ _ _
            have hsV : w4.heap.size ≤ (((w4.setCell ⟨W.heap.size, 0, none⟩ (.int .i64 0)).setCell ⟨W.heap.size, 1, none⟩ (.slice none 0 0)).setCell ⟨W.heap.size, 0, none⟩ (.int .i64 xa)).heap.size := hfV.size
            have HZV : Hid (w4.heap.size = (((w4.setCell ⟨W.heap.size, 0, none⟩ (.int .i64 0)).setCell ⟨W.heap.size, 1, none⟩ (.slice none 0 0)).setCell ⟨W.heap.size, 0, none⟩ (.int .i64 xa)).heap.size) := Lib.hid <| by
              simp [World.setCell]
            have HFR : Hid (Fr S w (((w4.setCell ⟨W.heap.size, 0, none⟩ (.int .i64 0)).setCell ⟨W.heap.size, 1, none⟩ (.slice none 0 0)).setCell ⟨W.heap.size, 0, none⟩ (.int .i64 xa))) := Lib.hid (HFW4.out.trans hfV (fun i hi e => by subst e; exact absurd hWz (by omega)))
            gi_wp2_with (gi_at_builtin; (refine app_oneIn (P := Try.prog) (W := (((w4.setCell ⟨W.heap.size, 0, none⟩ (.int .i64 0)).setCell ⟨W.heap.size, 1, none⟩ (.slice none 0 0)).setCell ⟨W.heap.size, 0, none⟩ (.int .i64 xa))) w4.heap.size rfl _ _ _ 5 (.int .u8 0) 1 1 rfl Try.underlying47 (by kernel_rfl) rfl (by omega) (.slice none 0 0) 0 (nums .u8 []) _ rfl (by show Value.slice (some ⟨w4.heap.size, 0, none⟩) 1 1 = _; rw [HZV.out]) rfl (by simp [Value.oneCell']) hoV hsV (by omega) (by omega) ?_); intro v1 w6 hown6 hg6 _; obtain ⟨A1, c1, rfl, _⟩ := own_form hown6; obtain ⟨r6, r7, r8, r9, r10⟩ := each_app hbV hoV hfV (Nat.le_refl _) hg6 hown6; have t6 := r6.cell; have t7 := r6.frozen; have t8 := r6.lt)
            go_roundw
            case rel => exact ⟨kp + 2, by omega, by go_num, Lib.hid (.inr ⟨by omega, (xa, xb), done ++ [cur], [xb], ats1 ++ [at0], xa, .slice A1 1 c1, w4, HX.out, HSTEP.out.1, HSTEP.out.2.1, by rw [HGO.out]; exact go_new HX.out ⟨HSTEP.out.1, HSTEP.out.2.1⟩ HCASE.out, by simp [e1], by simp, by simp, r7, by rw [List.length_append]; exact HJ4.out, r8, p3, r9⟩), Lib.hid (r10 S w HFR.out hWz (Nat.le_trans hWz (Nat.le_of_lt p3)))⟩
            case measure => simp [intOf]; omega
          · gi_wp2_with fail
            refine bodyPost_ret (results_none rfl _ _ _) rfl ?_
            exact ⟨⟨_, rfl⟩, .inr ⟨_, hJx4⟩⟩
    · obtain rfl : k = m := by omega
      rcases hat.out with ⟨rfl, htb, hJk⟩ | ⟨hk0, y, done, cur, ats1, at0, cv, W1, hy, y1, y2, hgo, e1, e2, e3, htb, hJk, hf1, ht1, hown⟩
      · have q1 := htb.cell
        have q2 := htb.frozen
        have q3 := htb.lt
        have hx0 : (ats.zip fs).length = 0 := by
          have h1 := HFS.out
          rw [List.eq_nil_of_length_eq_zero hlen, framesF] at h1
          cases h1
          rfl
        have HX0 := Lib.hid hx0
        clear hx0
        gi_wp2
        go_end0
        exact ⟨⟨_, rfl⟩, .inl (by rw [HX0.out]; exact hJk)⟩
      · have q1 := htb.cell
        have q2 := htb.frozen
        have q3 := htb.lt
        obtain ⟨Ac, cc, rfl, hcc, _⟩ := own_form hown
        have hGO := HFS.out
        rw [hgo, List.drop_eq_nil_of_le (by omega), goF] at hGO
        cases hGO
        have hzip : ((ats1 ++ [at0]).zip (done ++ [cur]))[done.length]? = some (at0, cur) := by
          have := zip_mid (bs := []) (ms := []) (at0 := at0) (cur := cur) e1
          simpa only [List.append_nil] using this
        have hx0 : ((ats1 ++ [at0]).zip (done ++ [cur])).length = done.length + 1 := by
          rw [List.length_zip]
          simp [e1]
        obtain ⟨fn, tmps, assign, body, hyl, hR⟩ := HY.out done.length (at0, cur) (.agg #[.int .i64 at0, .slice Ac cur.length cc]) wr hzip ⟨Ac, cur.length, cc, rfl, InnR.of_own hown, fun ad e => Nat.lt_of_lt_of_le ht1 (own_ge hown ad e)⟩ (hJ _ _ _ hJk hf1)
        have hnz : decide ((0 : Int) < (cur.length : Int)) = true := decide_eq_true (by omega)
        have HX0 := Lib.hid hx0
        clear hgo hzip hx0 hy
        gi_wp2_with fail
        refine ⟨fun h => (by cases h), hR.mono ?_⟩
        clear hR hyl
        rintro e w4 (⟨rfl, hJ4, _, _⟩ | ⟨rfl, hJx4⟩)
        · gi_wp2_with fail
          go_end0
          exact ⟨⟨_, rfl⟩, .inl (by rw [HX0.out]; exact hJ4)⟩
        · gi_wp2_with fail
          go_end0
          exact ⟨⟨_, rfl⟩, .inr ⟨_, hJx4⟩⟩
end Go.Proofs.Ytmpjdploacfmeaa
