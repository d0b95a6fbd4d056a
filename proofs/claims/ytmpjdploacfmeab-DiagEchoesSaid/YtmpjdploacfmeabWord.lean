/- Contracts of the words of two bytes: word.At, word.Put, and the document's. -/
import Derived.Test.YtmpjdploacfmeabRows
import Derived.Test.YtmpjdploacfmeabNums
import Derived.Test.YtmpjdploacfmeabOwn
import Derived.Test.YtmpjdploacfmeabMix
import Derived.Lib.EndianBits
namespace Go.Proofs.Ytmpjdploacfmeab
set_option linter.unusedSimpArgs false
set_option linter.unusedVariables false
open Go.RowKit

/-- The word at a place. -/
def at2 (d : List Int) (i : Nat) : Int := d.getD i 0 * 256 + d.getD (i + 1) 0
/-- Bytes as they are. -/
def bytes8 (d : List Int) : Prop := ∀ x ∈ d, 0 ≤ x ∧ x ≤ 255
theorem bytes8.at_ {d : List Int} (h : bytes8 d) (i : Nat) : 0 ≤ d.getD i 0 ∧ d.getD i 0 ≤ 255 := by
  rcases Nat.lt_or_ge i d.length with hi | hi
  · simpa [List.getD_eq_getElem?_getD, List.getElem?_eq_getElem hi] using h _ (List.getElem_mem hi)
  · simp [List.getD_eq_getElem?_getD, List.getElem?_eq_none hi]

set_option maxHeartbeats 400000 in
theorem word_at_ok (A : Option Addr) (n c : Nat) (d : List Int) (i : Nat) (w : World) (h : Rd w 1 A n (nums .u8 d)) (hd : bytes8 d) (hi : i + 2 ≤ n) (hn : n ≤ c) (hc : c ≤ 9223372036854775807) :
    Calls Try.prog 22 #[.slice A n c, .int .i64 i] w fun e w' => e = .returned (.tuple #[.int .u16 (at2 d i), .bool true]) ∧ ∃ k, w' = w.drewN k := by
  obtain ⟨b, o, rfl, hb, h0⟩ := h.num (i := i) (by omega)
  obtain ⟨b', o', e, hb', h1⟩ := h.num (i := i + 1) (by omega)
  injection e with e
  injection e with e1 e2
  subst e1; subst e2
  obtain ⟨x, hx⟩ : ∃ x, x = d.getD i 0 := ⟨_, rfl⟩
  obtain ⟨y, hy⟩ : ∃ y, y = d.getD (i + 1) 0 := ⟨_, rfl⟩
  have hxb := hd.at_ i
  have hyb := hd.at_ (i + 1)
  rw [at2, ← hx, ← hy]
  rw [← hx] at h0 hxb
  rw [← hy] at h1 hyb
  clear hx hy
  have hor : bits .or .u16 (x * 256) y = x * 256 + y := bits_join .u16 16 (by decide) wraps_u16 8 (x * 256) y (by omega) (by omega) (by omega) (by omega) (by omega) (by omega)
  go_enter Try.func22, Try.ntmps22
  go_wp2_with fail
  go_quiet (fail)
  go_wp2
  go_ret2
  exact ⟨rfl, _, rfl⟩
set_option maxHeartbeats 400000 in
theorem word_at_no (A : Option Addr) (n c i : Nat) (w : World) (hi : n < i + 2) (hn : n ≤ c) (hc : c ≤ 9223372036854775807) :
    Calls Try.prog 22 #[.slice A n c, .int .i64 i] w fun e w' => e = .returned (.tuple #[.int .u16 0, .bool false]) ∧ w' = w := by
  go_enter Try.func22, Try.ntmps22
  go_wp2_with fail
  go_ret2
  exact ⟨rfl, rfl⟩

set_option maxHeartbeats 400000 in
theorem ref_at_ok (A : Option Addr) (n c : Nat) (d : List Int) (i : Nat) (w : World) (h : Rd w 1 A n (nums .u8 d)) (hd : bytes8 d) (hi : i + 2 ≤ n) (hn : n ≤ c) (hc : c ≤ 9223372036854775807) :
    Calls Try.prog 29 #[.slice A n c, .int .i64 i] w fun e w' => e = .returned (.tuple #[.int .u16 (at2 d i), .bool true]) ∧ ∃ k, w' = w.drewN k := by
  obtain ⟨b, o, rfl, hb, h0⟩ := h.num (i := i) (by omega)
  obtain ⟨b', o', e, hb', h1⟩ := h.num (i := i + 1) (by omega)
  injection e with e
  injection e with e1 e2
  subst e1; subst e2
  obtain ⟨x, hx⟩ : ∃ x, x = d.getD i 0 := ⟨_, rfl⟩
  obtain ⟨y, hy⟩ : ∃ y, y = d.getD (i + 1) 0 := ⟨_, rfl⟩
  have hxb := hd.at_ i
  have hyb := hd.at_ (i + 1)
  rw [at2, ← hx, ← hy]
  rw [← hx] at h0 hxb
  rw [← hy] at h1 hyb
  clear hx hy
  have hor : bits .or .u16 (x * 256) y = x * 256 + y := bits_join .u16 16 (by decide) wraps_u16 8 (x * 256) y (by omega) (by omega) (by omega) (by omega) (by omega) (by omega)
  go_enter Try.func29, Try.ntmps29
  go_wp2_with fail
  go_quiet (fail)
  go_wp2
  go_ret2
  exact ⟨rfl, _, rfl⟩
set_option maxHeartbeats 400000 in
theorem ref_at_no (A : Option Addr) (n c i : Nat) (w : World) (hi : n < i + 2) (hn : n ≤ c) (hc : c ≤ 9223372036854775807) :
    Calls Try.prog 29 #[.slice A n c, .int .i64 i] w fun e w' => e = .returned (.tuple #[.int .u16 0, .bool false]) ∧ w' = w := by
  go_enter Try.func29, Try.ntmps29
  go_wp2_with fail
  go_ret2
  exact ⟨rfl, rfl⟩

/-- The bytes of words. -/
def put2s (l : List Int) : List Int := l.flatMap fun x => [x / 256, x % 256]
theorem put2s_len (l : List Int) : (put2s l).length = 2 * l.length := by
  induction l with
  | nil => rfl
  | cons x l ih => rw [put2s, List.flatMap_cons, List.length_append, ← put2s, ih]; simp; omega
theorem put2s_snoc {l : List Int} {k : Nat} (h : k < l.length) : put2s (l.take (k + 1)) = put2s (l.take k) ++ [l.getD k 0 / 256, l.getD k 0 % 256] := by
  rw [List.take_add_one, List.getElem?_eq_getElem h, put2s, List.flatMap_append, ← put2s]
  simp [List.getD_eq_getElem?_getD, List.getElem?_eq_getElem h]
def words16 (l : List Int) : Prop := ∀ x ∈ l, 0 ≤ x ∧ x ≤ 65535
theorem words16.at_ {d : List Int} (h : words16 d) (i : Nat) : 0 ≤ d.getD i 0 ∧ d.getD i 0 ≤ 65535 := by
  rcases Nat.lt_or_ge i d.length with hi | hi
  · simpa [List.getD_eq_getElem?_getD, List.getElem?_eq_getElem hi] using h _ (List.getElem_mem hi)
  · simp [List.getD_eq_getElem?_getD, List.getElem?_eq_none hi]
theorem bytes_put (W : World) (a b : Int) : Rd (W.alloc (.cells #[.int .u8 a, .int .u8 b] 5)) 1 (some ⟨W.heap.size, 0, none⟩) 2 (nums .u8 [a, b]) :=
  Rd.of_blk (Blk.new W _ _) rfl (fun j u hu => by rw [Nat.zero_add]; simpa [nums] using hu)

set_option maxHeartbeats 1000000 in
set_option maxRecDepth 100000 in
/-- One word is put behind the bytes that a box holds. -/
theorem put_one (g base m : Nat) (xs : List Value) (v : Value) (x : Int) (w : World) (hb : Blk w g 79 #[v]) (ho : w.ownsRow base 5 1 v m xs) (hx : 0 ≤ x ∧ x ≤ 65535) (hm : m ≤ 1000000) (hbase : base ≤ w.heap.size) (hg : g < base) :
    Calls Try.prog 49 #[.pointer (some ⟨g, 0, none⟩), .int .u16 x] w fun e w' => e = .returned (.tuple #[]) ∧ ∃ v', Blk w' g 79 #[v'] ∧ w'.ownsRow base 5 1 v' (m + 2) (xs ++ nums .u8 [x / 256, x % 256]) ∧ Fr (fun b => b = g ∨ base ≤ b) w w' := by
  obtain ⟨A, c, rfl, _⟩ := own_form ho
  have hand : bits .and .u16 x 255 = x % 256 := bits_mask .u16 16 (by decide) wraps_u16 8 (by decide) x (by omega) (by omega)
  have q0 : ∀ i, w.cell? ⟨g, i, none⟩ = #[Value.slice A m c][i]? := fun i => hb.cell i
  have hr := bytes_put w (x / 256) (x % 256)
  have ho1 := ho.alloc (.cells #[.int .u8 (x / 256), .int .u8 (x % 256)] 5)
  have hb1 := hb.alloc (.cells #[.int .u8 (x / 256), .int .u8 (x % 256)] 5)
  have hmm : x % 256 % 256 = x % 256 := by omega
  go_enter Try.func49, Try.ntmps49
  go_wp2_with (at_builtin; (refine app_row (P := Try.prog) (W := w.alloc (.cells #[.int .u8 (x / 256), .int .u8 (x % 256)] 5)) base rfl _ _ _ 5 (Value.int .u8 0) 1 1 rfl Try.underlying23 (by kernel_rfl) rfl (by omega) (.slice A m c) m xs (some ⟨w.heap.size, 0, none⟩) 2 2 (nums .u8 [x / 256, x % 256]) rfl rfl (nums_one _ _) ho1 hr (by simp; omega) (by omega) (by omega) ?_); intro v1 w1 hown1 hg1 hat1; have hb2 := hb1.grown hg1 (fun e => by have := own_at ho1 _ e.symm; omega); have q2 : ∀ i, w1.cell? ⟨g, i, none⟩ = #[Value.slice A m c][i]? := fun i => hb2.cell i; have q3 : ∀ i, w1.frozen? ⟨g, i, none⟩ = false := fun i => hb2.frozen i; obtain ⟨A1, c1, rfl, _⟩ := own_form hown1)
  go_end0
  refine ⟨rfl, .slice A1 (m + 2) c1, by simpa using hb2.set_ 0 (.slice A1 (m + 2) c1), own_set hown1 hb2 (by decide) _, ?_⟩
  have f1 : Fr (fun b => b = g ∨ base ≤ b) (w.alloc (.cells #[.int .u8 (x / 256), .int .u8 (x % 256)] 5)) w1 := (Fr.refl _ _).grown hg1 (fun k hk => .inl (.inr (own_at ho1 k hk)))
  exact ((((Fr.refl (fun b => b = g ∨ base ≤ b) w).alloc _).trans f1 (fun _ _ h => h)).set_ (.inl (.inl rfl)) _)

set_option maxHeartbeats 1000000 in
set_option maxRecDepth 100000 in
theorem word_put (A : Option Addr) (n c : Nat) (l : List Int) (w : World) (h : Rd w 1 A n (nums .u16 l)) (hl : words16 l) (hn : n ≤ 100000) (hc : n ≤ c) :
    Calls Try.prog 47 #[.slice A n c] w fun e w' => ∃ A' c', e = .returned (.slice A' (2 * n) c') ∧ w'.ownsRow w.heap.size 5 1 (.slice A' (2 * n) c') (2 * n) (nums .u8 (put2s l)) ∧ Fr nob w w' := by
  have hlen := h.numlen
  have mf := @mf Try.prog
  have hb0 := Blk.new w 79 #[.slice none 0 0]
  have hf0 := (Fr.refl nob w).alloc (.cells #[.slice none 0 0] 79)
  have hz0 := World.size_alloc w (.cells #[.slice none 0 0] 79)
  go_enter Try.func47, Try.ntmps47
  go_wp2
  go_loopw [10] (fun i wr => ∃ (k : Nat) (v : Value), k ≤ n ∧ i = .int .i64 k ∧ Blk wr w.heap.size 79 #[v] ∧ wr.ownsRow (w.heap.size + 1) 5 1 v (2 * k) (nums .u8 (put2s (l.take k))) ∧ Fr nob w wr ∧ w.heap.size + 1 ≤ wr.heap.size) (fun i _ => n - (intOf i).toNat)
  case atStart => exact ⟨0, _, by omega, rfl, hb0, World.ownsRow_nil _ _ _ _, hf0, by omega⟩
  case round =>
    obtain ⟨k, v, hk, rfl, hblk, hown, hf, hz⟩ := hrel
    by_cases hlt : k < n
    · obtain ⟨b, o, rfl, hb, hc0⟩ := (h.nob hf).num (i := k) hlt
      have hi0 : (0 : Int) ≤ (k : Int) ∧ (k : Int) < (n : Int) := ⟨by omega, by omega⟩
      have hxb := hl.at_ k
      have hsn := Lib.hid (put2s_snoc (l := l) (k := k) (by omega))
      obtain ⟨x, hx⟩ : ∃ x, x = l.getD k 0 := ⟨_, rfl⟩
      rw [← hx] at hc0 hxb hsn
      clear hx
      go_wp2_with fail
      refine (put_one w.heap.size (w.heap.size + 1) (2 * k) _ v x _ hblk hown hxb (by omega) hz (by omega)).mono ?_
      rintro e w2 ⟨rfl, v', hblk', hown', hf2⟩
      go_wp2_with fail
      go_roundw
      case rel => exact ⟨k + 1, v', by omega, by go_num, hblk', by rw [hsn.out, nums_app]; exact hown', hf.newer hf2 (fun i hi => by omega), Nat.le_trans hz hf2.size⟩
      case measure => simp [intOf]; omega
    · obtain rfl : k = n := by omega
      obtain ⟨A', c', rfl, _⟩ := own_form hown
      have q0 : ∀ i, wr.cell? ⟨w.heap.size, i, none⟩ = #[Value.slice A' (2 * k) c'][i]? := fun i => hblk.cell i
      rw [List.take_of_length_le (by omega)] at hown
      go_wp2_with fail
      go_ret
      exact ⟨A', c', rfl, own_base hown (by omega), hf⟩

set_option maxHeartbeats 1000000 in
set_option maxRecDepth 100000 in
theorem ref_put (A : Option Addr) (n c : Nat) (l : List Int) (w : World) (h : Rd w 1 A n (nums .u16 l)) (hl : words16 l) (hn : n ≤ 100000) (hc : n ≤ c) :
    Calls Try.prog 31 #[.slice A n c] w fun e w' => ∃ A' c', e = .returned (.slice A' (2 * n) c') ∧ w'.ownsRow w.heap.size 5 1 (.slice A' (2 * n) c') (2 * n) (nums .u8 (put2s l)) ∧ Fr nob w w' := by
  have hlen := h.numlen
  go_enter Try.func31, Try.ntmps31
  go_wp2
  go_loopw [3, 4] (fun v i wr => ∃ (k : Nat), k ≤ n ∧ i = .int .i64 k ∧ wr.ownsRow w.heap.size 5 1 v (2 * k) (nums .u8 (put2s (l.take k))) ∧ Fr nob w wr) (fun _ i _ => n - (intOf i).toNat)
  case atStart => exact ⟨0, by omega, rfl, World.ownsRow_nil _ _ _ _, Fr.refl _ _⟩
  case round =>
    obtain ⟨k, hk, rfl, hown, hf⟩ := hrel
    by_cases hlt : k < n
    · obtain ⟨b, o, rfl, hb, hc0⟩ := (h.nob hf).num (i := k) hlt
      have hbw0 : k < n → b < w.heap.size := fun hk => by
        obtain ⟨b', o', e, hb', _⟩ := h.num (i := k) hk
        injection e with e
        injection e with e1 _
        omega
      have hi0 : (0 : Int) ≤ (k : Int) ∧ (k : Int) < (n : Int) := ⟨by omega, by omega⟩
      have hxb := hl.at_ k
      have hsn := Lib.hid (put2s_snoc (l := l) (k := k) (by omega))
      obtain ⟨x, hx⟩ : ∃ x, x = l.getD k 0 := ⟨_, rfl⟩
      rw [← hx] at hc0 hxb hsn
      clear hx
      go_wp2_with fail
      have hr1 : Rd ((wr.alloc (.cells #[.int .u8 (x / 256), .int .u8 (x % 256)] 5)).drew) 1 (some ⟨wr.heap.size, 0, none⟩) 2 (nums .u8 [x / 256, x % 256]) := bytes_put wr (x / 256) (x % 256)
      have ho1 : ((wr.alloc (.cells #[.int .u8 (x / 256), .int .u8 (x % 256)] 5)).drew).ownsRow w.heap.size 5 1 u3 (2 * k) (nums .u8 (put2s (l.take k))) := hown.alloc _
      have HL := Lib.hid (show ∀ W, Fr nob wr W → W.cell? ⟨b, o + k, none⟩ = some (.int .u16 x) from fun W h => (h.cell (p := ⟨b, o + k, none⟩) hb (fun h => h)).trans hc0)
      have hbw : b < w.heap.size := hbw0 hlt
      have HG := Lib.hid (show ∀ W, Fr (fun i => w.heap.size ≤ i) wr W → W.cell? ⟨b, o + k, none⟩ = some (.int .u16 x) from fun W h => (h.cell (p := ⟨b, o + k, none⟩) hb (by simp; omega)).trans hc0)
      have hzz := hf.size
      have hq1 : IntKind.u8.wrap (IntKind.u16.wrap (x.tdiv 256)) = x / 256 := by
        rw [Int.tdiv_eq_ediv_of_nonneg hxb.1, wraps_u16 _ (by omega) (by omega)]
        simp [IntKind.wrap, IntKind.bits, IntKind.signed]; omega
      have hq2 : IntKind.u8.wrap (x.tmod 256) = x % 256 := by
        rw [Int.tmod_eq_emod_of_nonneg hxb.1]
        simp [IntKind.wrap, IntKind.bits, IntKind.signed]
      refine wp_region_held_drew (S := fun w' => w'.cell? ⟨b, o + k, none⟩ = some (.int .u16 x)) (by kernel_rfl) (HL.out _ ((Fr.refl nob wr).drew)) (fun hHeld => ?_)
      first
        | (refine mix_skip 0 rfl (by kernel_rfl) (by kernel_rfl) (by kernel_rfl) (by rfl) (by assumption) (fun _ _ _ h => h) ?_)
        | (refine mix_pure 0 (v := ?_) rfl (by kernel_rfl) (by kernel_rfl) (by kernel_rfl) (by rfl) (by assumption) (fun _ _ _ h => h) ?_ ?_; rotate_left; · (intro wS hSw; (try dsimp only at hSw); go_simp; try with_reducible rfl))
      simp only [Act.put, List.setIfInBounds_toArray, List.set_cons_zero, List.set_cons_succ]
      first
        | (refine mix_skip 1 rfl (by kernel_rfl) (by kernel_rfl) (by kernel_rfl) (by rfl) (by assumption) (fun _ _ _ h => h) ?_)
        | (refine mix_pure 1 (v := ?_) rfl (by kernel_rfl) (by kernel_rfl) (by kernel_rfl) (by rfl) (by assumption) (fun _ _ _ h => h) ?_ ?_; rotate_left; · (intro wS hSw; (try dsimp only at hSw); go_simp; try with_reducible rfl))
      simp only [Act.put, List.setIfInBounds_toArray, List.set_cons_zero, List.set_cons_succ]
      first
        | (refine mix_skip 2 rfl (by kernel_rfl) (by kernel_rfl) (by kernel_rfl) (by rfl) (by assumption) (fun _ _ _ h => h) ?_)
        | (refine mix_pure 2 (v := ?_) rfl (by kernel_rfl) (by kernel_rfl) (by kernel_rfl) (by rfl) (by assumption) (fun _ _ _ h => h) ?_ ?_; rotate_left; · (intro wS hSw; (try dsimp only at hSw); go_simp; try with_reducible rfl))
      simp only [Act.put, List.setIfInBounds_toArray, List.set_cons_zero, List.set_cons_succ]
      first
        | (refine mix_skip 3 rfl (by kernel_rfl) (by kernel_rfl) (by kernel_rfl) (by rfl) (by assumption) (fun _ _ _ h => h) ?_)
        | (refine mix_pure 3 (v := ?_) rfl (by kernel_rfl) (by kernel_rfl) (by kernel_rfl) (by rfl) (by assumption) (fun _ _ _ h => h) ?_ ?_; rotate_left; · (intro wS hSw; (try dsimp only at hSw); go_simp; try with_reducible rfl))
      simp only [Act.put, List.setIfInBounds_toArray, List.set_cons_zero, List.set_cons_succ]
      first
        | (refine mix_skip 4 rfl (by kernel_rfl) (by kernel_rfl) (by kernel_rfl) (by rfl) (by assumption) (fun _ _ _ h => h) ?_)
        | (refine mix_pure 4 (v := ?_) rfl (by kernel_rfl) (by kernel_rfl) (by kernel_rfl) (by rfl) (by assumption) (fun _ _ _ h => h) ?_ ?_; rotate_left; · (intro wS hSw; (try dsimp only at hSw); go_simp; try with_reducible rfl))
      simp only [Act.put, List.setIfInBounds_toArray, List.set_cons_zero, List.set_cons_succ]
      first
        | (refine mix_skip 5 rfl (by kernel_rfl) (by kernel_rfl) (by kernel_rfl) (by rfl) (by assumption) (fun _ _ _ h => h) ?_)
        | (refine mix_pure 5 (v := ?_) rfl (by kernel_rfl) (by kernel_rfl) (by kernel_rfl) (by rfl) (by assumption) (fun _ _ _ h => h) ?_ ?_; rotate_left; · (intro wS hSw; (try dsimp only at hSw); go_simp; try with_reducible rfl))
      simp only [Act.put, List.setIfInBounds_toArray, List.set_cons_zero, List.set_cons_succ]
      first
        | (refine mix_skip 6 rfl (by kernel_rfl) (by kernel_rfl) (by kernel_rfl) (by rfl) (by assumption) (fun _ _ _ h => h) ?_)
        | (refine mix_pure 6 (v := ?_) rfl (by kernel_rfl) (by kernel_rfl) (by kernel_rfl) (by rfl) (by assumption) (fun _ _ _ h => h) ?_ ?_; rotate_left; · (intro wS hSw; (try dsimp only at hSw); go_simp; try with_reducible rfl))
      simp only [Act.put, List.setIfInBounds_toArray, List.set_cons_zero, List.set_cons_succ]
      first
        | (refine mix_skip 7 rfl (by kernel_rfl) (by kernel_rfl) (by kernel_rfl) (by rfl) (by assumption) (fun _ _ _ h => h) ?_)
        | (refine mix_pure 7 (v := ?_) rfl (by kernel_rfl) (by kernel_rfl) (by kernel_rfl) (by rfl) (by assumption) (fun _ _ _ h => h) ?_ ?_; rotate_left; · (intro wS hSw; (try dsimp only at hSw); go_simp; try with_reducible rfl))
      simp only [Act.put, List.setIfInBounds_toArray, List.set_cons_zero, List.set_cons_succ]
      first
        | (refine mix_skip 8 rfl (by kernel_rfl) (by kernel_rfl) (by kernel_rfl) (by rfl) (by assumption) (fun _ _ _ h => h) ?_)
        | (refine mix_pure 8 (v := ?_) rfl (by kernel_rfl) (by kernel_rfl) (by kernel_rfl) (by rfl) (by assumption) (fun _ _ _ h => h) ?_ ?_; rotate_left; · (intro wS hSw; (try dsimp only at hSw); go_simp; try with_reducible rfl))
      simp only [Act.put, List.setIfInBounds_toArray, List.set_cons_zero, List.set_cons_succ]
      first
        | (refine mix_skip 9 rfl (by kernel_rfl) (by kernel_rfl) (by kernel_rfl) (by rfl) (by assumption) (fun _ _ _ h => h) ?_)
        | (refine mix_pure 9 (v := ?_) rfl (by kernel_rfl) (by kernel_rfl) (by kernel_rfl) (by rfl) (by assumption) (fun _ _ _ h => h) ?_ ?_; rotate_left; · (intro wS hSw; (try dsimp only at hSw); go_simp; try with_reducible rfl))
      simp only [Act.put, List.setIfInBounds_toArray, List.set_cons_zero, List.set_cons_succ]
      first
        | (refine mix_skip 10 rfl (by kernel_rfl) (by kernel_rfl) (by kernel_rfl) (by rfl) (by assumption) (fun _ _ _ h => h) ?_)
        | (refine mix_pure 10 (v := ?_) rfl (by kernel_rfl) (by kernel_rfl) (by kernel_rfl) (by rfl) (by assumption) (fun _ _ _ h => h) ?_ ?_; rotate_left; · (intro wS hSw; (try dsimp only at hSw); go_simp; try with_reducible rfl))
      simp only [Act.put, List.setIfInBounds_toArray, List.set_cons_zero, List.set_cons_succ]
      first
        | (refine mix_skip 11 rfl (by kernel_rfl) (by kernel_rfl) (by kernel_rfl) (by rfl) (by assumption) (fun _ _ _ h => h) ?_)
        | (refine mix_pure 11 (v := ?_) rfl (by kernel_rfl) (by kernel_rfl) (by kernel_rfl) (by rfl) (by assumption) (fun _ _ _ h => h) ?_ ?_; rotate_left; · (intro wS hSw; (try dsimp only at hSw); go_simp; try with_reducible rfl))
      simp only [Act.put, List.setIfInBounds_toArray, List.set_cons_zero, List.set_cons_succ]
      first
        | (refine mix_skip 12 rfl (by kernel_rfl) (by kernel_rfl) (by kernel_rfl) (by rfl) (by assumption) (fun _ _ _ h => h) ?_)
        | (refine mix_pure 12 (v := ?_) rfl (by kernel_rfl) (by kernel_rfl) (by kernel_rfl) (by rfl) (by assumption) (fun _ _ _ h => h) ?_ ?_; rotate_left; · (intro wS hSw; (try dsimp only at hSw); go_simp; try with_reducible rfl))
      simp only [Act.put, List.setIfInBounds_toArray, List.set_cons_zero, List.set_cons_succ]
      refine mix_one 13 rfl (by kernel_rfl) (fun K hK => ?_)
      go_simp
      refine hK.out _ _ (HL.out _ ((Fr.refl nob wr).alloc (.cells #[.int .u8 (x / 256), .int .u8 (x % 256)] 5)).drew) (fun hHeld0 => ?_)
      clear hK K
      try simp only [Act.put, List.setIfInBounds_toArray, List.set_cons_zero, List.set_cons_succ]
      refine mix_one 14 rfl (by kernel_rfl) (fun K hK => ?_)
      rw [if_pos (by rfl)]
      refine app_row_op (P := Try.prog) (W := (wr.alloc (.cells #[.int .u8 (x / 256), .int .u8 (x % 256)] 5)).drew) w.heap.size _ _ _ 5 (Value.int .u8 0) 1 1 rfl Try.underlying23 (by kernel_rfl) rfl (by omega) u3 (2 * k) _ (some ⟨wr.heap.size, 0, none⟩) 2 2 (nums .u8 [x / 256, x % 256]) rfl rfl (nums_one _ _) ho1 hr1 (by simp; omega) (by omega) (by omega) ?_
      intro v1 w1 hown1 hg1 _
      have hf1 : Fr (fun b => w.heap.size ≤ b) wr w1 := (((Fr.refl _ wr).alloc _).drew).grown hg1 (fun k hk => .inl (own_at ho1 k hk))
      refine hK.out _ _ (HG.out _ hf1) (fun hHeld1 => ?_)
      clear hK K
      try simp only [Act.put, List.setIfInBounds_toArray, List.set_cons_zero, List.set_cons_succ]
      first
        | (refine mix_skip 15 rfl (by kernel_rfl) (by kernel_rfl) (by kernel_rfl) (by rfl) (by assumption) (fun _ _ _ h => h) ?_)
        | (refine mix_pure 15 (v := ?_) rfl (by kernel_rfl) (by kernel_rfl) (by kernel_rfl) (by rfl) (by assumption) (fun _ _ _ h => h) ?_ ?_; rotate_left; · (intro wS hSw; (try dsimp only at hSw); go_simp; try with_reducible rfl))
      simp only [Act.put, List.setIfInBounds_toArray, List.set_cons_zero, List.set_cons_succ]
      refine wpAnyH_done (by kernel_rfl) ?_ _
      go_wp2_with fail
      go_roundw
      case rel => exact ⟨k + 1, by omega, by go_num, by rw [hsn.out, nums_app]; exact hown1, hf.newer hf1 (fun i hi => hi)⟩
      case measure => simp [intOf]; omega
    · obtain rfl : k = n := by omega
      obtain ⟨A', c', rfl, _⟩ := own_form hown
      rw [List.take_of_length_le (by omega)] at hown
      go_wp2_with fail
      go_ret
      exact ⟨A', c', rfl, hown, hf⟩
end Go.Proofs.Ytmpjdploacfmeab
