/- Plain law of the sums of frames: the table's step is eight steps of the document's (no program is spoken of). -/
import Derived.Test.YtmpjdploacfmeaaBase2
namespace Go.Proofs.Ytmpjdploacfmeaa
set_option linter.unusedSimpArgs false
set_option linter.unusedVariables false

def bitT (r : Nat) : Nat := if r % 2 = 1 then (r / 2) ^^^ 40961 else r / 2
def bitN : Nat → Nat → Nat
  | 0, r => r
  | k + 1, r => bitT (bitN k r)
/-- The document's bits of a byte, the first k. -/
def stepD (b : Nat) : Nat → Nat → Nat
  | 0, r => r
  | k + 1, r => bitT (stepD b k r ^^^ (b / 2 ^ k % 2))
theorem xor_lc (x y z : Nat) : x ^^^ (y ^^^ z) = y ^^^ (x ^^^ z) := by rw [← Nat.xor_assoc, Nat.xor_comm x y, Nat.xor_assoc]
theorem xor_same (x y : Nat) : x ^^^ (x ^^^ y) = y := by rw [← Nat.xor_assoc, Nat.xor_self, Nat.zero_xor]
theorem xor_par (x y : Nat) : (x ^^^ y) % 2 = (x % 2 + y % 2) % 2 := by
  have h := Nat.xor_mod_two_pow (a := x) (b := y) (n := 1)
  rw [Nat.pow_one] at h
  rw [h]
  rcases Nat.mod_two_eq_zero_or_one x with hx | hx <;> rcases Nat.mod_two_eq_zero_or_one y with hy | hy <;> rw [hx, hy] <;> rfl
theorem bitT_xor (x y : Nat) : bitT (x ^^^ y) = bitT x ^^^ bitT y := by
  have h := xor_par x y
  unfold bitT
  rw [Nat.xor_div_two]
  rcases Nat.mod_two_eq_zero_or_one x with hx | hx <;> rcases Nat.mod_two_eq_zero_or_one y with hy | hy <;> rw [hx, hy] at h
  · rw [if_neg (by omega), if_neg (by omega), if_neg (by omega)]
  · rw [if_pos (by omega), if_neg (by omega), if_pos (by omega), Nat.xor_assoc]
  · rw [if_pos (by omega), if_pos (by omega), if_neg (by omega), Nat.xor_assoc, Nat.xor_assoc, Nat.xor_comm 40961]
  · rw [if_neg (by omega), if_pos (by omega), if_pos (by omega), Nat.xor_assoc, xor_lc 40961, Nat.xor_self, Nat.xor_zero]
theorem bitT_two (z : Nat) : bitT (2 * z) = z := by
  unfold bitT
  rw [if_neg (by omega)]
  omega
theorem bitN_xor (k x y : Nat) : bitN k (x ^^^ y) = bitN k x ^^^ bitN k y := by
  induction k with
  | zero => rfl
  | succ k ih => rw [bitN, ih, bitT_xor]; rfl
theorem bitN_in (k r : Nat) : bitN (k + 1) r = bitN k (bitT r) := by
  induction k generalizing r with
  | zero => rfl
  | succ k ih => rw [bitN, ih]; rfl
theorem bitN_pow (k z : Nat) : bitN k (2 ^ k * z) = z := by
  induction k generalizing z with
  | zero => simp [bitN]
  | succ k ih => rw [bitN_in, show 2 ^ (k + 1) * z = 2 * (2 ^ k * z) by rw [Nat.pow_succ, Nat.mul_comm (2 ^ k) 2, Nat.mul_assoc], bitT_two, ih]
theorem xor_split (c k : Nat) : (c % 2 ^ k) ^^^ (2 ^ k * (c / 2 ^ k)) = c := by
  apply Nat.eq_of_testBit_eq
  intro i
  rw [Nat.testBit_xor, Nat.testBit_mod_two_pow, Nat.testBit_two_pow_mul, Nat.testBit_div_two_pow]
  by_cases h : i < k
  · have h2 : ¬ k ≤ i := by omega
    simp [h, h2]
  · have h2 : k ≤ i := by omega
    simp [h, h2]
theorem steps_bits (b c k : Nat) : bitN k (c ^^^ b) = stepD b k c ^^^ (b / 2 ^ k) := by
  induction k with
  | zero => simp [bitN, stepD]
  | succ k ih =>
    have h := xor_split (b / 2 ^ k) 1
    rw [Nat.pow_one] at h
    rw [bitN, ih, stepD]
    conv => lhs; rw [← h]
    rw [← Nat.xor_assoc, bitT_xor, bitT_two, Nat.div_div_eq_div_mul, Nat.pow_succ]
/-- The table's step. -/
def tabS (b : Nat) : Nat := bitN 8 b
def updS (c b : Nat) : Nat := (c / 256) ^^^ tabS ((c % 256) ^^^ b)
theorem upd_steps (c b : Nat) (hb : b < 256) : updS c b = stepD b 8 c := by
  have h := steps_bits b c 8
  have h0 : b / 2 ^ 8 = 0 := Nat.div_eq_of_lt (by omega)
  rw [h0, Nat.xor_zero] at h
  rw [← h]
  have hs := xor_split c 8
  conv => rhs; rw [← hs]
  have e : (c % 2 ^ 8) ^^^ (2 ^ 8 * (c / 2 ^ 8)) ^^^ b = ((c % 2 ^ 8) ^^^ b) ^^^ (2 ^ 8 * (c / 2 ^ 8)) := by
    rw [Nat.xor_assoc, Nat.xor_comm (2 ^ 8 * (c / 2 ^ 8)) b, ← Nat.xor_assoc]
  rw [e, bitN_xor, bitN_pow, updS, tabS, Nat.xor_comm]
theorem bitT_lt {r : Nat} (h : r < 65536) : bitT r < 65536 := by
  unfold bitT
  split
  · exact Nat.xor_lt_two_pow (n := 16) (by omega) (by omega)
  · omega
theorem bitN_lt (k : Nat) {r : Nat} (h : r < 65536) : bitN k r < 65536 := by
  induction k with
  | zero => exact h
  | succ k ih => exact bitT_lt ih
theorem updS_lt {c b : Nat} (hc : c < 65536) (hb : b < 256) : updS c b < 65536 :=
  Nat.xor_lt_two_pow (n := 16) (by omega) (bitN_lt 8 (Nat.lt_of_lt_of_le (Nat.xor_lt_two_pow (n := 8) (by omega) (by omega)) (by omega)))
theorem stepD_lt {b r : Nat} (h : r < 65536) : ∀ k, stepD b k r < 65536
  | 0 => h
  | k + 1 => bitT_lt (Nat.xor_lt_two_pow (n := 16) (stepD_lt h k) (by omega))
/-- The sum of bytes, on from r. -/
def sumS (r : Nat) (l : List Int) : Nat := l.foldl (fun r b => updS r b.toNat) r
theorem sumS_lt {r : Nat} {l : List Int} (h : r < 65536) (hl : ∀ x ∈ l, 0 ≤ x ∧ x ≤ 255) : sumS r l < 65536 := by
  induction l generalizing r with
  | nil => exact h
  | cons x t ih =>
    have hx := hl x (List.mem_cons_self ..)
    exact ih (updS_lt h (by omega)) (fun y hy => hl y (List.mem_cons_of_mem _ hy))
theorem sumS_take {r : Nat} {l : List Int} {k : Nat} (hk : k < l.length) : sumS r (l.take (k + 1)) = updS (sumS r (l.take k)) (l.getD k 0).toNat := by
  rw [List.take_add_one, List.getElem?_eq_getElem hk, sumS, List.foldl_append, List.getD_eq_getElem?_getD, List.getElem?_eq_getElem hk]
  rfl
theorem sumS_app (r : Nat) (l m : List Int) : sumS r (l ++ m) = sumS (sumS r l) m := by rw [sumS, List.foldl_append]; rfl
/-- Bytes with their sum behind come to 0. -/
theorem sum_own (r : Nat) (h : r < 65536) : sumS r [((r % 256 : Nat) : Int), ((r / 256 : Nat) : Int)] = 0 := by
  show updS (updS r ((r % 256 : Nat) : Int).toNat) ((r / 256 : Nat) : Int).toNat = 0
  rw [Int.toNat_natCast, Int.toNat_natCast]
  have h1 : updS r (r % 256) = r / 256 := by
    rw [updS, Nat.xor_self]
    show (r / 256) ^^^ bitN 8 0 = _
    rw [show bitN 8 0 = 0 by decide, Nat.xor_zero]
  rw [h1, updS, Nat.div_div_eq_div_mul, Nat.div_eq_of_lt (by omega), Nat.mod_eq_of_lt (by omega), Nat.xor_self]
  decide
/-- Two bytes behind that bring the sum to 0 are its own. -/
theorem sum_zero (r a b : Nat) (h : r < 65536) (ha : a < 256) (hb : b < 256) (hz : updS (updS r a) b = 0) : a = r % 256 ∧ b = r / 256 := by
  have inj : ∀ y : Nat, y < 256 → ∀ x : Nat, x < 256 → x ^^^ tabS y = 0 → y = 0 := by decide +kernel
  have inj2 : ∀ y : Nat, y < 256 → tabS y = 0 → y = 0 := by decide +kernel
  have hlo : ∀ y : Nat, y < 256 → tabS y / 256 = 0 → y = 0 := by decide +kernel
  have e : ∀ x y : Nat, x ^^^ y = 0 → x = y := fun x y h => by
    have := congrArg (x ^^^ ·) h
    simp only [xor_same, Nat.xor_zero] at this
    exact this.symm
  have hu := updS_lt h ha
  have h1 : updS r a / 256 = 0 ∧ (updS r a % 256) ^^^ b = 0 := by
    have h2 : (updS r a % 256) ^^^ b < 256 := Nat.xor_lt_two_pow (n := 8) (by omega) hb
    have h3 := inj _ h2 (updS r a / 256) (by omega) hz
    have h4 := hz
    rw [updS, h3, show tabS 0 = 0 by decide, Nat.xor_zero] at h4
    exact ⟨h4, h3⟩
  have h5 : updS r a = b := by
    have := e _ _ h1.2
    omega
  have h6 : (r / 256) ^^^ tabS ((r % 256) ^^^ a) = b := h5
  have h7 : (r % 256) ^^^ a < 256 := Nat.xor_lt_two_pow (n := 8) (by omega) ha
  have h8 : tabS ((r % 256) ^^^ a) = (r / 256) ^^^ b := by rw [← h6, xor_same]
  have h9 : (r / 256) ^^^ b < 256 := Nat.xor_lt_two_pow (n := 8) (by omega) hb
  have h10 := hlo _ h7 (by rw [h8]; omega)
  have h11 := e _ _ h10
  rw [h10, show tabS 0 = 0 by decide, Nat.xor_zero] at h6
  exact ⟨h11.symm, h6.symm⟩
theorem bits_xor_u16_nat (a b : Nat) (ha : a < 65536) (hb : b < 65536) : bits .xor .u16 (a : Int) (b : Int) = ((a ^^^ b : Nat) : Int) := by
  have hx : a ^^^ b < 2 ^ 16 := Nat.xor_lt_two_pow (by omega) (by omega)
  have h1 : (BitVec.ofInt 16 (a : Int)).toNat = a := by
    rw [BitVec.ofInt_natCast, BitVec.toNat_ofNat]; exact Nat.mod_eq_of_lt (by omega)
  have h2 : (BitVec.ofInt 16 (b : Int)).toNat = b := by
    rw [BitVec.ofInt_natCast, BitVec.toNat_ofNat]; exact Nat.mod_eq_of_lt (by omega)
  show IntKind.u16.wrap ((BitVec.ofInt 16 (a : Int) ^^^ BitVec.ofInt 16 (b : Int)).toNat : Int) = _
  rw [BitVec.toNat_xor, h1, h2, show ∀ n, IntKind.u16.wrap n = n % 65536 by intro n; simp [IntKind.wrap, IntKind.bits, IntKind.signed]]
  omega
theorem bits_xor_u8_nat (a b : Nat) (ha : a < 256) (hb : b < 256) : bits .xor .u8 (a : Int) (b : Int) = ((a ^^^ b : Nat) : Int) := by
  have hx : a ^^^ b < 2 ^ 8 := Nat.xor_lt_two_pow (by omega) (by omega)
  have h1 : (BitVec.ofInt 8 (a : Int)).toNat = a := by
    rw [BitVec.ofInt_natCast, BitVec.toNat_ofNat]; exact Nat.mod_eq_of_lt (by omega)
  have h2 : (BitVec.ofInt 8 (b : Int)).toNat = b := by
    rw [BitVec.ofInt_natCast, BitVec.toNat_ofNat]; exact Nat.mod_eq_of_lt (by omega)
  show IntKind.u8.wrap ((BitVec.ofInt 8 (a : Int) ^^^ BitVec.ofInt 8 (b : Int)).toNat : Int) = _
  rw [BitVec.toNat_xor, h1, h2, show ∀ n, IntKind.u8.wrap n = n % 256 by intro n; simp [IntKind.wrap, IntKind.bits, IntKind.signed]]
  omega
end Go.Proofs.Ytmpjdploacfmeaa
