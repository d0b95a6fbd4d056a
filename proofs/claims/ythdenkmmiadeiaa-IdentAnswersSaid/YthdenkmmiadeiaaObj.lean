/- Objects (api.Object) as they lie, and the contracts of what goes over them. -/
import Derived.Test.YthdenkmmiadeiaaRows
import Derived.Test.YthdenkmmiadeiaaNums
import Derived.Test.YthdenkmmiadeiaaOwn
import Derived.Test.YthdenkmmiadeiaaClone
import Derived.Lib.SliceRun
namespace Go.Proofs.Ythdenkmmiadeiaa
set_option linter.unusedSimpArgs false
set_option linter.unusedVariables false
open Go.RowKit

/-- An object as it lies. -/
structure Ob where
  id : Int
  A : Option Addr
  n : Nat
  c : Nat
  d : List Int
def Ob.cs (x : Ob) : List Value := [.int .i64 x.id, .slice x.A x.n x.c]
def Ob.val (x : Ob) : Value := .agg #[.int .i64 x.id, .slice x.A x.n x.c]
/-- What an object says. -/
def Ob.s (x : Ob) : Int × List Int := (x.id, x.d)
def Ob.ok (w : World) (x : Ob) : Prop := Rd w 1 x.A x.n (nums .u8 x.d) ∧ x.n ≤ x.c ∧ x.c ≤ 9223372036854775807
structure Obs (w : World) (A : Option Addr) (n : Nat) (L : List Ob) : Prop where
  rd : Rd w 2 A n (L.flatMap Ob.cs)
  ok : ∀ x ∈ L, x.ok w
theorem Ob.cs_len (x : Ob) : x.cs.length = 2 := rfl
section
variable {w w' : World} {A : Option Addr} {n : Nat} {L : List Ob}
theorem Ob.ok.nob {x : Ob} (h : x.ok w) (hf : Fr nob w w') : x.ok w' := ⟨h.1.nob hf, h.2⟩
theorem Ob.ok.alloc {x : Ob} (h : x.ok w) (o : Obj) : x.ok (w.alloc o) := h.nob ((Fr.refl _ _).alloc o)
theorem Obs.nob (h : Obs w A n L) (hf : Fr nob w w') : Obs w' A n L := ⟨h.rd.nob hf, fun x hx => (h.ok x hx).nob hf⟩
theorem Obs.len (h : Obs w A n L) : L.length = n := by
  have := h.rd.1
  rw [flat_len Ob.cs 2 L Ob.cs_len] at this
  omega
theorem Obs.at_ (h : Obs w A n L) {k : Nat} (hk : k < n) : ∃ b o x, A = some ⟨b, o, none⟩ ∧ b < w.heap.size ∧ L[k]? = some x ∧ w.cell? ⟨b, o + k * 2, none⟩ = some (.int .i64 x.id) ∧ w.cell? ⟨b, o + k * 2 + 1, none⟩ = some (.slice x.A x.n x.c) ∧ x.ok w := by
  obtain ⟨b, o, x, e, hb, hx, hc⟩ := h.rd.row Ob.cs_len (by omega) hk
  exact ⟨b, o, x, e, hb, hx, hc 0 _ rfl, hc 1 _ rfl, h.ok x (List.mem_of_getElem? hx)⟩
theorem Ob.ok.len {x : Ob} (h : x.ok w) : x.d.length = x.n := h.1.numlen
end

set_option maxHeartbeats 400000 in
theorem equal_bytes (A B : Option Addr) (n m c d : Nat) (la lb : List Int) (w : World) (ha : Rd w 1 A n (nums .u8 la)) (hb : Rd w 1 B m (nums .u8 lb)) (hn : n ≤ 9223372036854775807) (hm : m ≤ 9223372036854775807) :
    Calls Try.prog 66 #[.slice A n c, .slice B m d] w fun e w' => e = .returned (.bool (sameInts la lb)) ∧ ∃ k, w' = w.drewN k := by
  have hla := ha.numlen
  have hlb := hb.numlen
  by_cases hnm : n = m
  · obtain rfl := hnm
    have HA := Lib.hid hla
    have HB := Lib.hid hlb
    clear hla hlb
    have hne : ((n : Int) != (n : Int)) = false := by rw [bne_self_eq_false]
    go_enter Try.func66, Try.ntmps66
    go_wp2
    go_loopw [13] (fun i wr => ∃ k : Nat, k ≤ n ∧ i = .int .i64 k ∧ (∃ q, wr = w.drewN q) ∧ Hid (∀ j, j < k → la.getD j 0 = lb.getD j 0)) (fun i _ => n - (intOf i).toNat)
    case atStart => exact ⟨0, by omega, rfl, ⟨0, rfl⟩, fun j hj => absurd hj (by omega)⟩
    case round =>
      obtain ⟨k, hk, rfl, ⟨q, rfl⟩, heq⟩ := hrel
      by_cases hlt : k < n
      · obtain ⟨ab, ao, rfl, hadb, hxc⟩ := ha.num hlt
        obtain ⟨bb, bo, rfl, hbdb, hyc⟩ := hb.num hlt
        obtain ⟨x, hx⟩ : ∃ x, x = la.getD k 0 := ⟨_, rfl⟩
        obtain ⟨y, hy⟩ : ∃ y, y = lb.getD k 0 := ⟨_, rfl⟩
        rw [← hx] at hxc
        rw [← hy] at hyc
        have HX := Lib.hid hx
        have HY := Lib.hid hy
        clear hx hy
        have hi0 : (0 : Int) ≤ (k : Int) ∧ (k : Int) < (n : Int) := ⟨by omega, by omega⟩
        by_cases hxy : x = y
        · have hb1 : (x != y) = false := by rw [hxy, bne_self_eq_false]
          have HXY := Lib.hid hxy
          clear hxy
          go_wp2
          go_quiet (fail)
          go_wp2
          go_roundw
          case rel =>
            refine ⟨k + 1, by omega, by go_num, ⟨_, rfl⟩, fun j hj => ?_⟩
            rcases Nat.lt_or_ge j k with h | h
            · exact heq.out j h
            · obtain rfl : j = k := by omega
              rw [← HX.out, ← HY.out, HXY.out]
          case measure => simp [intOf]; omega
        · have hb1 : (x != y) = true := by rw [bne_iff_ne]; exact hxy
          go_wp2
          go_quiet (fail)
          go_wp2
          go_ret
          refine ⟨?_, _, World.drewN_drewN ..⟩
          have : sameInts la lb = false := decide_eq_false (getD_ne (k := k) (by rw [← HX.out, ← HY.out]; exact hxy))
          rw [this]; rfl
      · obtain rfl : k = n := by omega
        go_wp2
        go_ret
        refine ⟨?_, _, rfl⟩
        have : sameInts la lb = true := decide_eq_true (eq_of_getD (by rw [HA.out, HB.out]) (fun j hj => heq.out j (by rw [HA.out] at hj; exact hj)))
        rw [this]; rfl
  · have hne : ((n : Int) != (m : Int)) = true := by rw [bne_iff_ne]; omega
    go_enter Try.func66, Try.ntmps66
    go_wp2
    go_ret
    exact ⟨by rw [sameInts_len (by omega)]; rfl, 0, rfl⟩

/-- copied: the object in new memory. -/
def Ob.newAt (w w' : World) (y : Ob) : Prop := w'.ownsRow w.heap.size 5 1 (.slice y.A y.n y.c) y.n (nums .u8 y.d)
theorem Ob.newAt.ok {w w' : World} {y : Ob} (h : y.newAt w w') : y.ok w' := by
  obtain ⟨A, c, e, hc, _⟩ := own_form h
  have hm := own_cap h
  injection e with e1 e2 e3
  exact ⟨Rd.of_own h, by omega, hm⟩
set_option maxHeartbeats 400000 in
set_option maxRecDepth 100000 in
theorem copied_any (x : Ob) (w : World) (hx : x.ok w) (hs : x.n ≤ 100000) :
    Calls Try.prog 63 #[x.val] w fun e w' => ∃ y : Ob, e = .returned y.val ∧ y.s = x.s ∧ y.n = x.n ∧ y.newAt w w' ∧ Fr nob w w' := by
  obtain ⟨oid, A, n, c, d⟩ := x
  obtain ⟨hr, hc, hm⟩ := hx
  simp only at hr hc hm hs
  have hb0 := (Blk.new w 49 #[.int .i64 oid, .slice A n c]).alloc (.cells #[.int .i64 0, .slice none 0 0] 49)
  have hb1 := Blk.new (w.alloc (.cells #[.int .i64 oid, .slice A n c] 49)) 49 #[.int .i64 0, .slice none 0 0]
  have hr2 := (hr.alloc (.cells #[.int .i64 oid, .slice A n c] 49)).alloc (.cells #[.int .i64 0, .slice none 0 0] 49)
  rw [World.size_alloc] at hb1
  have hf2 := ((Fr.refl nob w).alloc (.cells #[.int .i64 oid, .slice A n c] 49)).alloc (.cells #[.int .i64 0, .slice none 0 0] 49)
  obtain ⟨w2, hw2⟩ : ∃ w2, w2 = (w.alloc (.cells #[.int .i64 oid, .slice A n c] 49)).alloc (.cells #[.int .i64 0, .slice none 0 0] 49) := ⟨_, rfl⟩
  have hz2 : w2.heap.size = w.heap.size + 2 := by rw [hw2]; simp
  rw [← hw2] at hb0 hb1 hr2 hf2
  have c0 : ∀ i, w2.cell? ⟨w.heap.size, i, none⟩ = #[Value.int .i64 oid, .slice A n c][i]? := fun i => hb0.cell i
  have z0 : ∀ i, w2.frozen? ⟨w.heap.size, i, none⟩ = false := fun i => hb0.frozen i
  have H2 := Lib.hid hw2
  simp only [Ob.val]
  go_enter Try.func63, Try.ntmps63
  go_wp2_with fail
  rw [← hw2]
  refine (clone_bytes A n c d _ hr2 hc hs).mono ?_
  rintro e w3 ⟨A', c', rfl, hown3, hf3⟩
  have hk0 := hb0.fr hf3 id
  have hk1 := hb1.fr hf3 id
  have q0 : ∀ i, w3.cell? ⟨w.heap.size, i, none⟩ = #[Value.int .i64 oid, .slice A n c][i]? := fun i => hk0.cell i
  have q1 : ∀ i, w3.frozen? ⟨w.heap.size, i, none⟩ = false := fun i => hk0.frozen i
  have q2 : ∀ i, w3.cell? ⟨w.heap.size + 1, i, none⟩ = #[Value.int .i64 0, .slice none 0 0][i]? := fun i => hk1.cell i
  have q3 : ∀ i, w3.frozen? ⟨w.heap.size + 1, i, none⟩ = false := fun i => hk1.frozen i
  go_wp2_with fail
  have k4 : Blk (((w3.setCell ⟨w.heap.size, 1, none⟩ (.slice A' n c')).setCell ⟨w.heap.size + 1, 0, none⟩ (.int .i64 oid)).setCell ⟨w.heap.size + 1, 1, none⟩ (.slice A' n c')) (w.heap.size + 1) 49 #[.int .i64 oid, .slice A' n c'] := by
    have := ((hk1.far (p := ⟨w.heap.size, 1, none⟩) (by simp) (.slice A' n c')).set_ 0 (.int .i64 oid)).set_ 1 (.slice A' n c')
    simpa using this
  have f4 : Fr (fun b => b = w.heap.size ∨ b = w.heap.size + 1) w3 (((w3.setCell ⟨w.heap.size, 1, none⟩ (.slice A' n c')).setCell ⟨w.heap.size + 1, 0, none⟩ (.int .i64 oid)).setCell ⟨w.heap.size + 1, 1, none⟩ (.slice A' n c')) :=
    (((Fr.refl _ _).set_ (.inl (.inl rfl)) _).set_ (.inl (.inr rfl)) _).set_ (.inl (.inr rfl)) _
  obtain ⟨w4, hw4⟩ : ∃ w4, w4 = (((w3.setCell ⟨w.heap.size, 1, none⟩ (.slice A' n c')).setCell ⟨w.heap.size + 1, 0, none⟩ (.int .i64 oid)).setCell ⟨w.heap.size + 1, 1, none⟩ (.slice A' n c')) := ⟨_, rfl⟩
  rw [← hw4] at k4 f4 ⊢
  have q4 : ∀ i, w4.cell? ⟨w.heap.size + 1, i, none⟩ = #[Value.int .i64 oid, .slice A' n c'][i]? := fun i => k4.cell i
  refine bodyPost_ret (v := .agg #[.int .i64 oid, .slice A' n c']) (by simp [results, Try.results63, go_sem, q4]) rfl ?_
  refine ⟨⟨oid, A', n, c', d⟩, rfl, rfl, rfl, own_base (own_fr hown3 f4 (fun k hk => ?_)) (by omega), ?_⟩
  · rcases own_at hown3 k hk with h
    omega
  · have := (hf2.trans hf3 (fun _ _ h => h)).more (T := nob) (fun _ h => h)
    exact ⟨f4.os.trans this.os, f4.tape.trans this.tape, f4.output.trans this.output, Nat.le_trans this.size f4.size, fun i hi hn => (f4.block i (Nat.lt_of_lt_of_le hi this.size) (by omega)).trans (this.block i hi hn)⟩
end Go.Proofs.Ythdenkmmiadeiaa
