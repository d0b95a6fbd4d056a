/- Contracts of the counters (package tally). -/
import Derived.Test.YtmpjdploacfmeabRows
import Derived.Test.YtmpjdploacfmeabBase2
namespace Go.Proofs.Ytmpjdploacfmeab
set_option linter.unusedSimpArgs false
set_option linter.unusedVariables false
open Go.RowKit

/-- The cells of a set of counters. -/
def tcells (c : List Int) : Array Value := (c.map (Value.int .u16) ++ [Value.bool true]).toArray
/-- Block b is a set of counters c. -/
def TS (w : World) (b : Nat) (c : List Int) : Prop := c.length = 8 ∧ (∀ x ∈ c, 0 ≤ x ∧ x < 65536) ∧ Blk w b 69 (tcells c)

theorem tcells_at (c : List Int) (h : c.length = 8) (i : Nat) (hi : i < 8) : (tcells c)[i]? = some (.int .u16 (c.getD i 0)) := by
  simp only [tcells, List.getElem?_toArray]
  rw [List.getElem?_append_left (by simp; omega)]
  simp [List.getElem?_map, List.getElem?_eq_getElem (show i < c.length by omega)]
theorem tcells_made (c : List Int) (h : c.length = 8) : (tcells c)[8]? = some (.bool true) := by
  simp only [tcells, List.getElem?_toArray]
  rw [List.getElem?_append_right (by simp; omega)]
  simp [h]
theorem tcells_set (c : List Int) (h : c.length = 8) (i : Nat) (hi : i < 8) (x : Int) : (tcells c).setIfInBounds i (.int .u16 x) = tcells (c.set i x) := by
  simp only [tcells, List.setIfInBounds_toArray]
  rw [List.set_append_left _ _ (by simp; omega), List.map_set]

section
variable {w : World} {b : Nat} {c : List Int}
theorem TS.cell (h : TS w b c) {i : Nat} (hi : i < 8) : w.cell? ⟨b, i, none⟩ = some (.int .u16 (c.getD i 0)) := (h.2.2.cell i).trans (tcells_at c h.1 i hi)
theorem TS.made (h : TS w b c) : w.cell? ⟨b, 8, none⟩ = some (.bool true) := (h.2.2.cell 8).trans (tcells_made c h.1)
end

set_option maxHeartbeats 400000 in
theorem tally_none_ok (b : Nat) (c : List Int) (w : World) (h : TS w b c) :
    Calls Try.prog 42 #[.pointer (some ⟨b, 0, none⟩)] w fun e w' => e = .returned (.bool false) ∧ w = w' := by
  have h8 := h.made
  go_enter Try.func42, Try.ntmps42
  go_wp2
  go_ret
  exact ⟨rfl, rfl⟩
set_option maxHeartbeats 400000 in
theorem tally_none_nil (w : World) :
    Calls Try.prog 42 #[.pointer none] w fun e w' => e = .returned (.bool true) ∧ w = w' := by
  go_enter Try.func42, Try.ntmps42
  go_wp2
  go_ret
  exact ⟨rfl, rfl⟩
set_option maxHeartbeats 400000 in
theorem tally_new (w : World) :
    Calls Try.prog 20 #[] w fun e w' => e = .returned (.pointer (some ⟨w.heap.size, 0, none⟩)) ∧ w' = w.alloc (.cells (tcells (List.replicate 8 0)) 69) := by
  go_enter Try.func20, Try.ntmps20
  go_wp2
  go_ret
  exact ⟨rfl, rfl⟩


theorem wrap_u16_add (x n : Int) (_h : 0 ≤ x) (_hn : 0 ≤ n) : IntKind.u16.wrap (x + n % 65536) = (x + n) % 65536 := by
  rw [IntKind.wrap_u16]; omega
set_option maxHeartbeats 400000 in
theorem counter_add (b i : Nat) (x n : Int) (w : World) (hc : w.cell? ⟨b, i, none⟩ = some (.int .u16 x)) (hf : w.frozen? ⟨b, i, none⟩ = false) (hn0 : 0 ≤ n) (hx : 0 ≤ x) :
    Calls Try.prog 41 #[.pointer (some ⟨b, i, none⟩), .int .i64 n] w fun e w' => e = .returned (.tuple #[]) ∧ w' = w.setCell ⟨b, i, none⟩ (.int .u16 ((x + n) % 65536)) := by
  go_enter Try.func41, Try.ntmps41
  go_wp2
  go_end0
  exact ⟨rfl, by rw [wrap_u16_add x n hx hn0]⟩
set_option maxHeartbeats 400000 in
theorem counter_drop (b i : Nat) (x n : Int) (w : World) (hc : w.cell? ⟨b, i, none⟩ = some (.int .u16 x)) (hf : w.frozen? ⟨b, i, none⟩ = false) :
    Calls Try.prog 48 #[.pointer (some ⟨b, i, none⟩), .int .i64 n] w fun e w' => e = .returned (.tuple #[]) ∧ w' = w.setCell ⟨b, i, none⟩ (.int .u16 0) := by
  go_enter Try.func48, Try.ntmps48
  go_wp2
  go_end0
  exact ⟨rfl, rfl⟩

/-- A counter is turned. -/
theorem TS.set_ {w : World} {b : Nat} {c : List Int} (h : TS w b c) {i : Nat} (hi : i < 8) {x : Int} (hx : 0 ≤ x ∧ x < 65536) : TS (w.setCell ⟨b, i, none⟩ (.int .u16 x)) b (c.set i x) :=
  ⟨by simp [h.1], fun y hy => by
    rcases List.mem_or_eq_of_mem_set hy with hy | rfl
    · exact h.2.1 y hy
    · exact hx, by rw [← tcells_set c h.1 i hi x]; exact h.2.2.set_ i _⟩
theorem TS.at_ {w : World} {b : Nat} {c : List Int} (h : TS w b c) (i : Nat) (hi : i < 8) : 0 ≤ c.getD i 0 ∧ c.getD i 0 < 65536 := by
  rw [List.getD_eq_getElem?_getD, List.getElem?_eq_getElem (show i < c.length by have := h.1; omega)]
  exact h.2.1 _ (List.getElem_mem _)

set_option maxHeartbeats 400000 in
theorem tally_get (b : Nat) (c : List Int) (i : Int) (w : World) (h : TS w b c) (h0 : 0 ≤ i) (h1 : i < 8) :
    Calls Try.prog 43 #[.pointer (some ⟨b, 0, none⟩), .int .i64 i] w fun e w' => e = .returned (.tuple #[.int .u16 (c.getD i.toNat 0), .bool true]) ∧ w = w' := by
  have hc := h.cell (i := i.toNat) (by omega)
  go_enter Try.func43, Try.ntmps43
  go_wp2_with (go_at_call 42; refine (tally_none_ok b c _ h).mono ?_; rintro e w' ⟨rfl, rfl⟩)
  go_ret2
  exact ⟨rfl, rfl⟩
set_option maxHeartbeats 400000 in
theorem tally_get_no (b : Nat) (c : List Int) (i : Int) (w : World) (h : TS w b c) (h1 : i < 0 ∨ 8 ≤ i) :
    Calls Try.prog 43 #[.pointer (some ⟨b, 0, none⟩), .int .i64 i] w fun e w' => e = .returned (.tuple #[.int .u16 0, .bool false]) ∧ w = w' := by
  rcases h1 with h1 | h1
  all_goals
    go_enter Try.func43, Try.ntmps43
    go_wp2_with (go_at_call 42; refine (tally_none_ok b c _ h).mono ?_; rintro e w' ⟨rfl, rfl⟩)
    go_ret2
    exact ⟨rfl, rfl⟩
set_option maxHeartbeats 400000 in
theorem tally_do_add (b : Nat) (c : List Int) (i n : Int) (w : World) (h : TS w b c) (h0 : 0 ≤ i) (h1 : i < 8) (hn : 0 ≤ n) :
    Calls Try.prog 40 #[.pointer (some ⟨b, 0, none⟩), .int .i64 i, .int .i64 n, .func (.func 41) #[] #[]] w fun e w' => e = .returned (.int .i64 0) ∧ w' = w.setCell ⟨b, i.toNat, none⟩ (.int .u16 ((c.getD i.toNat 0 + n) % 65536)) := by
  have hc := h.cell (i := i.toNat) (by omega)
  have hf := h.2.2.frozen i.toNat
  have hx := h.at_ i.toNat (by omega)
  go_enter Try.func40, Try.ntmps40
  go_wp2_with (first
    | (go_at_call 42; refine (tally_none_ok b c _ h).mono ?_; rintro e w' ⟨rfl, rfl⟩)
    | (go_at_call 41; refine (counter_add b i.toNat _ n _ hc hf hn hx.1).mono ?_; rintro e w' ⟨rfl, rfl⟩))
  go_ret
  exact ⟨rfl, rfl⟩

set_option maxHeartbeats 400000 in
theorem tally_do_drop (b : Nat) (c : List Int) (i n : Int) (w : World) (h : TS w b c) (h0 : 0 ≤ i) (h1 : i < 8) :
    Calls Try.prog 40 #[.pointer (some ⟨b, 0, none⟩), .int .i64 i, .int .i64 n, .func (.func 48) #[] #[]] w fun e w' => e = .returned (.int .i64 0) ∧ w' = w.setCell ⟨b, i.toNat, none⟩ (.int .u16 0) := by
  have hc := h.cell (i := i.toNat) (by omega)
  have hf := h.2.2.frozen i.toNat
  go_enter Try.func40, Try.ntmps40
  go_wp2_with (first
    | (go_at_call 42; refine (tally_none_ok b c _ h).mono ?_; rintro e w' ⟨rfl, rfl⟩)
    | (go_at_call 48; refine (counter_drop b i.toNat _ _ _ hc hf).mono ?_; rintro e w' ⟨rfl, rfl⟩))
  go_ret
  exact ⟨rfl, rfl⟩
set_option maxHeartbeats 400000 in
theorem tally_do_no (b : Nat) (c : List Int) (i n : Int) (f : Value) (w : World) (h : TS w b c) (h1 : i < 0 ∨ 8 ≤ i) :
    Calls Try.prog 40 #[.pointer (some ⟨b, 0, none⟩), .int .i64 i, .int .i64 n, f] w fun e w' => e = .returned (.int .i64 11) ∧ w = w' := by
  rcases h1 with h1 | h1
  all_goals
    go_enter Try.func40, Try.ntmps40
    go_wp2_with (first
      | (go_at_call 42; refine (tally_none_ok b c _ h).mono ?_; rintro e w' ⟨rfl, rfl⟩))
    go_ret
    exact ⟨rfl, rfl⟩
set_option maxHeartbeats 400000 in
theorem tally_do_nil (i n : Int) (f : Value) (w : World) :
    Calls Try.prog 40 #[.pointer none, .int .i64 i, .int .i64 n, f] w fun e w' => e = .returned (.int .i64 11) ∧ w = w' := by
  go_enter Try.func40, Try.ntmps40
  go_wp2_with (go_at_call 42; refine (tally_none_nil _).mono ?_; rintro e w' ⟨rfl, rfl⟩)
  go_ret
  exact ⟨rfl, rfl⟩

/-- What Add leaves. -/
def addErr (i n : Int) : Int := if 0 ≤ i ∧ i < 8 ∧ 0 ≤ n ∧ n ≤ 65536 then 0 else 11
def dropErr (i : Int) : Int := if 0 ≤ i ∧ i < 8 then 0 else 11
def addTo (c : List Int) (i n : Int) : List Int := if 0 ≤ i ∧ i < 8 ∧ 0 ≤ n ∧ n ≤ 65536 then c.set i.toNat ((c.getD i.toNat 0 + n) % 65536) else c
def dropOf (c : List Int) (i : Int) : List Int := if 0 ≤ i ∧ i < 8 then c.set i.toNat 0 else c

set_option maxHeartbeats 400000 in
theorem tally_add (b : Nat) (c : List Int) (i n : Int) (w : World) (h : TS w b c) :
    Calls Try.prog 26 #[.pointer (some ⟨b, 0, none⟩), .int .i64 i, .int .i64 n] w fun e w' =>
      e = .returned (.int .i64 (addErr i n)) ∧ TS w' b (addTo c i n) ∧ Fr (· = b) w w' := by
  by_cases hn : 0 ≤ n ∧ n ≤ 65536
  · obtain ⟨hn0, hn1⟩ := hn
    by_cases hi : 0 ≤ i ∧ i < 8
    · obtain ⟨h0, h1⟩ := hi
      have hx := h.at_ i.toNat (by omega)
      go_enter Try.func26, Try.ntmps26
      go_wp2_with (go_at_call 40; refine (tally_do_add b c i n _ h h0 h1 hn0).mono ?_; rintro e w' ⟨rfl, rfl⟩)
      go_ret
      refine ⟨by unfold addErr; rw [if_pos ⟨h0, h1, hn0, hn1⟩]; rfl, ?_, (Fr.refl (· = b) _).set_ (.inl rfl) _⟩
      unfold addTo
      rw [if_pos ⟨h0, h1, hn0, hn1⟩]
      exact h.set_ (by omega) ⟨by omega, by omega⟩
    · have h1 : i < 0 ∨ 8 ≤ i := by omega
      go_enter Try.func26, Try.ntmps26
      go_wp2_with (go_at_call 40; refine (tally_do_no b c i n _ _ h h1).mono ?_; rintro e w' ⟨rfl, rfl⟩)
      go_ret
      refine ⟨by unfold addErr; rw [if_neg (by omega)]; rfl, ?_, Fr.refl _ _⟩
      unfold addTo
      rw [if_neg (by omega)]
      exact h
  · have h1 : n < 0 ∨ 65536 < n := by omega
    rcases h1 with h1 | h1
    all_goals
      go_enter Try.func26, Try.ntmps26
      go_wp2
      go_ret
      refine ⟨by unfold addErr; rw [if_neg (by omega)]; rfl, ?_, Fr.refl _ _⟩
      unfold addTo
      rw [if_neg (by omega)]
      exact h
set_option maxHeartbeats 400000 in
theorem tally_drop (b : Nat) (c : List Int) (i : Int) (w : World) (h : TS w b c) :
    Calls Try.prog 46 #[.pointer (some ⟨b, 0, none⟩), .int .i64 i] w fun e w' =>
      e = .returned (.int .i64 (dropErr i)) ∧ TS w' b (dropOf c i) ∧ Fr (· = b) w w' := by
  by_cases hi : 0 ≤ i ∧ i < 8
  · obtain ⟨h0, h1⟩ := hi
    go_enter Try.func46, Try.ntmps46
    go_wp2_with (go_at_call 40; refine (tally_do_drop b c i _ _ h h0 h1).mono ?_; rintro e w' ⟨rfl, rfl⟩)
    go_ret
    refine ⟨by unfold dropErr; rw [if_pos ⟨h0, h1⟩]; rfl, ?_, (Fr.refl (· = b) _).set_ (.inl rfl) _⟩
    unfold dropOf
    rw [if_pos ⟨h0, h1⟩]
    exact h.set_ (by omega) ⟨by omega, by omega⟩
  · have h1 : i < 0 ∨ 8 ≤ i := by omega
    go_enter Try.func46, Try.ntmps46
    go_wp2_with (go_at_call 40; refine (tally_do_no b c i _ _ _ h h1).mono ?_; rintro e w' ⟨rfl, rfl⟩)
    go_ret
    refine ⟨by unfold dropErr; rw [if_neg (by omega)]; rfl, ?_, Fr.refl _ _⟩
    unfold dropOf
    rw [if_neg (by omega)]
    exact h

theorem eight {c : List Int} (h : c.length = 8) : ∃ c0 c1 c2 c3 c4 c5 c6 c7, c = [c0, c1, c2, c3, c4, c5, c6, c7] := by
  match c, h with
  | [c0, c1, c2, c3, c4, c5, c6, c7], _ => exact ⟨c0, c1, c2, c3, c4, c5, c6, c7, rfl⟩
theorem tcells_lit (c0 c1 c2 c3 c4 c5 c6 c7 : Int) : tcells [c0, c1, c2, c3, c4, c5, c6, c7] = #[.int .u16 c0, .int .u16 c1, .int .u16 c2, .int .u16 c3, .int .u16 c4, .int .u16 c5, .int .u16 c6, .int .u16 c7, .bool true] := rfl

set_option maxHeartbeats 400000 in
theorem tally_clear (b : Nat) (c : List Int) (w : World) (h : TS w b c) :
    Calls Try.prog 45 #[.pointer (some ⟨b, 0, none⟩)] w fun e w' => e = .returned (.tuple #[]) ∧ TS w' b (List.replicate 8 0) ∧ Fr (· = b) w w' := by
  obtain ⟨c0, c1, c2, c3, c4, c5, c6, c7, rfl⟩ := eight h.1
  have hB := h.2.2
  rw [tcells_lit] at hB
  have hb := hB.cell
  have hfz := hB.frozen
  have HB := Lib.hid hB
  clear hB
  go_enter Try.func45, Try.ntmps45
  go_wp2_with (go_at_call 42; refine (tally_none_ok b _ _ h).mono ?_; rintro e w' ⟨rfl, rfl⟩)
  go_end0
  refine ⟨rfl, ⟨rfl, by simp, ?_⟩, ?_⟩
  · have hE := (((((((HB.out.set_ 0 (.int .u16 0)).set_ 1 (.int .u16 0)).set_ 2 (.int .u16 0)).set_ 3 (.int .u16 0)).set_ 4 (.int .u16 0)).set_ 5 (.int .u16 0)).set_ 6 (.int .u16 0)).set_ 7 (.int .u16 0)
    simp only [List.setIfInBounds_toArray, List.set_cons_zero, List.set_cons_succ] at hE
    exact hE
  · exact (((((((((Fr.refl (· = b) _).set_ (.inl rfl) _).set_ (.inl rfl) _).set_ (.inl rfl) _).set_ (.inl rfl) _).set_ (.inl rfl) _).set_ (.inl rfl) _).set_ (.inl rfl) _).set_ (.inl rfl) _)
set_option maxHeartbeats 400000 in
theorem tally_clone (b : Nat) (c : List Int) (w : World) (h : TS w b c) :
    Calls Try.prog 27 #[.pointer (some ⟨b, 0, none⟩)] w fun e w' => e = .returned (.pointer (some ⟨w.heap.size, 0, none⟩)) ∧ TS w' w.heap.size c ∧ Fr nob w w' := by
  have h' := h
  obtain ⟨c0, c1, c2, c3, c4, c5, c6, c7, rfl⟩ := eight h.1
  have hB := h.2.2
  rw [tcells_lit] at hB
  have hb := hB.cell
  clear hB
  go_enter Try.func27, Try.ntmps27
  go_wp2_with (go_at_call 42; refine (tally_none_ok b _ _ h).mono ?_; rintro e w' ⟨rfl, rfl⟩)
  go_ret
  exact ⟨rfl, ⟨rfl, h'.2.1, Blk.new _ _ _⟩, (Fr.refl _ _).alloc _⟩
theorem u16_info : (Try.prog.info? 36).map (fun i => (i.zero, i.size, i.bytes)) = some (some (.int .u16 0), 1, 2) := by kernel_rfl
set_option maxHeartbeats 400000 in
theorem index8 (c0 c1 c2 c3 c4 c5 c6 c7 : Int) (k : Nat) (hk : k < 8) (w : World) :
    (Instr.index 67 (.agg #[.int .u16 c0, .int .u16 c1, .int .u16 c2, .int .u16 c3, .int .u16 c4, .int .u16 c5, .int .u16 c6, .int .u16 c7]) (.int .i64 k)).run Try.prog w = .ok (.int .u16 ([c0, c1, c2, c3, c4, c5, c6, c7].getD k 0)) w := by
  match k, hk with
  | 0, _ => simp [Instr.index, run_underlying Try.underlying67, run_underlying Try.underlying66, asIntOf, part, isAgg, go_sem]
  | 1, _ => simp [Instr.index, run_underlying Try.underlying67, run_underlying Try.underlying66, asIntOf, part, isAgg, go_sem]
  | 2, _ => simp [Instr.index, run_underlying Try.underlying67, run_underlying Try.underlying66, asIntOf, part, isAgg, go_sem]
  | 3, _ => simp [Instr.index, run_underlying Try.underlying67, run_underlying Try.underlying66, asIntOf, part, isAgg, go_sem]
  | 4, _ => simp [Instr.index, run_underlying Try.underlying67, run_underlying Try.underlying66, asIntOf, part, isAgg, go_sem]
  | 5, _ => simp [Instr.index, run_underlying Try.underlying67, run_underlying Try.underlying66, asIntOf, part, isAgg, go_sem]
  | 6, _ => simp [Instr.index, run_underlying Try.underlying67, run_underlying Try.underlying66, asIntOf, part, isAgg, go_sem]
  | 7, _ => simp [Instr.index, run_underlying Try.underlying67, run_underlying Try.underlying66, asIntOf, part, isAgg, go_sem]

theorem take_snoc_getD (c : List Int) (k : Nat) (h : k < c.length) : (c.take (k + 1)).map (Value.int .u16) = (c.take k).map (Value.int .u16) ++ [Value.int .u16 (c.getD k 0)] := by
  rw [List.take_succ_eq_append_getElem h, List.map_append]
  simp [List.getD_eq_getElem?_getD, List.getElem?_eq_getElem h]
/-- New memory that is just the words c. -/
def NewWords (w w' : World) (v : Value) (c : List Int) : Prop := w'.ownsRow w.heap.size 36 1 v c.length (c.map (Value.int .u16)) ∧ Fr nob w w'
set_option maxHeartbeats 400000 in
theorem tally_all (b : Nat) (c : List Int) (w : World) (h : TS w b c) :
    Calls Try.prog 28 #[.pointer (some ⟨b, 0, none⟩)] w fun e w' => ∃ A cp, e = .returned (.slice A 8 cp) ∧ NewWords w w' (.slice A 8 cp) c := by
  have h' := h
  obtain ⟨c0, c1, c2, c3, c4, c5, c6, c7, hc⟩ := eight h.1
  have hB := h.2.2
  rw [hc, tcells_lit] at hB
  have hb := hB.cell
  have hix := fun (k : Nat) (hk : k < 8) (w : World) => index8 c0 c1 c2 c3 c4 c5 c6 c7 k hk w
  rw [← hc] at hix
  have hlen := h.1
  have HC := Lib.hid hc
  have HL := Lib.hid hlen
  clear hB hc hlen
  go_enter Try.func28, Try.ntmps28
  go_wp2_with (first | (go_at_call 42; refine (tally_none_ok b _ _ h).mono ?_; rintro e w' ⟨rfl, rfl⟩) | fail)
  clear hb
  go_loopw [2, 11] (fun v i wr => ∃ k : Nat, k ≤ 8 ∧ i = .int .i64 k ∧ wr.ownsRow w.heap.size 36 1 v k ((c.take k).map (Value.int .u16)) ∧ Fr nob w wr) (fun _ i _ => 8 - (intOf i).toNat)
  case atStart => exact ⟨0, by omega, rfl, World.ownsRow_nil _ _ _ _, Fr.refl _ _⟩
  case round =>
    obtain ⟨k, hk, rfl, hown, hfr⟩ := hrel
    by_cases hlt : k < 8
    · have hx := hix k hlt
      clear hix
      go_wp2_with (first
        | (at_builtin; (refine app_one w.heap.size rfl _ _ _ 36 _ 1 2 rfl Try.underlying34 u16_info rfl (by omega) u2 k _ _ rfl rfl rfl (by simp [Value.oneCell']) hown hfr.size (by omega) (by omega) ?_); intro v1 w1 hown1 hg1 hat1))
      go_roundw
      case rel =>
        refine ⟨k + 1, by omega, by go_num, ?_, ?_⟩
        · rw [take_snoc_getD c k (by rw [HL.out]; omega)]
          simpa using hown1
        · exact hfr.grown hg1 (fun j hj => .inr ((hown.lt j hj).1))
      case measure => simp [intOf]; omega
    · obtain rfl : k = 8 := by omega
      go_wp2
      rw [List.take_of_length_le (by rw [HL.out]; omega)] at hown
      have hown' : NewWords w wr u2 c := ⟨by rw [HL.out]; exact hown, hfr⟩
      obtain ⟨A, cp, rfl, _⟩ := own_form hown
      go_ret
      exact ⟨_, _, rfl, hown'⟩
set_option maxHeartbeats 400000 in
theorem tally_all_nil (w : World) :
    Calls Try.prog 28 #[.pointer none] w fun e w' => e = .returned (.slice none 0 0) ∧ w = w' := by
  go_enter Try.func28, Try.ntmps28
  go_wp2_with (first | (go_at_call 42; refine (tally_none_nil _).mono ?_; rintro e w' ⟨rfl, rfl⟩))
  go_ret
  exact ⟨rfl, rfl⟩
set_option maxHeartbeats 400000 in
theorem tally_get_nil (i : Int) (w : World) :
    Calls Try.prog 43 #[.pointer none, .int .i64 i] w fun e w' => e = .returned (.tuple #[.int .u16 0, .bool false]) ∧ w = w' := by
  go_enter Try.func43, Try.ntmps43
  go_wp2_with (first | (go_at_call 42; refine (tally_none_nil _).mono ?_; rintro e w' ⟨rfl, rfl⟩))
  go_ret2
  exact ⟨rfl, rfl⟩
set_option maxHeartbeats 400000 in
theorem tally_add_nil (i n : Int) (w : World) :
    Calls Try.prog 26 #[.pointer none, .int .i64 i, .int .i64 n] w fun e w' => e = .returned (.int .i64 11) ∧ w = w' := by
  by_cases hn : n < 0
  · go_enter Try.func26, Try.ntmps26
    go_wp2
    go_ret
    exact ⟨rfl, rfl⟩
  · by_cases hn2 : 65536 < n
    all_goals
      go_enter Try.func26, Try.ntmps26
      go_wp2_with (first | (go_at_call 40; refine (tally_do_nil _ _ _ _).mono ?_; rintro e w' ⟨rfl, rfl⟩))
      go_ret
      exact ⟨rfl, rfl⟩
end Go.Proofs.Ytmpjdploacfmeab
