/- Contracts of what the line is asked (package diag): the state. -/
import Derived.Test.YtmpjdploacfmeabTally
import Derived.Test.YtmpjdploacfmeabWord
namespace Go.Proofs.Ytmpjdploacfmeab
set_option linter.unusedSimpArgs false
set_option linter.unusedVariables false
open Go.RowKit

/-- The cells of a state. -/
def dcells (tb : Nat) (r : Int) (ls : Bool) (dl : Int) : Array Value := #[.pointer (some ⟨tb, 0, none⟩), .int .u16 r, .bool ls, .int .u8 dl]
/-- Block b is a state: its counters c in block tb, its register, whether it listens only, its byte. -/
def DS (w : World) (b tb : Nat) (c : List Int) (r : Int) (ls : Bool) (dl : Int) : Prop :=
  Blk w b 53 (dcells tb r ls dl) ∧ TS w tb c ∧ (0 ≤ r ∧ r ≤ 65535) ∧ (0 ≤ dl ∧ dl ≤ 255)
section
variable {w w' : World} {b tb : Nat} {c : List Int} {r dl : Int} {ls : Bool}
theorem DS.at_ (h : DS w b tb c r ls dl) (i : Nat) : w.cell? ⟨b, i, none⟩ = #[Value.pointer (some ⟨tb, 0, none⟩), .int .u16 r, .bool ls, .int .u8 dl][i]? := h.1.cell i
theorem DS.lt (h : DS w b tb c r ls dl) : b < w.heap.size := h.1.lt
theorem DS.fr {S : Nat → Prop} (h : DS w b tb c r ls dl) (hf : Fr S w w') (hb : ¬ S b) (ht : ¬ S tb) : DS w' b tb c r ls dl := ⟨h.1.fr hf hb, ⟨h.2.1.1, h.2.1.2.1, h.2.1.2.2.fr hf ht⟩, h.2.2⟩
theorem DS.nob (h : DS w b tb c r ls dl) (hf : Fr nob w w') : DS w' b tb c r ls dl := h.fr hf (fun h => h) (fun h => h)
end

set_option maxHeartbeats 400000 in
theorem diag_none_ok (b tb : Nat) (c : List Int) (r dl : Int) (ls : Bool) (w : World) (h : DS w b tb c r ls dl) :
    Calls Try.prog 21 #[.pointer (some ⟨b, 0, none⟩)] w fun e w' => e = .returned (.bool false) ∧ w' = w := by
  have q := h.at_
  go_enter Try.func21, Try.ntmps21
  go_wp2
  go_ret
  exact ⟨rfl, rfl⟩
set_option maxHeartbeats 400000 in
theorem diag_none_nil (w : World) : Calls Try.prog 21 #[.pointer none] w fun e w' => e = .returned (.bool true) ∧ w' = w := by
  go_enter Try.func21, Try.ntmps21
  go_wp2
  go_ret
  exact ⟨rfl, rfl⟩
set_option maxHeartbeats 400000 in
theorem diag_new (w : World) : Calls Try.prog 6 #[] w fun e w' => ∃ b tb, e = .returned (.pointer (some ⟨b, 0, none⟩)) ∧ DS w' b tb (List.replicate 8 0) 0 false 10 ∧ Fr nob w w' ∧ w.heap.size ≤ b ∧ w.heap.size ≤ tb := by
  have ht := Blk.new w 69 (tcells (List.replicate 8 0))
  have hf := (Fr.refl nob w).alloc (.cells (tcells (List.replicate 8 0)) 69)
  have hz := World.size_alloc w (.cells (tcells (List.replicate 8 0)) 69)
  go_enter Try.func6, Try.ntmps6
  go_wp2_with fail
  refine (tally_new _).mono ?_
  rintro e w1 ⟨rfl, hw1⟩
  rw [← hw1] at ht hf hz
  clear hw1
  have hb := Blk.new w1 53 (dcells w.heap.size 0 false 10)
  rw [hz] at hb
  go_wp2_with fail
  go_ret
  refine ⟨w.heap.size + 1, w.heap.size, rfl, ⟨hb, ⟨by simp, by simp, ht.alloc _⟩, by omega, by omega⟩, hf.alloc _, by omega, by omega⟩
set_option maxHeartbeats 400000 in
theorem diag_count (b tb : Nat) (c : List Int) (r dl i : Int) (ls : Bool) (w : World) (h : DS w b tb c r ls dl) :
    Calls Try.prog 8 #[.pointer (some ⟨b, 0, none⟩), .int .i64 i] w fun e w' => e = .returned (.int .i64 (addErr i 1)) ∧ DS w' b tb (addTo c i 1) r ls dl ∧ Fr (fun k => k = tb) w w' := by
  have q := h.at_
  have hne : b ≠ tb := h.1.ne_ h.2.1.2.2 (by decide)
  go_enter Try.func8, Try.ntmps8
  go_wp2_with fail
  refine (diag_none_ok b tb c r dl ls _ h).mono ?_
  rintro e w1 ⟨rfl, rfl⟩
  go_wp2_with fail
  refine (tally_add tb c i 1 _ h.2.1).mono ?_
  rintro e w2 ⟨rfl, hts, hf⟩
  go_wp2_with fail
  go_ret
  exact ⟨rfl, ⟨h.1.fr hf hne, hts, h.2.2⟩, hf⟩
set_option maxHeartbeats 400000 in
theorem diag_listening (b tb : Nat) (c : List Int) (r dl : Int) (ls : Bool) (w : World) (h : DS w b tb c r ls dl) :
    Calls Try.prog 12 #[.pointer (some ⟨b, 0, none⟩)] w fun e w' => e = .returned (.bool ls) ∧ w' = w := by
  have q := h.at_
  go_enter Try.func12, Try.ntmps12
  go_wp2_with fail
  refine (diag_none_ok b tb c r dl ls _ h).mono ?_
  rintro e w1 ⟨rfl, rfl⟩
  go_wp2_with fail
  go_ret
  exact ⟨rfl, rfl⟩
set_option maxHeartbeats 400000 in
theorem diag_register (b tb : Nat) (c : List Int) (r dl : Int) (ls : Bool) (w : World) (h : DS w b tb c r ls dl) :
    Calls Try.prog 13 #[.pointer (some ⟨b, 0, none⟩)] w fun e w' => e = .returned (.int .u16 r) ∧ w' = w := by
  have q := h.at_
  go_enter Try.func13, Try.ntmps13
  go_wp2_with fail
  refine (diag_none_ok b tb c r dl ls _ h).mono ?_
  rintro e w1 ⟨rfl, rfl⟩
  go_wp2_with fail
  go_ret
  exact ⟨rfl, rfl⟩
set_option maxHeartbeats 400000 in
theorem diag_delim (b tb : Nat) (c : List Int) (r dl : Int) (ls : Bool) (w : World) (h : DS w b tb c r ls dl) :
    Calls Try.prog 14 #[.pointer (some ⟨b, 0, none⟩)] w fun e w' => e = .returned (.int .u8 dl) ∧ w' = w := by
  have q := h.at_
  go_enter Try.func14, Try.ntmps14
  go_wp2_with fail
  refine (diag_none_ok b tb c r dl ls _ h).mono ?_
  rintro e w1 ⟨rfl, rfl⟩
  go_wp2_with fail
  go_ret
  exact ⟨rfl, rfl⟩
set_option maxHeartbeats 400000 in
theorem diag_all (b tb : Nat) (c : List Int) (r dl : Int) (ls : Bool) (w : World) (h : DS w b tb c r ls dl) :
    Calls Try.prog 11 #[.pointer (some ⟨b, 0, none⟩)] w fun e w' => ∃ A cp, e = .returned (.slice A 8 cp) ∧ NewWords w w' (.slice A 8 cp) c := by
  have q := h.at_
  go_enter Try.func11, Try.ntmps11
  go_wp2_with fail
  refine (diag_none_ok b tb c r dl ls _ h).mono ?_
  rintro e w1 ⟨rfl, rfl⟩
  go_wp2_with fail
  refine (tally_all tb c _ h.2.1).mono ?_
  rintro e w2 ⟨A, cp, rfl, hn⟩
  go_wp2_with fail
  go_ret
  exact ⟨A, cp, rfl, hn⟩
set_option maxHeartbeats 400000 in
theorem diag_setRegister (b tb : Nat) (c : List Int) (r dl x : Int) (ls : Bool) (w : World) (h : DS w b tb c r ls dl) (hx : 0 ≤ x ∧ x ≤ 65535) :
    Calls Try.prog 18 #[.pointer (some ⟨b, 0, none⟩), .int .u16 x] w fun e w' => e = .returned (.tuple #[]) ∧ DS w' b tb c x ls dl ∧ Fr (fun k => k = b) w w' := by
  have q := h.at_
  have q1 : ∀ i, w.frozen? ⟨b, i, none⟩ = false := fun i => h.1.frozen i
  have hne : b ≠ tb := h.1.ne_ h.2.1.2.2 (by decide)
  go_enter Try.func18, Try.ntmps18
  go_wp2_with fail
  refine (diag_none_ok b tb c r dl ls _ h).mono ?_
  rintro e w1 ⟨rfl, rfl⟩
  go_wp2_with fail
  go_end0
  have hf := (Fr.refl (fun k => k = b) w1).set_ (p := ⟨b, 1, none⟩) (.inl rfl) (.int .u16 x)
  exact ⟨rfl, ⟨by simpa [dcells] using h.1.set_ 1 (.int .u16 x), ⟨h.2.1.1, h.2.1.2.1, h.2.1.2.2.fr hf (fun e => hne e.symm)⟩, hx, h.2.2.2⟩, hf⟩
set_option maxHeartbeats 400000 in
theorem diag_clone (b tb : Nat) (c : List Int) (r dl : Int) (ls : Bool) (w : World) (h : DS w b tb c r ls dl) :
    Calls Try.prog 9 #[.pointer (some ⟨b, 0, none⟩)] w fun e w' => ∃ b' tb', e = .returned (.pointer (some ⟨b', 0, none⟩)) ∧ DS w' b' tb' c r ls dl ∧ Fr nob w w' ∧ w.heap.size ≤ b' ∧ w.heap.size ≤ tb' := by
  have q := h.at_
  have hb0 := Blk.new w 53 (dcells tb r ls dl)
  have hf0 := (Fr.refl nob w).alloc (.cells (dcells tb r ls dl) 53)
  have hz := World.size_alloc w (.cells (dcells tb r ls dl) 53)
  have h0 := h.nob hf0
  simp only [dcells] at hb0 hf0 hz h0
  have hlt := h.lt
  go_enter Try.func9, Try.ntmps9
  go_wp2_with fail
  refine (diag_none_ok b tb c r dl ls _ h).mono ?_
  rintro e w1 ⟨rfl, rfl⟩
  go_wp2_with fail
  refine (tally_clone tb c _ h0.2.1).mono ?_
  rintro e w2 ⟨rfl, hts, hf2⟩
  have hb2 := hb0.fr hf2 (fun h => h)
  have q2 : ∀ i, w2.cell? ⟨w1.heap.size, i, none⟩ = #[Value.pointer (some ⟨tb, 0, none⟩), .int .u16 r, .bool ls, .int .u8 dl][i]? := fun i => hb2.cell i
  have q3 : ∀ i, w2.frozen? ⟨w1.heap.size, i, none⟩ = false := fun i => hb2.frozen i
  rw [hz] at hts
  go_wp2_with fail
  go_ret
  have hf3 := (Fr.refl (fun k => k = w1.heap.size) w2).set_ (p := ⟨w1.heap.size, 0, none⟩) (.inl rfl) (.pointer (some ⟨w1.heap.size + 1, 0, none⟩))
  refine ⟨w1.heap.size, w1.heap.size + 1, rfl, ⟨by simpa [dcells] using hb2.set_ 0 (.pointer (some ⟨w1.heap.size + 1, 0, none⟩)), ⟨hts.1, hts.2.1, hts.2.2.fr hf3 (by omega)⟩, h.2.2⟩, (hf0.trans hf2 (fun _ _ h => h)).newer hf3 (fun i hi => by omega), by omega, by omega⟩

/-- A question as it lies: the number, the word, what is told, what comes of it. -/
def QS (w : World) (g : Nat) (n x : Int) (v : Value) (what : Int) : Prop := Blk w g 62 #[.int .i64 n, .int .u16 x, v, .int .i64 what]
theorem QS.at_ {w : World} {g : Nat} {n x : Int} {v : Value} {what : Int} (h : QS w g n x v what) (i : Nat) : w.cell? ⟨g, i, none⟩ = #[Value.int .i64 n, .int .u16 x, v, .int .i64 what][i]? := Blk.cell h i
theorem QS.froz {w : World} {g : Nat} {n x : Int} {v : Value} {what : Int} (h : QS w g n x v what) (i : Nat) : w.frozen? ⟨g, i, none⟩ = false := Blk.frozen h i

set_option maxHeartbeats 1000000 in
theorem diag_tells (g : Nat) (n x y what : Int) (v : Value) (w : World) (h : QS w g n x v what) (hn : 0 ≤ n ∧ n ≤ 65535) (hy : 0 ≤ y ∧ y ≤ 65535) :
    Calls Try.prog 44 #[.pointer (some ⟨g, 0, none⟩), .int .u16 y] w fun e w' => e = .returned (.tuple #[]) ∧ ∃ A c, QS w' g n x (.slice A 4 c) what ∧ w'.ownsRow w.heap.size 5 1 (.slice A 4 c) 4 (nums .u8 (put2s [n, y])) ∧ Fr (fun k => k = g) w w' := by
  have q := h.at_
  have hwn : IntKind.u16.wrap n = n := wraps_u16 n hn.1 (by omega)
  have hwm : n % 65536 = n := by omega
  have hlt := Blk.lt h
  have hr : Rd (w.alloc (.cells #[.int .u16 n, .int .u16 y] 36)) 1 (some ⟨w.heap.size, 0, none⟩) 2 (nums .u16 [n, y]) :=
    Rd.of_blk (Blk.new w _ _) rfl (fun j u hu => by rw [Nat.zero_add]; simpa [nums] using hu)
  have hf0 := (Fr.refl nob w).alloc (.cells #[.int .u16 n, .int .u16 y] 36)
  have hz := World.size_alloc w (.cells #[.int .u16 n, .int .u16 y] 36)
  go_enter Try.func44, Try.ntmps44
  go_wp2_with fail
  refine (word_put _ 2 2 [n, y] _ hr (by intro z hz'; simp at hz'; rcases hz' with rfl | rfl <;> omega) (by omega) (by omega)).mono ?_
  rintro e w2 ⟨A, c, rfl, hown, hf⟩
  have h2 := Blk.fr (Blk.alloc h _) hf (fun h => h)
  have q2 : ∀ i, w2.cell? ⟨g, i, none⟩ = #[Value.int .i64 n, .int .u16 x, v, .int .i64 what][i]? := fun i => h2.cell i
  have q3 : ∀ i, w2.frozen? ⟨g, i, none⟩ = false := fun i => h2.frozen i
  go_wp2_with fail
  go_end0
  refine ⟨rfl, A, c, by simpa [QS] using h2.set_ 2 (.slice A 4 c), own_base (own_set hown h2 (by decide) _) (by omega), ?_⟩
  exact ((Fr.of_nob (S := fun k => k = g) (hf0.trans hf (fun _ _ h => h))).set_ (p := ⟨g, 2, none⟩) (.inl rfl) _)
end Go.Proofs.Ytmpjdploacfmeab
