/- Contract of (*State).Do (package diag). -/
import Derived.Test.YtmpjdploacfmeabDiag4
import Derived.Test.YtmpjdploacfmeabClone
namespace Go.Proofs.Ytmpjdploacfmeab
set_option linter.unusedSimpArgs false
set_option linter.unusedVariables false
open Go.RowKit

/-- How a state stands: the counters, the register, whether it listens only, the byte. -/
structure Dg where
  c : List Int
  r : Int
  ls : Bool
  dl : Int
def DgS (w : World) (b tb : Nat) (s : Dg) : Prop := DS w b tb s.c s.r s.ls s.dl
def eight0 : List Int := [0, 0, 0, 0, 0, 0, 0, 0]
/-- What a question that may be asked does: the state, what is told, what comes of it. -/
def doN (s : Dg) (n x : Int) (d : List Int) : Dg × List Int × Int :=
  if 11 ≤ n ∧ n < 19 then (s, put2s [n, s.c.getD (n - 11).toNat 0], 0)
  else if n = 1 then ({ s with c := eight0, ls := false }, d, if x = 65280 then 2 else 1)
  else if n = 2 then (s, put2s [n, s.r], 0)
  else if n = 3 then ({ s with dl := x / 256 }, d, 0)
  else if n = 4 then ({ s with ls := true }, [], 3)
  else if n = 10 then ({ s with c := eight0, r := 0 }, d, 0)
  else if n = 20 then ({ s with c := dropOf s.c 7 }, d, 0)
  else (s, d, 0)
def knownN (n : Int) : Bool := decide (11 ≤ n ∧ n < 19) || decide (n = 0) || decide (n = 1) || decide (n = 2) || decide (n = 3) || decide (n = 4) || decide (n = 10) || decide (n = 20)
/-- What any bytes do: the state, what is told, what comes of it, the error. -/
def doS (s : Dg) (d : List Int) : Dg × List Int × Int × Int :=
  if d.length < 2 then (s, [], 0, 3)
  else if knownN (at2 d 0) = false then (s, [], 0, 1)
  else if mayS (at2 d 0) (d.drop 2) = false then (s, [], 0, 3)
  else let y := doN s (at2 d 0) (at2 d 2) d; (y.1, y.2.1, y.2.2, 0)
def doPost (b tb : Nat) (y : Dg × List Int × Int × Int) (w : World) (e : Ending) (w' : World) : Prop :=
  ∃ A k cp, e = .returned (.tuple #[.slice A k cp, .int .i64 y.2.2.1, .int .i64 y.2.2.2]) ∧ Rd w' 1 A k (nums .u8 y.2.1) ∧ k ≤ cp ∧ cp ≤ 9223372036854775807 ∧ (∀ ad, A = some ad → w.heap.size ≤ ad.block) ∧ DgS w' b tb y.1 ∧ Fr (fun i => i = b ∨ i = tb) w w'

theorem known_no {n : Int} (h : knownN n = false) : ofV n = .nilFunc := by
  simp only [knownN, Bool.or_eq_false_iff, decide_eq_false_iff_not] at h
  rw [ofV, if_neg (by omega), if_neg (by omega), if_neg (by omega), if_neg (by omega), if_neg (by omega), if_neg (by omega), if_neg (by omega), if_neg (by omega)]
/-- Which function does what. -/
def fnOf (n : Int) (f : FuncId) : Prop :=
  ((11 ≤ n ∧ n < 19) ∧ f = 32) ∨ (n = 0 ∧ f = 33) ∨ (n = 1 ∧ f = 34) ∨ (n = 2 ∧ f = 35) ∨ (n = 3 ∧ f = 36) ∨ (n = 4 ∧ f = 37) ∨ (n = 10 ∧ f = 38) ∨ (n = 20 ∧ f = 39)
theorem known_yes {n : Int} (h : knownN n = true) : ∃ f, ofV n = .func (.func f) #[] #[] ∧ fnOf n f := by
  by_cases hc : 11 ≤ n ∧ n < 19
  · exact ⟨_, by rw [ofV, if_pos hc], .inl ⟨hc, rfl⟩⟩
  · have h' : n = 0 ∨ n = 1 ∨ n = 2 ∨ n = 3 ∨ n = 4 ∨ n = 10 ∨ n = 20 := by
      simp only [knownN, Bool.or_eq_true, decide_eq_true_eq] at h
      omega
    rcases h' with rfl | rfl | rfl | rfl | rfl | rfl | rfl
    · exact ⟨_, rfl, .inr (.inl ⟨rfl, rfl⟩)⟩
    · exact ⟨_, rfl, .inr (.inr (.inl ⟨rfl, rfl⟩))⟩
    · exact ⟨_, rfl, .inr (.inr (.inr (.inl ⟨rfl, rfl⟩)))⟩
    · exact ⟨_, rfl, .inr (.inr (.inr (.inr (.inl ⟨rfl, rfl⟩))))⟩
    · exact ⟨_, rfl, .inr (.inr (.inr (.inr (.inr (.inl ⟨rfl, rfl⟩)))))⟩
    · exact ⟨_, rfl, .inr (.inr (.inr (.inr (.inr (.inr (.inl ⟨rfl, rfl⟩))))))⟩
    · exact ⟨_, rfl, .inr (.inr (.inr (.inr (.inr (.inr (.inr ⟨rfl, rfl⟩))))))⟩

/-- What a question does, as it lies. -/
def fnPost (b tb g : Nat) (A0 : Option Addr) (y : Dg × List Int × Int) (n x : Int) (w : World) (e : Ending) (w' : World) : Prop :=
  e = .returned (.tuple #[]) ∧ ∃ A k cp, QS w' g n x (.slice A k cp) y.2.2 ∧ Rd w' 1 A k (nums .u8 y.2.1) ∧ k ≤ cp ∧ cp ≤ 9223372036854775807 ∧ (∀ ad, A = some ad → A0 = some ad ∨ w.heap.size ≤ ad.block) ∧ DgS w' b tb y.1 ∧ Fr (fun i => i = b ∨ i = tb ∨ i = g) w w'
theorem doneQ_none {b tb g : Nat} {c : List Int} {r : Int} {ls : Bool} {dl n x what : Int} {A : Option Addr} {m cp : Nat} {d : List Int} {w : World} {e : Ending} {w' : World}
    (h : DoneQ b tb g c r ls dl n x none (.slice A m cp) what w e w') (hr : Rd w 1 A m (nums .u8 d)) (hA : ∀ ad, A = some ad → ¬ (ad.block = b ∨ ad.block = tb ∨ ad.block = g)) (hm : m ≤ cp) (hcp : cp ≤ 9223372036854775807) :
    fnPost b tb g A (⟨c, r, ls, dl⟩, d, what) n x w e w' := by
  obtain ⟨he, hds, hf, hq⟩ := h
  exact ⟨he, A, m, cp, hq, hr.fr hf hA, hm, hcp, fun ad h => .inl h, hds, hf⟩
theorem doneQ_some {A0 : Option Addr} {b tb g : Nat} {c : List Int} {r : Int} {ls : Bool} {dl n x what : Int} {v : Value} {l : List Int} {w : World} {e : Ending} {w' : World}
    (h : DoneQ b tb g c r ls dl n x (some l) v what w e w') : fnPost b tb g A0 (⟨c, r, ls, dl⟩, l, what) n x w e w' := by
  obtain ⟨he, hds, hf, A, cp, hq, hown⟩ := h
  obtain ⟨A', c', e', hle, ho⟩ := own_form hown
  injection e' with e1 e2 e3
  refine ⟨he, A, l.length, cp, hq, Rd.of_own hown, by omega, own_cap hown, fun ad h => .inr ?_, hds, hf⟩
  subst h e1
  rcases ho with ho | ⟨g, hg, hge, _⟩
  · cases ho
  · cases hg; exact hge
set_option maxHeartbeats 1000000 in
theorem diag_fn (b tb g : Nat) (s : Dg) (n x : Int) (f : FuncId) (A : Option Addr) (m cp : Nat) (d : List Int) (w : World)
    (hf : fnOf n f) (hds : DgS w b tb s) (hq : QS w g n x (.slice A m cp) 0) (hn : 0 ≤ n ∧ n ≤ 65535) (hx : 0 ≤ x ∧ x ≤ 65535) (hr : Rd w 1 A m (nums .u8 d))
    (hA : ∀ ad, A = some ad → ¬ (ad.block = b ∨ ad.block = tb ∨ ad.block = g)) (hm : m ≤ cp) (hcp : cp ≤ 9223372036854775807) :
    Calls Try.prog f #[.pointer (some ⟨b, 0, none⟩), .pointer (some ⟨g, 0, none⟩)] w (fnPost b tb g A (doN s n x d) n x w) := by
  obtain ⟨c, r, ls, dl⟩ := s
  rcases hf with ⟨hn', rfl⟩ | ⟨rfl, rfl⟩ | ⟨rfl, rfl⟩ | ⟨rfl, rfl⟩ | ⟨rfl, rfl⟩ | ⟨rfl, rfl⟩ | ⟨rfl, rfl⟩ | ⟨rfl, rfl⟩
  · rw [doN, if_pos hn']
    exact (diag_counter b tb g c r dl n x 0 ls _ w hds hq hn').mono fun e w' h => doneQ_some h
  · exact (diag_echo b tb g c r dl 0 x 0 ls _ w hds hq).mono fun e w' h => doneQ_none h hr hA hm hcp
  · exact (diag_restart b tb g c r dl 1 x 0 ls _ w hds hq).mono fun e w' h => doneQ_none h hr hA hm hcp
  · exact (diag_told b tb g c r dl 2 x 0 ls _ w hds hq hn).mono fun e w' h => doneQ_some h
  · exact (diag_text b tb g c r dl 3 x 0 ls _ w hds hq hx).mono fun e w' h => doneQ_none h hr hA hm hcp
  · refine (diag_silent b tb g c r dl 4 x 0 ls _ w hds hq).mono fun e w' h => ?_
    obtain ⟨he, hds, hf, hq⟩ := h
    exact ⟨he, none, 0, 0, hq, Rd.nil_ _ _ _, by omega, by omega, (fun ad h => by cases h), hds, hf⟩
  · exact (diag_clear b tb g c r dl 10 x 0 ls _ w hds hq).mono fun e w' h => doneQ_none h hr hA hm hcp
  · exact (diag_overrun b tb g c r dl 20 x 0 ls _ w hds hq).mono fun e w' h => doneQ_none h hr hA hm hcp

theorem call_fn {n : Int} {f : FuncId} (hf : fnOf n f) (p q : Value) (w : World) : (callFunc f #[p, q]).run Try.prog w = .ok (.enter f #[p, q]) w := by
  rcases hf with ⟨_, rfl⟩ | ⟨_, rfl⟩ | ⟨_, rfl⟩ | ⟨_, rfl⟩ | ⟨_, rfl⟩ | ⟨_, rfl⟩ | ⟨_, rfl⟩ | ⟨_, rfl⟩ <;> rfl
theorem equalIn_fn (w : World) (d : Nat) (fn : Fn) (a b : Array Value) : (Op.equalIn (d + 1) 56 (.func fn a b) .nilFunc).run Try.prog w = .ok false w := by
  simp [Op.equalIn, run_underlying Try.underlying56]
theorem equalIn_no (w : World) (d : Nat) : (Op.equalIn (d + 1) 56 .nilFunc .nilFunc).run Try.prog w = .ok true w := by
  simp [Op.equalIn, run_underlying Try.underlying56]
theorem eql_fn (w : World) (fn : Fn) (a b : Array Value) : (binOp .eql 56 (.func fn a b) .nilFunc).run Try.prog w = .ok (.bool false) w := by
  simp only [binOp]
  simp [Op.equal, Op.maxDepth, equalIn_fn w 9999 fn a b]
theorem eql_no (w : World) : (binOp .eql 56 .nilFunc .nilFunc).run Try.prog w = .ok (.bool true) w := by
  simp only [binOp]
  simp [Op.equal, Op.maxDepth, equalIn_no w 9999]

theorem word_at2 (A : Option Addr) (n c : Nat) (d : List Int) (w : World) (h : Rd w 1 A n (nums .u8 d)) (hd : bytes8 d) (hi : 4 ≤ n) (hn : n ≤ c) (hc : c ≤ 9223372036854775807) :
    Calls Try.prog 22 #[.slice A n c, .int .i64 2] w fun e w' => e = .returned (.tuple #[.int .u16 (at2 d 2), .bool true]) ∧ ∃ k, w' = w.drewN k := word_at_ok A n c d 2 w h hd hi hn hc
theorem may_len {n : Int} {d : List Int} (h : mayS n d = true) : 2 ≤ d.length := by
  rw [mayS] at h
  split at h
  · simp only [Bool.and_eq_true, decide_eq_true_eq] at h
    exact h.1.1
  · split at h
    · cases h
    · omega
end Go.Proofs.Ytmpjdploacfmeab
