/- Contracts of what is done by each number (package diag). -/
import Derived.Test.YtmpjdploacfmeabDiag
namespace Go.Proofs.Ytmpjdploacfmeab
set_option linter.unusedSimpArgs false
set_option linter.unusedVariables false
open Go.RowKit

/-- What a number does: the state, the question behind it. -/
def DoneQ (b tb g : Nat) (c : List Int) (r : Int) (ls : Bool) (dl : Int) (n x : Int) (out : Option (List Int)) (v : Value) (what : Int) (w : World) (e : Ending) (w' : World) : Prop :=
  e = .returned (.tuple #[]) ∧ DS w' b tb c r ls dl ∧ Fr (fun k => k = b ∨ k = tb ∨ k = g) w w' ∧
  match out with
  | none => QS w' g n x v what
  | some l => ∃ A cp, QS w' g n x (.slice A l.length cp) what ∧ w'.ownsRow w.heap.size 5 1 (.slice A l.length cp) l.length (nums .u8 l)

section
variable (b tb g : Nat) (c : List Int) (r dl n x what : Int) (ls : Bool) (v : Value) (w : World)

theorem diag_echo (h : DS w b tb c r ls dl) (hq : QS w g n x v what) :
    Calls Try.prog 33 #[.pointer (some ⟨b, 0, none⟩), .pointer (some ⟨g, 0, none⟩)] w (DoneQ b tb g c r ls dl n x none v what w) := by
  go_enter Try.func33, Try.ntmps33
  go_wp2_with fail
  go_end0
  exact ⟨rfl, h, Fr.refl _ _, hq⟩
set_option maxHeartbeats 400000 in
theorem diag_told (h : DS w b tb c r ls dl) (hq : QS w g n x v what) (hn : 0 ≤ n ∧ n ≤ 65535) :
    Calls Try.prog 35 #[.pointer (some ⟨b, 0, none⟩), .pointer (some ⟨g, 0, none⟩)] w (DoneQ b tb g c r ls dl n x (some (put2s [n, r])) v what w) := by
  have q := h.at_
  have hne : b ≠ g := h.1.ne_ hq (by decide)
  have hne' : tb ≠ g := h.2.1.2.2.ne_ hq (by decide)
  go_enter Try.func35, Try.ntmps35
  go_wp2_with fail
  refine (diag_tells g n x r what v _ hq hn h.2.2.1).mono ?_
  rintro e w2 ⟨rfl, A, cp, hq2, hown, hf⟩
  go_wp2_with fail
  go_end0
  exact ⟨rfl, h.fr hf hne hne', hf.more (fun k hk => .inr (.inr hk)), A, cp, hq2, hown⟩
set_option maxHeartbeats 400000 in
theorem diag_text (h : DS w b tb c r ls dl) (hq : QS w g n x v what) (hx : 0 ≤ x ∧ x ≤ 65535) :
    Calls Try.prog 36 #[.pointer (some ⟨b, 0, none⟩), .pointer (some ⟨g, 0, none⟩)] w (DoneQ b tb g c r ls (x / 256) n x none v what w) := by
  have q := h.at_
  have q1 : ∀ i, w.frozen? ⟨b, i, none⟩ = false := fun i => h.1.frozen i
  have q2 := hq.at_
  have hne : b ≠ g := h.1.ne_ hq (by decide)
  have hne' : tb ≠ g := h.2.1.2.2.ne_ hq (by decide)
  have hnt : b ≠ tb := h.1.ne_ h.2.1.2.2 (by decide)
  go_enter Try.func36, Try.ntmps36
  go_wp2_with fail
  go_end0
  have hf := (Fr.refl (fun k => k = b) w).set_ (p := ⟨b, 3, none⟩) (.inl rfl) (.int .u8 (x / 256))
  exact ⟨rfl, ⟨by simpa [dcells] using h.1.set_ 3 (.int .u8 (x / 256)), ⟨h.2.1.1, h.2.1.2.1, h.2.1.2.2.fr hf (fun e => hnt e.symm)⟩, h.2.2.1, by omega⟩, hf.more (fun k hk => .inl hk), Blk.fr hq hf (fun e => hne e.symm)⟩
set_option maxHeartbeats 400000 in
theorem diag_silent (h : DS w b tb c r ls dl) (hq : QS w g n x v what) :
    Calls Try.prog 37 #[.pointer (some ⟨b, 0, none⟩), .pointer (some ⟨g, 0, none⟩)] w (DoneQ b tb g c r true dl n x none (.slice none 0 0) 3 w) := by
  have q := h.at_
  have q1 : ∀ i, w.frozen? ⟨b, i, none⟩ = false := fun i => h.1.frozen i
  have q2 := hq.at_
  have q3 := hq.froz
  have hne : b ≠ g := h.1.ne_ hq (by decide)
  have hne' : tb ≠ g := h.2.1.2.2.ne_ hq (by decide)
  have hnt : b ≠ tb := h.1.ne_ h.2.1.2.2 (by decide)
  go_enter Try.func37, Try.ntmps37
  go_wp2_with fail
  go_end0
  have hf1 := (Fr.refl (fun k => k = b ∨ k = tb ∨ k = g) w).set_ (p := ⟨b, 2, none⟩) (.inl (.inl rfl)) (.bool true)
  have hf2 := (hf1.set_ (p := ⟨g, 2, none⟩) (.inl (.inr (.inr rfl))) (.slice none 0 0)).set_ (p := ⟨g, 3, none⟩) (.inl (.inr (.inr rfl))) (.int .i64 3)
  have hb1 : Blk (w.setCell ⟨b, 2, none⟩ (.bool true)) b 53 (dcells tb r true dl) := by simpa [dcells] using h.1.set_ 2 (.bool true)
  have hg1 := ((Blk.far hq (p := ⟨b, 2, none⟩) (fun e => hne e.symm) (.bool true)).set_ 2 (.slice none 0 0)).set_ 3 (.int .i64 3)
  exact ⟨rfl, ⟨(hb1.far (p := ⟨g, 2, none⟩) hne _).far (p := ⟨g, 3, none⟩) hne _, ⟨h.2.1.1, h.2.1.2.1, ((h.2.1.2.2.far (p := ⟨b, 2, none⟩) (fun e => hnt e.symm) _).far (p := ⟨g, 2, none⟩) hne' _).far (p := ⟨g, 3, none⟩) hne' _⟩, h.2.2⟩, hf2, by simpa [QS] using hg1⟩
set_option maxHeartbeats 400000 in
theorem diag_overrun (h : DS w b tb c r ls dl) (hq : QS w g n x v what) :
    Calls Try.prog 39 #[.pointer (some ⟨b, 0, none⟩), .pointer (some ⟨g, 0, none⟩)] w (DoneQ b tb g (dropOf c 7) r ls dl n x none v what w) := by
  have q := h.at_
  have hne' : tb ≠ g := h.2.1.2.2.ne_ hq (by decide)
  have hnt : b ≠ tb := h.1.ne_ h.2.1.2.2 (by decide)
  go_enter Try.func39, Try.ntmps39
  go_wp2_with fail
  refine (tally_drop tb c 7 _ h.2.1).mono ?_
  rintro e w2 ⟨rfl, hts, hf⟩
  go_wp2_with fail
  go_end0
  exact ⟨rfl, ⟨h.1.fr hf hnt, hts, h.2.2⟩, hf.more (fun k hk => .inr (.inl hk)), Blk.fr hq hf (fun e => hne' e.symm)⟩
set_option maxHeartbeats 400000 in
theorem diag_clear (h : DS w b tb c r ls dl) (hq : QS w g n x v what) :
    Calls Try.prog 38 #[.pointer (some ⟨b, 0, none⟩), .pointer (some ⟨g, 0, none⟩)] w (DoneQ b tb g (List.replicate 8 0) 0 ls dl n x none v what w) := by
  have q := h.at_
  have q1 : ∀ i, w.frozen? ⟨b, i, none⟩ = false := fun i => h.1.frozen i
  have hne : b ≠ g := h.1.ne_ hq (by decide)
  have hne' : tb ≠ g := h.2.1.2.2.ne_ hq (by decide)
  have hnt : b ≠ tb := h.1.ne_ h.2.1.2.2 (by decide)
  have hf1 := (Fr.refl (fun k => k = b) w).set_ (p := ⟨b, 1, none⟩) (.inl rfl) (.int .u16 0)
  have hb1 : Blk (w.setCell ⟨b, 1, none⟩ (.int .u16 0)) b 53 (dcells tb 0 ls dl) := by simpa [dcells] using h.1.set_ 1 (.int .u16 0)
  have ht1 : TS (w.setCell ⟨b, 1, none⟩ (.int .u16 0)) tb c := ⟨h.2.1.1, h.2.1.2.1, h.2.1.2.2.fr hf1 (fun e => hnt e.symm)⟩
  go_enter Try.func38, Try.ntmps38
  go_wp2_with fail
  refine (tally_clear tb c _ ht1).mono ?_
  rintro e w2 ⟨rfl, hts, hf⟩
  go_wp2_with fail
  go_end0
  exact ⟨rfl, ⟨hb1.fr hf hnt, hts, by omega, h.2.2.2⟩, (hf1.more (fun k hk => .inl hk)).trans hf (fun k _ hk => .inr (.inl hk)), Blk.fr (Blk.fr hq hf1 (fun e => hne e.symm)) hf (fun e => hne' e.symm)⟩
end
end Go.Proofs.Ytmpjdploacfmeab
