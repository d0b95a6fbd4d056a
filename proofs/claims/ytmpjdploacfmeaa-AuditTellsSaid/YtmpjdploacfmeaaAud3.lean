/- Frames of bytes that are sent: the plain law, and rows of rows in new memory. -/
import Derived.Test.YtmpjdploacfmeaaAud2
namespace Go.Proofs.Ytmpjdploacfmeaa
set_option linter.unusedSimpArgs false
set_option linter.unusedVariables false
open Go.RowKit

/-- The frames of bytes, from the second byte on: p: when the byte ahead was sent; done, cur: the frames ahead and the last one; ats: when each begins. -/
def goF (tc : Int) : Int → List (List Int) → List Int → List Int → List (Int × Int) → Option (List (List Int) × List Int)
  | _, done, cur, ats, [] => some (done ++ [cur], ats)
  | p, done, cur, ats, x :: r =>
    if x.1 < 0 ∨ 1099511627776 < x.1 ∨ x.1 < p + tc then none
    else if p + tc < x.1 then goF tc x.1 (done ++ [cur]) [x.2] (ats ++ [x.1]) r
    else goF tc x.1 done (cur ++ [x.2]) ats r
def framesF (tc : Int) : List (Int × Int) → Option (List (List Int) × List Int)
  | [] => some ([], [])
  | x :: r => if x.1 < 0 ∨ 1099511627776 < x.1 then none else goF tc x.1 [] [x.2] [x.1] r
/-- A byte that is sent, as it lies. -/
def outc (x : Int × Int) : List Value := [.int .i64 x.1, .int .u8 x.2]
theorem outc_len (x : Int × Int) : (outc x).length = 2 := rfl
theorem out_at {w : World} {A : Option Addr} {n : Nat} {l : List (Int × Int)} (h : Rd w 2 A n (l.flatMap outc)) {k : Nat} (hk : k < n) : ∃ b o x, A = some ⟨b, o, none⟩ ∧ b < w.heap.size ∧ l[k]? = some x ∧ w.cell? ⟨b, o + k * 2, none⟩ = some (.int .i64 x.1) ∧ w.cell? ⟨b, o + k * 2 + 1, none⟩ = some (.int .u8 x.2) := by
  obtain ⟨b, o, x, e, hb, hx, hc⟩ := Rd.row outc_len (by omega) h hk
  exact ⟨b, o, x, e, hb, hx, hc 0 _ rfl, hc 1 _ rfl⟩
/-- A row of bytes below a block. -/
def InnR (w : World) (B : Nat) (v : Value) (f : List Int) : Prop := ∃ A n c, v = .slice A n c ∧ n ≤ c ∧ c ≤ 9223372036854775807 ∧ Rd w 1 A n (nums .u8 f) ∧ ∀ ad, A = some ad → ad.block < B ∧ ∃ cs, Blk w ad.block 5 cs
theorem InnR.of_own {w : World} {base n : Nat} {v : Value} {f : List Int} (h : w.ownsRow base 5 1 v n (nums .u8 f)) : InnR w w.heap.size v f := by
  obtain ⟨A, c, rfl, hle, _⟩ := own_form h
  refine ⟨A, n, c, rfl, hle, own_cap h, Rd.of_own h, ?_⟩
  rintro ad rfl
  obtain ⟨cs, hcs⟩ := own_block h ad.block rfl
  exact ⟨Blk.lt (t := 5) (cs := cs) hcs, cs, hcs⟩
theorem InnR.more {w : World} {B B' : Nat} {v : Value} {f : List Int} (h : InnR w B v f) (hb : B ≤ B') : InnR w B' v f := by
  obtain ⟨A, n, c, e, h1, h2, h3, h4⟩ := h
  exact ⟨A, n, c, e, h1, h2, h3, fun ad he => ⟨Nat.lt_of_lt_of_le (h4 ad he).1 hb, (h4 ad he).2⟩⟩
theorem InnR.fr {w w' : World} {B : Nat} {v : Value} {f : List Int} {S : Nat → Prop} (h : InnR w B v f) (hf : Fr S w w') (hS : ∀ b cs, b < B → Blk w b 5 cs → ¬ S b) : InnR w' B v f := by
  obtain ⟨A, n, c, e, h1, h2, h3, h4⟩ := h
  have hn : ∀ ad, A = some ad → ¬ S ad.block := fun ad he => by
    obtain ⟨hb, cs, hcs⟩ := h4 ad he
    exact hS _ cs hb hcs
  refine ⟨A, n, c, e, h1, h2, h3.fr hf hn, fun ad he => ?_⟩
  obtain ⟨hb, cs, hcs⟩ := h4 ad he
  exact ⟨hb, cs, hcs.fr hf (hn ad he)⟩
/-- Rows of rows. -/
def CR (w : World) (base : Nat) (ov : Value) (fs : List (List Int)) : Prop := ∃ vs : List Value, vs.length = fs.length ∧ w.ownsRow base 47 1 ov fs.length vs ∧ ∀ (i : Nat) v, vs[i]? = some v → ∃ f, fs[i]? = some f ∧ InnR w w.heap.size v f
/-- The same, the last of which is being written. -/
def WsR (w : World) (base : Nat) (ov : Value) (done : List (List Int)) (cur : List Int) : Prop := ∃ (vs : List Value) (cv : Value) (B : Nat), vs.length = done.length ∧ w.ownsRow base 47 1 ov (done.length + 1) (vs ++ [cv]) ∧
  (∀ (i : Nat) v, vs[i]? = some v → ∃ f, done[i]? = some f ∧ InnR w B v f) ∧ w.ownsRow B 5 1 cv cur.length (nums .u8 cur) ∧ base ≤ B ∧ B ≤ w.heap.size
theorem CR.nil (w : World) (base : Nat) : CR w base (.slice none 0 0) [] := ⟨[], rfl, World.ownsRow_nil _ _ _ _, fun i v h => by simp at h⟩
theorem WsR.close {w : World} {base : Nat} {ov : Value} {done : List (List Int)} {cur : List Int} (h : WsR w base ov done cur) : CR w base ov (done ++ [cur]) := by
  obtain ⟨vs, cv, B, h1, h2, h3, h4, h5, h6⟩ := h
  refine ⟨vs ++ [cv], by simp [h1], by simpa using h2, fun i v hv => ?_⟩
  rcases Nat.lt_or_ge i vs.length with hi | hi
  · rw [List.getElem?_append_left hi] at hv
    obtain ⟨f, hf, hr⟩ := h3 i v hv
    exact ⟨f, by rw [List.getElem?_append_left (by omega)]; exact hf, hr.more h6⟩
  · rw [List.getElem?_append_right hi] at hv
    have h0 : i - vs.length = 0 := by
      rcases Nat.eq_zero_or_pos (i - vs.length) with h | h
      · exact h
      · rw [List.getElem?_eq_none (by simp; omega)] at hv
        cases hv
    rw [h0] at hv
    simp at hv
    subst hv
    refine ⟨cur, ?_, InnR.of_own h4⟩
    rw [List.getElem?_append_right (by omega), show i - done.length = 0 by omega]
    rfl
theorem CR.fr {w w' : World} {base : Nat} {ov : Value} {fs : List (List Int)} {S : Nat → Prop} (h : CR w base ov fs) (hf : Fr S w w') (hS : ∀ b t cs, Blk w b t cs → (t = 5 ∨ t = 47) → ¬ S b) : CR w' base ov fs := by
  obtain ⟨vs, h1, h2, h3⟩ := h
  refine ⟨vs, h1, own_fr h2 hf (fun b hb => ?_), fun i v hv => ?_⟩
  · obtain ⟨cs, hcs⟩ := own_block h2 b hb
    exact hS b _ cs hcs (.inr rfl)
  · obtain ⟨f, hf', hr⟩ := h3 i v hv
    exact ⟨f, hf', (hr.fr hf (fun b cs _ hb => hS b _ cs hb (.inl rfl))).more hf.size⟩
theorem WsR.fr {w w' : World} {base : Nat} {ov : Value} {done : List (List Int)} {cur : List Int} {S : Nat → Prop} (h : WsR w base ov done cur) (hf : Fr S w w') (hS : ∀ b t cs, Blk w b t cs → (t = 5 ∨ t = 47) → ¬ S b) : WsR w' base ov done cur := by
  obtain ⟨vs, cv, B, h1, h2, h3, h4, h5, h6⟩ := h
  refine ⟨vs, cv, B, h1, own_fr h2 hf (fun b hb => ?_), fun i v hv => ?_, own_fr h4 hf (fun b hb => ?_), h5, Nat.le_trans h6 hf.size⟩
  · obtain ⟨cs, hcs⟩ := own_block h2 b hb
    exact hS b _ cs hcs (.inr rfl)
  · obtain ⟨f, hf', hr⟩ := h3 i v hv
    exact ⟨f, hf', hr.fr hf (fun b cs _ hb => hS b _ cs hb (.inl rfl))⟩
  · obtain ⟨cs, hcs⟩ := own_block h4 b hb
    exact hS b _ cs hcs (.inl rfl)
/-- One more frame, of no bytes yet. -/
theorem opened {w w' : World} {base : Nat} {ov ov' : Value} {fs : List (List Int)} {vs : List Value} (h1 : vs.length = fs.length) (h2 : w.ownsRow base 47 1 ov fs.length vs) (h3 : ∀ (i : Nat) v, vs[i]? = some v → ∃ f, fs[i]? = some f ∧ InnR w w.heap.size v f)
    (hg : w.grownBy w' ov.ownBlock) (ho : w'.ownsRow base 47 1 ov' (fs.length + 1) (vs ++ [.slice none 0 0])) (hb : base ≤ w.heap.size) : WsR w' base ov' fs [] := by
  have hf : Fr (fun b => some b = ov.ownBlock) w w' := (Fr.refl _ _).grown hg (fun k hk => .inl hk.symm)
  refine ⟨vs, .slice none 0 0, w'.heap.size, h1, ho, fun i v hv => ?_, World.ownsRow_nil _ _ _ _, Nat.le_trans hb hf.size, Nat.le_refl _⟩
  obtain ⟨f, hf', hr⟩ := h3 i v hv
  refine ⟨f, hf', (hr.fr hf (fun b cs _ hb' he => ?_)).more hf.size⟩
  obtain ⟨cs', hcs'⟩ := own_block h2 b he.symm
  unfold Blk at hb'
  rw [hb'] at hcs'
  cases hcs'
theorem CR.base_le {w : World} {base base' : Nat} {ov : Value} {fs : List (List Int)} (h : CR w base ov fs) (hb : base' ≤ base) : CR w base' ov fs := by
  obtain ⟨vs, h1, h2, h3⟩ := h
  exact ⟨vs, h1, own_base h2 hb, h3⟩
end Go.Proofs.Ytmpjdploacfmeaa
