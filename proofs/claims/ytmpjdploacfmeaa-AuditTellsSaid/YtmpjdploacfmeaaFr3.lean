/- audit.Frames: its state between two frames, and one frame more. -/
import Derived.Test.YtmpjdploacfmeaaFr1
import Derived.Test.YtmpjdploacfmeaaRangeT
namespace Go.Proofs.Ytmpjdploacfmeaa
set_option linter.unusedSimpArgs false
set_option linter.unusedVariables false
open Go.RowKit

/-- A row of bytes, at or behind a block. -/
def InnB (W : World) (base : Nat) (v : Value) (f : List Int) : Prop := InnR W W.heap.size v f ∧ ∀ A n c, v = .slice A n c → ∀ ad, A = some ad → base ≤ ad.block
theorem InnB.keep {W W' : World} {base : Nat} {v : Value} {f : List Int} (h : InnB W base v f) (hs : W.heap.size ≤ W'.heap.size) (hk : ∀ g cs, base ≤ g → Blk W g 5 cs → Blk W' g 5 cs) : InnB W' base v f := by
  obtain ⟨⟨A, n, c, rfl, h1, h2, h3, h4⟩, h5⟩ := h
  refine ⟨⟨A, n, c, rfl, h1, h2, h3.keep hs (fun b o e hb p hp => ?_), fun ad e => ?_⟩, h5⟩
  · obtain ⟨_, cs, hcs⟩ := h4 _ e
    have hc : Blk W b 5 cs := hcs
    refine World.cell?_of_block ?_
    rw [hp]
    exact (hk b cs (h5 _ _ _ rfl _ e) hc).trans hc.symm
  · obtain ⟨hb, cs, hcs⟩ := h4 _ e
    exact ⟨Nat.lt_of_lt_of_le hb hs, cs, hk _ cs (h5 _ _ _ rfl _ e) hcs⟩
def CRb (W : World) (base : Nat) (ov : Value) (fs : List (List Int)) : Prop := ∃ vs : List Value, vs.length = fs.length ∧ W.ownsRow base 47 1 ov fs.length vs ∧ ∀ (i : Nat) v, vs[i]? = some v → ∃ f, fs[i]? = some f ∧ InnB W base v f
theorem CRb.nil (W : World) (base : Nat) : CRb W base (.slice none 0 0) [] := ⟨[], rfl, World.ownsRow_nil _ _ _ _, fun i v h => by simp at h⟩
theorem CRb.cr {W : World} {base : Nat} {ov : Value} {fs : List (List Int)} (h : CRb W base ov fs) : CR W base ov fs := by
  obtain ⟨vs, h1, h2, h3⟩ := h
  exact ⟨vs, h1, h2, fun i v hv => by
    obtain ⟨f, hf, hi⟩ := h3 i v hv
    exact ⟨f, hf, hi.1⟩⟩
theorem CRb.kc {W W' : World} {base B : Nat} {ov : Value} {fs : List (List Int)} (h : CRb W base ov fs) (hk : Kc B W W') : CRb W' base ov fs := by
  obtain ⟨vs, h1, h2, h3⟩ := h
  exact ⟨vs, h1, hk.own h2, fun i v hv => by
    obtain ⟨f, hf, hi⟩ := h3 i v hv
    exact ⟨f, hf, hi.keep hk.size fun g cs _ hb => hk.blk hb⟩⟩
theorem CRb.fr {W W' : World} {base : Nat} {ov : Value} {fs : List (List Int)} {S : Nat → Prop} (h : CRb W base ov fs) (hf : Fr S W W') (hS : ∀ b, base ≤ b → ¬ S b) : CRb W' base ov fs := by
  obtain ⟨vs, h1, h2, h3⟩ := h
  exact ⟨vs, h1, own_fr h2 hf (fun k hk => hS k (own_at h2 k hk)), fun i v hv => by
    obtain ⟨f, hf', hi⟩ := h3 i v hv
    exact ⟨f, hf', hi.keep hf.size fun g cs hg hb => hb.fr hf (hS g hg)⟩⟩
/-- Between two frames: B: the first block that the range makes. -/
def FrI (w : World) (B : Nat) (fs : List (List Int)) (ats : List Int) (k : Nat) (W : World) : Prop := ∃ ov av, Blk W (w.heap.size + 1) 64 #[ov] ∧ Blk W (w.heap.size + 2) 57 #[av] ∧
  CRb W (B + 3) ov (fs.take k) ∧ W.ownsRow (B + 3) 3 1 av (ats.take k).length (nums .i64 (ats.take k)) ∧ Fr nob w W
theorem goF_len {tc : Int} : ∀ {l : List (Int × Int)} {p : Int} {done : List (List Int)} {cur ats : List Int} {fs : List (List Int)} {ats' : List Int}, goF tc p done cur ats l = some (fs, ats') → ats.length = done.length + 1 → ats'.length = fs.length ∧ fs.length ≤ done.length + 1 + l.length
  | [], p, done, cur, ats, fs, ats', h, hl => by
    rw [goF] at h
    cases h
    simp
    omega
  | x :: r, p, done, cur, ats, fs, ats', h, hl => by
    rw [goF] at h
    split at h
    · cases h
    · split at h
      · have := goF_len h (by simp [hl])
        simp at this ⊢
        omega
      · have := goF_len h hl
        simp at this ⊢
        omega
theorem framesF_len {tc : Int} {lo : List (Int × Int)} {fs : List (List Int)} {ats : List Int} (h : framesF tc lo = some (fs, ats)) : ats.length = fs.length ∧ fs.length ≤ lo.length := by
  cases lo with
  | nil => cases h; simp
  | cons x r =>
    rw [framesF] at h
    split at h
    · cases h
    · have := goF_len h rfl
      simp at this ⊢
      omega
/-- Within a frame's round: only rows, and blocks of their own, are turned. -/
def Mid (base : Nat) (W V : World) : Prop := Fr (fun b => base ≤ b) W V ∧ Kt (fun t => t ≠ 47 ∧ t ≠ 3) W V
theorem Mid.refl (base : Nat) (W : World) : Mid base W W := ⟨Fr.refl _ _, Kt.refl _ _⟩
theorem Mid.drew {base : Nat} {W V : World} (h : Mid base W V) : Mid base W V.drew := ⟨h.1.drew, h.2⟩
theorem Mid.alloc {base : Nat} {W V : World} (h : Mid base W V) (o : Obj) : Mid base W (V.alloc o) := ⟨h.1.alloc o, h.2.trans (Kt.of_nob ((Fr.refl nob V).alloc o))⟩
theorem Mid.grown {base n : Nat} {W V V' : World} {e : TypeId} {v : Value} {xs : List Value} (h : Mid base W V) (ho : V.ownsRow base e 1 v n xs) (he : e = 47 ∨ e = 3) (hg : V.grownBy V' v.ownBlock) : Mid base W V' := by
  have hf : Fr (fun b => some b = v.ownBlock) V V' := (Fr.refl _ V).grown hg (fun k hk => .inl hk.symm)
  refine ⟨h.1.trans hf (fun i _ hi => own_at ho i hi.symm), h.2.trans (Kt.of_fr hf fun g t cs hs ht hb => ?_)⟩
  obtain ⟨cs', hc⟩ := own_block ho g hs.symm
  unfold Blk at hb
  rw [hb] at hc
  cases hc
  rcases he with rfl | rfl
  · exact ht.1 rfl
  · exact ht.2 rfl
theorem take_more {α : Type} {l : List α} {k : Nat} {x : α} (h : l[k]? = some x) : l.take (k + 1) = l.take k ++ [x] := by
  rw [List.take_add_one, h]
  rfl
/-- One frame more. -/
theorem fr_round {w W V : World} {B k : Nat} {fs : List (List Int)} {ats : List Int} {ov av ov1 av1 : Value} {vs : List Value} {a : Int} {f : List Int} {Ay : Option Addr} {ny cy : Nat}
    (hz : w.heap.size + 3 ≤ B) (hfw : Fr nob w W) (hBW : B + 3 ≤ W.heap.size) (b1 : Blk W (w.heap.size + 1) 64 #[ov]) (b2 : Blk W (w.heap.size + 2) 57 #[av])
    (hvs : vs.length = (fs.take k).length) (hin : ∀ (i : Nat) v, vs[i]? = some v → ∃ f, (fs.take k)[i]? = some f ∧ InnB W (B + 3) v f) (hy : InnB W (B + 3) (.slice Ay ny cy) f)
    (hx : (ats.zip fs)[k]? = some (a, f)) (hM : Mid (B + 3) W V) (ho : V.ownsRow (B + 3) 47 1 ov1 ((fs.take k).length + 1) (vs ++ [.slice Ay ny cy]))
    (ha : V.ownsRow (B + 3) 3 1 av1 ((ats.take k).length + 1) (nums .i64 (ats.take k) ++ [.int .i64 a])) :
    Fr (fun b => (b = w.heap.size + 1 ∨ b = w.heap.size + 2 ∨ B ≤ b) ∧ b ≠ B ∧ b ≠ B + 1) W ((V.setCell ⟨w.heap.size + 1, 0, none⟩ ov1).setCell ⟨w.heap.size + 2, 0, none⟩ av1) ∧
    Kt (fun t => t = 117 ∨ t = 110) W ((V.setCell ⟨w.heap.size + 1, 0, none⟩ ov1).setCell ⟨w.heap.size + 2, 0, none⟩ av1) ∧
    FrI w B fs ats (k + 1) ((V.setCell ⟨w.heap.size + 1, 0, none⟩ ov1).setCell ⟨w.heap.size + 2, 0, none⟩ av1) := by
  obtain ⟨hf, hk⟩ := hM
  obtain ⟨hxa, hxf⟩ := List.getElem?_zip_eq_some.1 hx
  dsimp only at hxa hxf
  have hb1 : Blk V (w.heap.size + 1) 64 #[ov] := hk _ _ _ (by decide) b1
  have hb2 : Blk V (w.heap.size + 2) 57 #[av] := hk _ _ _ (by decide) b2
  have hset : Fr (fun b => b = w.heap.size + 1 ∨ b = w.heap.size + 2) V ((V.setCell ⟨w.heap.size + 1, 0, none⟩ ov1).setCell ⟨w.heap.size + 2, 0, none⟩ av1) :=
    ((Fr.refl _ V).set_ (p := ⟨w.heap.size + 1, 0, none⟩) (.inl (.inl rfl)) _).set_ (p := ⟨w.heap.size + 2, 0, none⟩) (.inl (.inr rfl)) _
  have hkset : Kt (fun t => t ≠ 64 ∧ t ≠ 57) V ((V.setCell ⟨w.heap.size + 1, 0, none⟩ ov1).setCell ⟨w.heap.size + 2, 0, none⟩ av1) := by
    refine Kt.of_fr hset fun g t cs hs ht hb => ?_
    rcases hs with rfl | rfl
    · unfold Blk at hb hb1; rw [hb] at hb1; cases hb1; exact ht.1 rfl
    · unfold Blk at hb hb2; rw [hb] at hb2; cases hb2; exact ht.2 rfl
  have hmore := take_more hxf
  have hmorea := take_more hxa
  have hfS : Fr (fun b => (b = w.heap.size + 1 ∨ b = w.heap.size + 2 ∨ B ≤ b) ∧ b ≠ B ∧ b ≠ B + 1) W ((V.setCell ⟨w.heap.size + 1, 0, none⟩ ov1).setCell ⟨w.heap.size + 2, 0, none⟩ av1) :=
    (hf.more (fun i hi => ⟨by omega, by omega, by omega⟩)).trans hset (fun i _ hi => ⟨by omega, by omega, by omega⟩)
  have hkW : Kt (fun t => t ≠ 47 ∧ t ≠ 3 ∧ t ≠ 64 ∧ t ≠ 57) W ((V.setCell ⟨w.heap.size + 1, 0, none⟩ ov1).setCell ⟨w.heap.size + 2, 0, none⟩ av1) :=
    fun g t cs ht hb => hkset g t cs ⟨ht.2.2.1, ht.2.2.2⟩ (hk g t cs ⟨ht.1, ht.2.1⟩ hb)
  refine ⟨hfS, fun g t cs ht hb => hkW g t cs (by rcases ht with rfl | rfl <;> decide) hb, ov1, av1, ?_, ?_, ⟨vs ++ [.slice Ay ny cy], ?_, ?_, fun i v hv => ?_⟩, ?_, hfw.newer hfS (fun i hi => by omega)⟩
  · have := (hb1.set_ 0 ov1).far (p := ⟨w.heap.size + 2, 0, none⟩) (by simp) av1
    simpa using this
  · have := (hb2.far (p := ⟨w.heap.size + 1, 0, none⟩) (by simp) ov1).set_ 0 av1
    simpa using this
  · rw [hmore, List.length_append, List.length_append, hvs]
    rfl
  · rw [hmore, List.length_append]
    exact own_set (i := 0) (own_set (i := 0) ho hb1 (by decide) ov1) (hb2.far (p := ⟨w.heap.size + 1, 0, none⟩) (by simp) ov1) (by decide) av1
  · have hkeep : ∀ g cs, B + 3 ≤ g → Blk W g 5 cs → Blk ((V.setCell ⟨w.heap.size + 1, 0, none⟩ ov1).setCell ⟨w.heap.size + 2, 0, none⟩ av1) g 5 cs := fun g cs _ hb => hkW g _ cs (by decide) hb
    rw [hmore]
    rcases Nat.lt_or_ge i vs.length with hi | hi
    · rw [List.getElem?_append_left hi] at hv
      obtain ⟨f', hf', hr⟩ := hin i v hv
      exact ⟨f', by rw [List.getElem?_append_left (by omega)]; exact hf', hr.keep hfS.size hkeep⟩
    · rw [List.getElem?_append_right hi] at hv
      have h0 : i - vs.length = 0 := by
        rcases Nat.eq_zero_or_pos (i - vs.length) with h | h
        · exact h
        · rw [List.getElem?_eq_none (by simp; omega)] at hv
          cases hv
      rw [h0] at hv
      simp at hv
      subst hv
      refine ⟨f, ?_, hy.keep hfS.size hkeep⟩
      rw [List.getElem?_append_right (by omega), show i - (fs.take k).length = 0 by omega]
      rfl
  · rw [hmorea, List.length_append, nums_app]
    exact own_set (i := 0) (own_set (i := 0) ha hb1 (by decide) ov1) (hb2.far (p := ⟨w.heap.size + 1, 0, none⟩) (by simp) ov1) (by decide) av1
end Go.Proofs.Ytmpjdploacfmeaa
