/- The law of a range over a function that keeps one boxed record which it turns between two yields (XRange's law, with that block apart). No program is spoken of. -/
import Derived.Test.YtmpjdploacfmeaaRange
namespace Go.Proofs.Ytmpjdploacfmeaa
set_option linter.unusedSimpArgs false
set_option linter.unusedVariables false
open Go.RowKit

/-- Blocks of some types lie on. -/
def Kt (It : TypeId → Prop) (W W' : World) : Prop := ∀ g t cs, It t → Blk W g t cs → Blk W' g t cs
theorem Kt.refl (It : TypeId → Prop) (W : World) : Kt It W W := fun _ _ _ _ h => h
theorem Kt.trans {It : TypeId → Prop} {W W' W'' : World} (h : Kt It W W') (k : Kt It W' W'') : Kt It W W'' := fun g t cs ht hb => k g t cs ht (h g t cs ht hb)
theorem Kt.of_kc {It : TypeId → Prop} {B : Nat} {W W' : World} (h : Kc B W W') : Kt It W W' := fun _ _ _ _ hb => h.blk hb
theorem Kt.of_nob {It : TypeId → Prop} {W W' : World} (h : Fr nob W W') : Kt It W W' := fun _ _ _ _ hb => hb.fr h id
/-- Only blocks of other types, and new ones, were turned. -/
theorem Kt.of_fr {It : TypeId → Prop} {S : Nat → Prop} {W W' : World} (h : Fr S W W') (hS : ∀ g t cs, S g → It t → ¬ Blk W g t cs) : Kt It W W' := fun g t cs ht hb => hb.fr h (fun hs => hS g t cs hs ht hb)

/-- An iterator's contract that keeps one boxed record, the first block that it makes, and turns it between two yields: it yields xs, one by one, each in memory that Enc speaks of (of that record's block, too); S: what the rounds may turn. -/
def SeqT {α : Type} (F : Fence) (n : Nat) (P : Program) (gf : Nat) (lb : Array Value) (xs : List α) (Enc : Nat → α → Value → World → Prop) (S : Nat → Prop) (It : TypeId → Prop) (w : World) : Prop :=
  ∀ (l : Nat) (J Jx : Nat → World → Prop) (W : World), Fr nob w W →
    (∀ k W1 W2, J k W1 → Fr (fun b => b = W.heap.size) W1 W2 → J k W2) → (∀ k W1 W2, Jx k W1 → Fr nob W1 W2 → Jx k W2) →
    (∀ k x v W1, xs[k]? = some x → Enc W.heap.size x v W1 → J k W1 → YieldAt F (n - 1) P l #[v] W1 fun e W' =>
      (e = .returned (.bool true) ∧ J (k + 1) W' ∧ Fr S W1 W' ∧ Kt It W1 W') ∨ (e = .returned (.bool false) ∧ Jx (k + 1) W')) →
    J 0 W → CallsIn F n P gf (#[.func (.yield l) #[] #[]] ++ lb) W fun e W' => (∃ v, e = .returned v) ∧ (J xs.length W' ∨ ∃ k, Jx k W')

/-- How a round's body may be left. -/
def roundT (S : Nat → Prop) (It : TypeId → Prop) (B : Nat) (I : Nat → World → Prop) (Ix : Code → Nat → World → Prop) (k : Nat) (W : World) : Exit → Act → World → Prop
  | .normal, _, W' => Fr (fun b => S b ∧ b ≠ B ∧ b ≠ B + 1) W W' ∧ Kt It W W' ∧ I k W'
  | .ret, _, W' => Fr (fun b => S b ∧ b ≠ B ∧ b ≠ B + 1) W W' ∧ Kt It W W' ∧ Ix .ret k W'
  | .exit id, _, W' => Fr (fun b => S b ∧ b ≠ B ∧ b ≠ B + 1) W W' ∧ Kt It W W' ∧ Ix (.exit id) k W'
  | .goto t, _, W' => Fr (fun b => S b ∧ b ≠ B ∧ b ≠ B + 1) W W' ∧ Kt It W W' ∧ Ix (.goto t) k W'
  | .panic _, _, _ => False
  | .outgrown, _, _ => False

section
variable {F : Fence} {n : Nat} {P : Program}

theorem range_t {α : Type} {g : Operand} {ps : Array Tmp} {assign body : Code} {Q : Exit → Act → World → Prop} {a : Act} {w : World}
    (hro : F.round = none) (h1 : 1 ≤ n) {gf : Nat} {lb : Array Value} (hg : a.eval g = .func (.func gf) #[] lb) (hFg : F.fn gf) (eg : ∀ args w, (callFunc gf args).run P w = .ok (.enter gf args) w)
    {xs : List α} {Enc : Nat → α → Value → World → Prop} {S : Nat → Prop} {It : TypeId → Prop} (hseq : SeqT F (n - 1) P gf lb xs Enc S It w) (hps : ps.size = 1)
    (hS : ∀ b, w.heap.size ≤ b → S b)
    (I : Nat → World → Prop) (Ix : Code → Nat → World → Prop) (hI : ∀ k W W', I k W → Kc w.heap.size W W' → I k W') (hIx : ∀ c k W W', Ix c k W → Kc w.heap.size W W' → Ix c k W') (h0 : I 0 w) (hIT : ∀ k W W', I k W → Fr (fun b => b = w.heap.size + 2) W W' → I k W')
    (hround : ∀ (l : Nat) (k : Nat) (x : α) (v : Value) (W : World), l = w.heap.size + 1 → xs[k]? = some x → Enc (w.heap.size + 2) x v W → I k W → w.heap.size + 2 ≤ W.heap.size →
      assign.wpIn (F.inRound l) (n - 1 - 1) P (Exit.then (fun a₁ w₁ => Fr nob W w₁ ∧ ∀ w₂, Kc w.heap.size w₁ w₂ → w₂.heap.size = w₁.heap.size →
          body.wpIn (F.inRound l) (n - 1 - 1) P (roundT S It w.heap.size I Ix (k + 1) w₂) a₁ w₂) (fun _ _ _ => False))
        { tmps := (ps.zip #[v]).foldl (fun t (p, v) => t.setIfInBounds p v) a.tmps, defers := [] } W)
    (hdone : ∀ (W : World), I xs.length W → W.heap[w.heap.size]? = some (.deferred (some [])) → Q .normal { a with defers := [{ target := .collected w.heap.size, args := #[] }] ++ a.defers } W)
    (hstop : ∀ (c : Code) (k : Nat) (W : World), Ix c k W → W.heap[w.heap.size]? = some (.deferred (some [])) → c.wpIn F n P Q { a with defers := [{ target := .collected w.heap.size, args := #[] }] ++ a.defers } W) :
    (Code.rangeFunc g ps assign body).wpIn F n P Q a w := by
  refine wpIn_rangeFunc ?_
  intro fn hfn
  rw [hro]
  obtain ⟨rec, hrec⟩ : ∃ rec : LoopState → Option Code → Loop, rec = fun st pe => { state := st, pending := pe, fn, tmps := a.tmps, params := ps, assign, body, defers := w.heap.size } := ⟨_, rfl⟩
  obtain ⟨W1, hW1⟩ : ∃ W1, (w.alloc (.deferred (some []))).alloc (.loop (rec .ready none)) = W1 := ⟨_, rfl⟩
  have hL1 : W1.heap[w.heap.size + 1]? = some (.loop (rec .ready none)) := by
    rw [← hW1]; have := World.alloc_heap_new (w.alloc (.deferred (some []))) (.loop (rec .ready none)); rwa [World.size_alloc] at this
  have hK1 : W1.heap[w.heap.size]? = some (.deferred (some [])) := by
    rw [← hW1]; exact (Below.heap_alloc _ _ _ (by simp)).trans (World.alloc_heap_new w _)
  have hf1 : Fr nob w W1 := by rw [← hW1]; exact ((Fr.refl _ w).alloc _).alloc _
  have hs1 : W1.heap.size = w.heap.size + 2 := by rw [← hW1]; simp
  refine ⟨w.heap.size + 1, [{ target := .collected w.heap.size, args := #[] }], W1, { target := .fn (.func gf) lb, args := #[.func (.yield (w.heap.size + 1)) #[] #[]] }, W1, gf,
    #[.func (.yield (w.heap.size + 1)) #[] #[]] ++ lb, W1, ?_, ?_, ?_, ?_, fun _ => h1, ?_⟩
  · rw [← hW1, hrec]; exact run_enterLoop_outer _ _ _ _ _
  · simp only [resolve, hg]
    simp [go_sem]
  · intro f' hf'; simp [Target.leads] at hf'; subst hf'; exact hFg
  · simp [invoke, go_sem, eg]
  · have nl : ∀ st pe cs t f, Obj.loop (rec st pe) ≠ .cells cs t f := fun _ _ _ _ _ h => by cases h
    refine (hseq (w.heap.size + 1)
      (fun k W => I k W ∧ W.heap[w.heap.size + 1]? = some (.loop (rec .ready none)) ∧ W.heap[w.heap.size]? = some (.deferred (some [])) ∧ w.heap.size + 2 ≤ W.heap.size)
      (fun k W => ∃ c, Ix c k W ∧ W.heap[w.heap.size + 1]? = some (.loop (rec .done (some c))) ∧ W.heap[w.heap.size]? = some (.deferred (some [])) ∧ w.heap.size + 2 ≤ W.heap.size)
      W1 hf1
      (fun k A B' ⟨hi, hl, hk, hz⟩ hf => ⟨hIT k A B' hi (hf.more fun b hb => by omega), (hf.block _ (by omega) (by omega)).trans hl, (hf.block _ (by omega) (by omega)).trans hk, Nat.le_trans hz hf.size⟩)
      (fun k A B' ⟨c, hi, hl, hk, hz⟩ hf => ⟨c, hIx c k A B' hi (Kc.of_nob hf (by omega)), (hf.block _ (by omega) id).trans hl, (hf.block _ (by omega) id).trans hk, Nat.le_trans hz hf.size⟩)
      ?_ ⟨hI 0 w W1 h0 (Kc.of_nob hf1 (by omega)), hL1, hK1, by omega⟩).mono ?_
    · rintro k x v W hx hev ⟨hi, hl, hk, hz⟩
      have hy := run_yield (P := P) (args := #[v]) hl (by rw [hrec]; simp [hps])
      rw [hrec] at hy
      refine ⟨fn, _, assign, body, hy, roundIn_of_wpIn hfn (wpIn_mono (hround _ k x v W rfl hx (hs1 ▸ hev) hi hz) ?_)⟩
      intro e a₁ w₁ hp
      cases e with
      | normal =>
        obtain ⟨hf, hb⟩ := hp
        have hl' : w₁.heap[w.heap.size + 1]? = some (.loop (rec .ready none)) := (hf.block _ (by omega) id).trans hl
        have hk' : w₁.heap[w.heap.size]? = some (.deferred (some [])) := (hf.block _ (by omega) id).trans hk
        have hz' : w.heap.size + 2 ≤ w₁.heap.size := Nat.le_trans hz hf.size
        refine ⟨_, run_beginRound hl' (by rw [hrec]), ?_⟩
        have hl2 : (w₁.putObj (w.heap.size + 1) (.loop { rec .ready none with state := .busy })).heap[w.heap.size + 1]? = some (.loop { rec .ready none with state := .busy }) := World.putObj_heap_same (by omega)
        have hk2 : (w₁.putObj (w.heap.size + 1) (.loop { rec .ready none with state := .busy })).heap[w.heap.size]? = some (.deferred (some [])) := (World.putObj_heap_other (by omega)).trans hk'
        have kt2 : Kt It W (w₁.putObj (w.heap.size + 1) (.loop { rec .ready none with state := .busy })) := (Kt.of_nob hf).trans (Kt.of_kc (Kc.putObj (B := 0) w₁ _ hl' (nl _ _) (by omega)))
        have hf2 : Fr S W (w₁.putObj (w.heap.size + 1) (.loop { rec .ready none with state := .busy })) :=
          ⟨hf.os, hf.tape, hf.output, Nat.le_trans hf.size (by simp), fun i hi' hn => (World.putObj_heap_other (fun e => hn (hS i (by omega)))).trans (hf.block i hi' id)⟩
        refine wpIn_mono (hb _ (Kc.putObj w₁ _ hl' (nl _ _) (by omega)) (by simp)) ?_
        have fin : ∀ (jump : Option Code) (W3 : World), Fr (fun b => S b ∧ b ≠ w.heap.size ∧ b ≠ w.heap.size + 1) (w₁.putObj (w.heap.size + 1) (.loop { rec .ready none with state := .busy })) W3 → Kt It (w₁.putObj (w.heap.size + 1) (.loop { rec .ready none with state := .busy })) W3 →
            (Instr.endRound (w.heap.size + 1) jump).run P W3 = .ok (.bool jump.isNone) (W3.putObj (w.heap.size + 1) (.loop (rec (if jump.isNone then .ready else .done) jump))) ∧
            Kc w.heap.size W3 (W3.putObj (w.heap.size + 1) (.loop (rec (if jump.isNone then .ready else .done) jump))) ∧
            (W3.putObj (w.heap.size + 1) (.loop (rec (if jump.isNone then .ready else .done) jump))).heap[w.heap.size + 1]? = some (.loop (rec (if jump.isNone then .ready else .done) jump)) ∧
            (W3.putObj (w.heap.size + 1) (.loop (rec (if jump.isNone then .ready else .done) jump))).heap[w.heap.size]? = some (.deferred (some [])) ∧
            w.heap.size + 2 ≤ (W3.putObj (w.heap.size + 1) (.loop (rec (if jump.isNone then .ready else .done) jump))).heap.size ∧
            Fr S W (W3.putObj (w.heap.size + 1) (.loop (rec (if jump.isNone then .ready else .done) jump))) ∧ Kt It W (W3.putObj (w.heap.size + 1) (.loop (rec (if jump.isNone then .ready else .done) jump))) := fun jump W3 hk3 kt3 => by
          have hl3 : W3.heap[w.heap.size + 1]? = some (.loop { rec .ready none with state := .busy }) := (hk3.block _ (by simp; omega) (by simp)).trans hl2
          have hk4 : W3.heap[w.heap.size]? = some (.deferred (some [])) := (hk3.block _ (by simp; omega) (by simp)).trans hk2
          have hz3 : w.heap.size + 2 ≤ W3.heap.size := Nat.le_trans (by simp; omega) hk3.size
          have := run_endRound (P := P) jump hl3
          have f3 : Fr S W W3 := hf2.trans hk3 (fun i _ h => h.1)
          refine ⟨by rw [hrec] at this ⊢; exact this, Kc.putObj W3 _ hl3 (fun _ _ _ h => by cases h) (by omega), World.putObj_heap_same (by omega), (World.putObj_heap_other (by omega)).trans hk4, by simp; omega, ?_, (kt2.trans kt3).trans (Kt.of_kc (Kc.putObj (B := 0) W3 _ hl3 (fun _ _ _ h => by cases h) (by omega)))⟩
          exact ⟨f3.os, f3.tape, f3.output, Nat.le_trans f3.size (by simp), fun i hi' hn => (World.putObj_heap_other (fun e => hn (hS i (by omega)))).trans (f3.block i hi' hn)⟩
        rintro e a3 W3 hp
        cases e with
        | normal =>
          obtain ⟨hk3, kt3, hi3⟩ := hp
          obtain ⟨hr, hkc, hl4, hk4, hz4, hf4, kt4⟩ := fin none W3 hk3 kt3
          exact ⟨_, _, hr, .inl ⟨rfl, ⟨hI _ _ _ hi3 hkc, hl4, hk4, hz4⟩, hf4, kt4⟩⟩
        | ret =>
          obtain ⟨hk3, kt3, hi3⟩ := hp
          obtain ⟨hr, hkc, hl4, hk4, hz4, hf4, kt4⟩ := fin (some .ret) W3 hk3 kt3
          exact ⟨_, _, hr, .inr ⟨rfl, .ret, hIx _ _ _ _ hi3 hkc, hl4, hk4, hz4⟩⟩
        | exit id =>
          obtain ⟨hk3, kt3, hi3⟩ := hp
          obtain ⟨hr, hkc, hl4, hk4, hz4, hf4, kt4⟩ := fin (some (.exit id)) W3 hk3 kt3
          exact ⟨_, _, hr, .inr ⟨rfl, .exit id, hIx _ _ _ _ hi3 hkc, hl4, hk4, hz4⟩⟩
        | goto t =>
          obtain ⟨hk3, kt3, hi3⟩ := hp
          obtain ⟨hr, hkc, hl4, hk4, hz4, hf4, kt4⟩ := fin (some (.goto t)) W3 hk3 kt3
          exact ⟨_, _, hr, .inr ⟨rfl, .goto t, hIx _ _ _ _ hi3 hkc, hl4, hk4, hz4⟩⟩
        | panic ch => exact hp.elim
        | outgrown => exact hp.elim
      | exit id => exact hp.elim
      | goto t => exact hp.elim
      | ret => exact hp.elim
      | panic chain => exact hp.elim
      | outgrown => exact hp.elim
    · rintro e W2 ⟨⟨v, rfl⟩, (⟨hi, hl, hk, hz⟩ | ⟨k, c, hi, hl, hk, hz⟩)⟩
      · exact ⟨none, _, by have := run_endLoop (P := P) hl (by rw [hrec]; simp); rw [hrec] at this; exact this, hdone _ (hI _ _ _ hi (Kc.putObj W2 _ hl (nl _ _) (by omega))) ((World.putObj_heap_other (by omega)).trans hk)⟩
      · exact ⟨some c, _, by have := run_endLoop (P := P) hl (by rw [hrec]; simp); rw [hrec] at this; exact this, hstop c k _ (hIx _ _ _ _ hi (Kc.putObj W2 _ hl (nl _ _) (by omega))) ((World.putObj_heap_other (by omega)).trans hk)⟩
end
end Go.Proofs.Ytmpjdploacfmeaa
