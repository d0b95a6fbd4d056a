/- The law of a range over a function whose values are laid in new memory: what is known of a value when it is yielded goes to the round's body. No program is spoken of. -/
import Derived.Test.YtmpjdploacfmeaaBase2
import Derived.RangeFuncOwn
import Derived.RangeFuncLeaves
import Derived.OwnWalkIn
import Derived.TacticsInMore
import Derived.LoopNIn
import Derived.LoopIn
import Derived.Maps.OwnIn
namespace Go.Proofs.Ytmpjdploacfmeaa
set_option linter.unusedSimpArgs false
set_option linter.unusedVariables false
open Go.RowKit

/-- From W to W' lie on: each block below B, each block of cells. -/
structure Kc (B : Nat) (W W' : World) : Prop where
  os : W'.os = W.os
  tape : W'.tape = W.tape
  output : W'.output = W.output
  size : W.heap.size ≤ W'.heap.size
  old : ∀ (k : Nat), k < B → W'.heap[k]? = W.heap[k]?
  cells : ∀ (k : Nat) (cs : Array Value) (t : TypeId) (f : Nat × Nat), W.heap[k]? = some (Obj.cells cs t f) → W'.heap[k]? = some (Obj.cells cs t f)

section
variable {B : Nat} {w W W' W'' : World} {S : Nat → Prop}
theorem Kc.refl (B : Nat) (W : World) : Kc B W W := ⟨rfl, rfl, rfl, Nat.le_refl _, fun _ _ => rfl, fun _ _ _ _ h => h⟩
theorem Kc.trans (h : Kc B W W') (k : Kc B W' W'') : Kc B W W'' :=
  ⟨k.os.trans h.os, k.tape.trans h.tape, k.output.trans h.output, Nat.le_trans h.size k.size, fun i hi => (k.old i hi).trans (h.old i hi), fun i cs t f hi => k.cells i cs t f (h.cells i cs t f hi)⟩
theorem Kc.of_nob (h : Fr nob W W') (hB : B ≤ W.heap.size) : Kc B W W' :=
  ⟨h.os, h.tape, h.output, h.size, fun i hi => h.block i (by omega) id, fun i cs t f hi => (h.block i (lt_of_block hi) id).trans hi⟩
theorem Kc.putObj (W : World) {l : Nat} {o : Obj} (o' : Obj) (h : W.heap[l]? = some o) (ho : ∀ cs t f, o ≠ Obj.cells cs t f) (hl : B ≤ l) : Kc B W (W.putObj l o') :=
  ⟨rfl, rfl, rfl, by simp, fun i hi => World.putObj_heap_other (by omega), fun i cs t f hi => by
    by_cases e : i = l
    · subst e; rw [h] at hi; injection hi with hi; exact (ho _ _ _ hi).elim
    · exact (World.putObj_heap_other e).trans hi⟩
theorem Kc.blk {g : Nat} {t : TypeId} {cs : Array Value} (h : Kc B W W') (hb : Blk W g t cs) : Blk W' g t cs := h.cells g cs t (0, 0) hb
theorem Kc.fr (h : Kc w.heap.size W W') (hf : Fr S w W) : Fr S w W' :=
  ⟨h.os.trans hf.os, h.tape.trans hf.tape, h.output.trans hf.output, Nat.le_trans hf.size h.size, fun i hi hn => (h.old i hi).trans (hf.block i hi hn)⟩
theorem Kc.cell (h : Kc B W W') {p : Addr} {u : Value} (hc : W.cell? p = some u) : W'.cell? p = some u := by
  cases hb : W.heap[p.block]? with
  | none => simp [World.cell?, hb] at hc
  | some o =>
    cases o with
    | cells cs t f => exact (World.cell?_of_block ((h.cells _ _ _ _ hb).trans hb.symm)).trans hc
    | _ => simp [World.cell?, hb] at hc
theorem Kc.rd {size n : Nat} {A : Option Addr} {xs : List Value} (h : Kc B W W') (hr : Rd W size A n xs) : Rd W' size A n xs :=
  ⟨hr.1, fun hn => by
    obtain ⟨b, o, e, hb, hc⟩ := hr.2 hn
    exact ⟨b, o, e, Nat.lt_of_lt_of_le hb h.size, fun j u hu => h.cell (hc j u hu)⟩⟩
theorem Kc.own {base n : Nat} {e : TypeId} {size : Nat} {v : Value} {xs : List Value} (h : Kc B W W') (ho : W.ownsRow base e size v n xs) : W'.ownsRow base e size v n xs := by
  obtain ⟨h1, h2⟩ := ho
  refine ⟨h1, ?_⟩
  rcases h2 with h2 | ⟨g, cap, cur, hv, hg, hh, r⟩
  · exact Or.inl h2
  · exact Or.inr ⟨g, cap, cur, hv, hg, h.cells _ _ _ _ hh, r⟩
end

/-- An iterator's contract: it yields xs, one by one, each in memory that Enc speaks of; S: what the rounds may turn. -/
def SeqV {α : Type} (F : Fence) (n : Nat) (P : Program) (gf : Nat) (lb : Array Value) (xs : List α) (Enc : α → Value → World → Prop) (S : Nat → Prop) (w : World) : Prop :=
  ∀ (l : Nat) (J Jx : Nat → World → Prop) (W : World), Fr nob w W →
    (∀ k W1 W2, J k W1 → Fr nob W1 W2 → J k W2) → (∀ k W1 W2, Jx k W1 → Fr nob W1 W2 → Jx k W2) →
    (∀ k x v W1, xs[k]? = some x → Enc x v W1 → J k W1 → YieldAt F (n - 1) P l #[v] W1 fun e W' =>
      (e = .returned (.bool true) ∧ J (k + 1) W' ∧ Fr S W1 W') ∨ (e = .returned (.bool false) ∧ Jx (k + 1) W')) →
    J 0 W → CallsIn F n P gf (#[.func (.yield l) #[] #[]] ++ lb) W fun e W' => (∃ v, e = .returned v) ∧ (J xs.length W' ∨ ∃ k, Jx k W')

/-- How a round's body may be left. -/
def roundV (S : Nat → Prop) (B : Nat) (I : Nat → World → Prop) (Ix : Code → Nat → World → Prop) (k : Nat) (W : World) : Exit → Act → World → Prop
  | .normal, _, W' => Fr (fun b => S b ∧ b ≠ B ∧ b ≠ B + 1) W W' ∧ I k W'
  | .ret, _, W' => Fr (fun b => S b ∧ b ≠ B ∧ b ≠ B + 1) W W' ∧ Ix .ret k W'
  | .exit id, _, W' => Fr (fun b => S b ∧ b ≠ B ∧ b ≠ B + 1) W W' ∧ Ix (.exit id) k W'
  | .goto t, _, W' => Fr (fun b => S b ∧ b ≠ B ∧ b ≠ B + 1) W W' ∧ Ix (.goto t) k W'
  | .panic _, _, _ => False
  | .outgrown, _, _ => False

variable {F : Fence} {n : Nat} {P : Program}

theorem range_v {α : Type} {g : Operand} {ps : Array Tmp} {assign body : Code} {Q : Exit → Act → World → Prop} {a : Act} {w : World}
    (hro : F.round = none) (h1 : 1 ≤ n) {gf : Nat} {lb : Array Value} (hg : a.eval g = .func (.func gf) #[] lb) (hFg : F.fn gf) (eg : ∀ args w, (callFunc gf args).run P w = .ok (.enter gf args) w)
    {xs : List α} {Enc : α → Value → World → Prop} {S : Nat → Prop} (hseq : SeqV F (n - 1) P gf lb xs Enc S w) (hps : ps.size = 1)
    (hS : ∀ b, w.heap.size ≤ b → S b)
    (I : Nat → World → Prop) (Ix : Code → Nat → World → Prop) (hI : ∀ k W W', I k W → Kc w.heap.size W W' → I k W') (hIx : ∀ c k W W', Ix c k W → Kc w.heap.size W W' → Ix c k W') (h0 : I 0 w)
    (hround : ∀ (l : Nat) (k : Nat) (x : α) (v : Value) (W : World), l = w.heap.size + 1 → xs[k]? = some x → Enc x v W → I k W → w.heap.size + 2 ≤ W.heap.size →
      assign.wpIn (F.inRound l) (n - 1 - 1) P (Exit.then (fun a₁ w₁ => Fr nob W w₁ ∧ ∀ w₂, Kc w.heap.size w₁ w₂ → w₂.heap.size = w₁.heap.size →
          body.wpIn (F.inRound l) (n - 1 - 1) P (roundV S w.heap.size I Ix (k + 1) w₂) a₁ w₂) (fun _ _ _ => False))
        { tmps := (ps.zip #[v]).foldl (fun t (p, v) => t.setIfInBounds p v) a.tmps, defers := [] } W)
    (hdone : ∀ (W : World), I xs.length W → W.heap[w.heap.size]? = some (.deferred (some [])) → Q .normal { a with defers := [{ target := .collected w.heap.size, args := #[] }] ++ a.defers } W)
    (hstop : ∀ (c : Code) (k : Nat) (W : World), Ix c k W → W.heap[w.heap.size]? = some (.deferred (some [])) → c.wpIn F n P Q { a with defers := [{ target := .collected w.heap.size, args := #[] }] ++ a.defers } W) :
    (Code.rangeFunc g ps assign body).wpIn F n P Q a w := by
  refine wpIn_rangeFunc ?_
  intro fn hfn
  rw [hro]
  obtain ⟨rec, hrec⟩ : ∃ rec : LoopState → Option Code → Loop, rec = fun st pe => { state := st, pending := pe, fn, tmps := a.tmps, params := ps, assign, body, defers := w.heap.size } := ⟨_, rfl⟩
  obtain ⟨W1, hW1⟩ : ∃ W1, (w.alloc (.deferred (some []))).alloc (.loop (rec .ready none)) = W1 := ⟨_, rfl⟩
  have hL1 : W1.heap[w.heap.size + 1]? = some (.loop (rec .ready none)) := by
    rw [← hW1]; have := World.alloc_heap_new (w.alloc (.deferred (some []))) (.loop (rec .ready none)); rwa [World.size_alloc] at this
  have hK1 : W1.heap[w.heap.size]? = some (.deferred (some [])) := by
    rw [← hW1]; exact (Below.heap_alloc _ _ _ (by simp)).trans (World.alloc_heap_new w _)
  have hf1 : Fr nob w W1 := by rw [← hW1]; exact ((Fr.refl _ w).alloc _).alloc _
  have hs1 : W1.heap.size = w.heap.size + 2 := by rw [← hW1]; simp
  refine ⟨w.heap.size + 1, [{ target := .collected w.heap.size, args := #[] }], W1, { target := .fn (.func gf) lb, args := #[.func (.yield (w.heap.size + 1)) #[] #[]] }, W1, gf,
    #[.func (.yield (w.heap.size + 1)) #[] #[]] ++ lb, W1, ?_, ?_, ?_, ?_, fun _ => h1, ?_⟩
  · rw [← hW1, hrec]; exact run_enterLoop_outer _ _ _ _ _
  · simp only [resolve, hg]
    simp [go_sem]
  · intro f' hf'; simp [Target.leads] at hf'; subst hf'; exact hFg
  · simp [invoke, go_sem, eg]
  · have nl : ∀ st pe cs t f, Obj.loop (rec st pe) ≠ .cells cs t f := fun _ _ _ _ _ h => by cases h
    refine (hseq (w.heap.size + 1)
      (fun k W => I k W ∧ W.heap[w.heap.size + 1]? = some (.loop (rec .ready none)) ∧ W.heap[w.heap.size]? = some (.deferred (some [])) ∧ w.heap.size + 2 ≤ W.heap.size)
      (fun k W => ∃ c, Ix c k W ∧ W.heap[w.heap.size + 1]? = some (.loop (rec .done (some c))) ∧ W.heap[w.heap.size]? = some (.deferred (some [])) ∧ w.heap.size + 2 ≤ W.heap.size)
      W1 hf1
      (fun k A B' ⟨hi, hl, hk, hz⟩ hf => ⟨hI k A B' hi (Kc.of_nob hf (by omega)), (hf.block _ (by omega) id).trans hl, (hf.block _ (by omega) id).trans hk, Nat.le_trans hz hf.size⟩)
      (fun k A B' ⟨c, hi, hl, hk, hz⟩ hf => ⟨c, hIx c k A B' hi (Kc.of_nob hf (by omega)), (hf.block _ (by omega) id).trans hl, (hf.block _ (by omega) id).trans hk, Nat.le_trans hz hf.size⟩)
      ?_ ⟨hI 0 w W1 h0 (Kc.of_nob hf1 (by omega)), hL1, hK1, by omega⟩).mono ?_
    · rintro k x v W hx hev ⟨hi, hl, hk, hz⟩
      have hy := run_yield (P := P) (args := #[v]) hl (by rw [hrec]; simp [hps])
      rw [hrec] at hy
      refine ⟨fn, _, assign, body, hy, roundIn_of_wpIn hfn (wpIn_mono (hround _ k x v W rfl hx hev hi hz) ?_)⟩
      intro e a₁ w₁ hp
      cases e with
      | normal =>
        obtain ⟨hf, hb⟩ := hp
        have hl' : w₁.heap[w.heap.size + 1]? = some (.loop (rec .ready none)) := (hf.block _ (by omega) id).trans hl
        have hk' : w₁.heap[w.heap.size]? = some (.deferred (some [])) := (hf.block _ (by omega) id).trans hk
        have hz' : w.heap.size + 2 ≤ w₁.heap.size := Nat.le_trans hz hf.size
        refine ⟨_, run_beginRound hl' (by rw [hrec]), ?_⟩
        have hl2 : (w₁.putObj (w.heap.size + 1) (.loop { rec .ready none with state := .busy })).heap[w.heap.size + 1]? = some (.loop { rec .ready none with state := .busy }) := World.putObj_heap_same (by omega)
        have hk2 : (w₁.putObj (w.heap.size + 1) (.loop { rec .ready none with state := .busy })).heap[w.heap.size]? = some (.deferred (some [])) := (World.putObj_heap_other (by omega)).trans hk'
        have hf2 : Fr S W (w₁.putObj (w.heap.size + 1) (.loop { rec .ready none with state := .busy })) :=
          ⟨hf.os, hf.tape, hf.output, Nat.le_trans hf.size (by simp), fun i hi' hn => (World.putObj_heap_other (fun e => hn (hS i (by omega)))).trans (hf.block i hi' id)⟩
        refine wpIn_mono (hb _ (Kc.putObj w₁ _ hl' (nl _ _) (by omega)) (by simp)) ?_
        have fin : ∀ (jump : Option Code) (W3 : World), Fr (fun b => S b ∧ b ≠ w.heap.size ∧ b ≠ w.heap.size + 1) (w₁.putObj (w.heap.size + 1) (.loop { rec .ready none with state := .busy })) W3 →
            (Instr.endRound (w.heap.size + 1) jump).run P W3 = .ok (.bool jump.isNone) (W3.putObj (w.heap.size + 1) (.loop (rec (if jump.isNone then .ready else .done) jump))) ∧
            Kc w.heap.size W3 (W3.putObj (w.heap.size + 1) (.loop (rec (if jump.isNone then .ready else .done) jump))) ∧
            (W3.putObj (w.heap.size + 1) (.loop (rec (if jump.isNone then .ready else .done) jump))).heap[w.heap.size + 1]? = some (.loop (rec (if jump.isNone then .ready else .done) jump)) ∧
            (W3.putObj (w.heap.size + 1) (.loop (rec (if jump.isNone then .ready else .done) jump))).heap[w.heap.size]? = some (.deferred (some [])) ∧
            w.heap.size + 2 ≤ (W3.putObj (w.heap.size + 1) (.loop (rec (if jump.isNone then .ready else .done) jump))).heap.size ∧
            Fr S W (W3.putObj (w.heap.size + 1) (.loop (rec (if jump.isNone then .ready else .done) jump))) := fun jump W3 hk3 => by
          have hl3 : W3.heap[w.heap.size + 1]? = some (.loop { rec .ready none with state := .busy }) := (hk3.block _ (by simp; omega) (by simp)).trans hl2
          have hk4 : W3.heap[w.heap.size]? = some (.deferred (some [])) := (hk3.block _ (by simp; omega) (by simp)).trans hk2
          have hz3 : w.heap.size + 2 ≤ W3.heap.size := Nat.le_trans (by simp; omega) hk3.size
          have := run_endRound (P := P) jump hl3
          have f3 : Fr S W W3 := hf2.trans hk3 (fun i _ h => h.1)
          refine ⟨by rw [hrec] at this ⊢; exact this, Kc.putObj W3 _ hl3 (fun _ _ _ h => by cases h) (by omega), World.putObj_heap_same (by omega), (World.putObj_heap_other (by omega)).trans hk4, by simp; omega, ?_⟩
          exact ⟨f3.os, f3.tape, f3.output, Nat.le_trans f3.size (by simp), fun i hi' hn => (World.putObj_heap_other (fun e => hn (hS i (by omega)))).trans (f3.block i hi' hn)⟩
        rintro e a3 W3 hp
        cases e with
        | normal =>
          obtain ⟨hk3, hi3⟩ := hp
          obtain ⟨hr, hkc, hl4, hk4, hz4, hf4⟩ := fin none W3 hk3
          exact ⟨_, _, hr, .inl ⟨rfl, ⟨hI _ _ _ hi3 hkc, hl4, hk4, hz4⟩, hf4⟩⟩
        | ret =>
          obtain ⟨hk3, hi3⟩ := hp
          obtain ⟨hr, hkc, hl4, hk4, hz4, hf4⟩ := fin (some .ret) W3 hk3
          exact ⟨_, _, hr, .inr ⟨rfl, .ret, hIx _ _ _ _ hi3 hkc, hl4, hk4, hz4⟩⟩
        | exit id =>
          obtain ⟨hk3, hi3⟩ := hp
          obtain ⟨hr, hkc, hl4, hk4, hz4, hf4⟩ := fin (some (.exit id)) W3 hk3
          exact ⟨_, _, hr, .inr ⟨rfl, .exit id, hIx _ _ _ _ hi3 hkc, hl4, hk4, hz4⟩⟩
        | goto t =>
          obtain ⟨hk3, hi3⟩ := hp
          obtain ⟨hr, hkc, hl4, hk4, hz4, hf4⟩ := fin (some (.goto t)) W3 hk3
          exact ⟨_, _, hr, .inr ⟨rfl, .goto t, hIx _ _ _ _ hi3 hkc, hl4, hk4, hz4⟩⟩
        | panic ch => exact hp.elim
        | outgrown => exact hp.elim
      | exit id => exact hp.elim
      | goto t => exact hp.elim
      | ret => exact hp.elim
      | panic chain => exact hp.elim
      | outgrown => exact hp.elim
    · rintro e W2 ⟨⟨v, rfl⟩, (⟨hi, hl, hk, hz⟩ | ⟨k, c, hi, hl, hk, hz⟩)⟩
      · exact ⟨none, _, by have := run_endLoop (P := P) hl (by rw [hrec]; simp); rw [hrec] at this; exact this, hdone _ (hI _ _ _ hi (Kc.putObj W2 _ hl (nl _ _) (by omega))) ((World.putObj_heap_other (by omega)).trans hk)⟩
      · exact ⟨some c, _, by have := run_endLoop (P := P) hl (by rw [hrec]; simp); rw [hrec] at this; exact this, hstop c k _ (hIx _ _ _ _ hi (Kc.putObj W2 _ hl (nl _ _) (by omega))) ((World.putObj_heap_other (by omega)).trans hk)⟩

theorem Kc.frn {B : Nat} {S : Nat → Prop} {w W W' : World} (h : Kc B W W') (hB : w.heap.size ≤ B) (hf : Fr S w W) : Fr S w W' :=
  ⟨h.os.trans hf.os, h.tape.trans hf.tape, h.output.trans hf.output, Nat.le_trans hf.size h.size, fun i hi hn => (h.old i (by omega)).trans (hf.block i hi hn)⟩
section
variable {ops : Array Oper} {rest : List Oper} {o : Oper} {a : Act} {Q : Exit → Act → World → Prop}
/-- 'append(v, x)' of one element in a fenced walk: app_one. -/
theorem app_oneIn {W : World} (base : Nat) (hgd : o.guard = none) (s x : Operand) (t e : TypeId) (z : Value) (size bytes : Nat)
    (ho : o.op = .call { callee := .builtin .append, args := #[s, x], argTypes := #[t, t] })
    (ht : P.underlying t = some (.slice e)) (hinfo : (P.info? e).map (fun i => (i.zero, i.size, i.bytes)) = some (some z, size, bytes)) (hz : z.cells.size = size) (hsz : 0 < size)
    (v : Value) (n' : Nat) (xs : List Value) (cs : Array Value) (hs : a.eval s = v) (hx : a.eval x = .slice (some ⟨W.heap.size, 0, none⟩) 1 1) (hcs : cs.size = size) (h1 : ∀ u ∈ cs.toList, u.oneCell' = true)
    (HO : W.ownsRow base e size v n' xs) (hbase : base ≤ W.heap.size) (hl : (n' + 1) * bytes ≤ 140737488355328) (hm : n' + 1 ≤ 9223372036854775807)
    (h : ∀ v1 w1, w1.ownsRow base e size v1 (n' + 1) (xs ++ cs.toList) → W.grownBy w1 v.ownBlock → (∀ k, v1.ownBlock = some k → v.ownBlock = some k ∨ W.heap.size ≤ k) → wpListIn F n P ops Q rest (a.put o.dst v1) w1) :
    wpListIn F n P ops Q (o :: rest) a (W.alloc (.cells cs e)) := by
  obtain ⟨i0, hi, hz0, hz1, hz2⟩ := info_parts hinfo
  have hnews : ∀ j u, cs.toList[j]? = some u → (W.alloc (.cells cs e)).cell? ((⟨W.heap.size, 0, none⟩ : Addr).add j) = some u := by
    intro j u hj
    rw [add_plain, Nat.zero_add, World.cell?_alloc_at _ _ _ _ rfl]
    simpa using hj
  refine wpListIn_append_own_at (w := W.alloc (.cells cs e)) hgd s x t ho base e i0 z size bytes ht hi hz0 hz1 hz2 hz hsz v n' xs hs (HO.alloc _) ⟨W.heap.size, 0, none⟩ 1 1 cs.toList hx (by simp [hcs])
    hnews h1 (by simp only [maxLen]; omega) hl (by simp; omega) ?_
  intro v1 w1 hown hg _ hat
  refine h v1 w1 hown (World.grownBy.trans (World.grownBy_alloc W _ _) hg) (fun k hk => ?_)
  rcases hat with hat | hat
  · exact .inl (hat ▸ hk)
  · rw [hat] at hk
    injection hk with hk
    simp at hk
    exact .inr (by omega)
end
end Go.Proofs.Ytmpjdploacfmeaa
