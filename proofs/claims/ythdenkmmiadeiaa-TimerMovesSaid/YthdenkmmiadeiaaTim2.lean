/- Contracts of Less and Swap of a heap of timers (package timer). -/
import Derived.Test.YthdenkmmiadeiaaTim1
namespace Go.Proofs.Ythdenkmmiadeiaa
set_option linter.unusedSimpArgs false
set_option linter.unusedVariables false
open Go.RowKit

/-- A cell of one's own row is written. -/
theorem own_put {w : World} {base n c g i : Nat} {e : TypeId} {xs : List Value} (h : w.ownsRow base e 1 (.slice (some ⟨g, 0, none⟩) n c) n xs) (u : Value) :
    (w.setCell ⟨g, i, none⟩ u).ownsRow base e 1 (.slice (some ⟨g, 0, none⟩) n c) n (xs.set i u) := by
  obtain ⟨h1, h2⟩ := h
  refine ⟨by simpa using h1, ?_⟩
  rcases h2 with ⟨h2, _⟩ | ⟨g', cap, cur, hv, hb, hh, hc, hm, hs, ht⟩
  · cases h2
  · cases hv
    refine .inr ⟨g, c, cur.setIfInBounds i u, rfl, hb, ?_, hc, hm, by simpa using hs, ?_⟩
    · exact Blk.set_ hh i u
    · rw [Array.toList_setIfInBounds, List.take_set, ht]
theorem own_addr {w : World} {base n c : Nat} {A : Option Addr} {e : TypeId} {xs : List Value} (h : w.ownsRow base e 1 (.slice A n c) n xs) (hn : 0 < n) : ∃ g, A = some ⟨g, 0, none⟩ ∧ base ≤ g := by
  rcases h.2 with ⟨h2, h3⟩ | ⟨g', cap, cur, hv, hb, hh, hc, hm, hs, ht⟩
  · omega
  · cases hv; exact ⟨g', rfl, hb⟩
theorem at_some {E : List Ent} {i : Nat} (h : i < E.length) : E[i]? = some (at' E i) := by
  rw [at', List.getD_eq_getElem?_getD, List.getElem?_eq_getElem h]; rfl
theorem ptrs_at {E : List Ent} {i : Nat} (h : i < E.length) : (ptrs E)[i]? = some (ptr (at' E i).b) := by
  rw [ptrs, List.getElem?_map, at_some h]; rfl
section
variable {w w' : World} {base n c i k : Nat} {A : Option Addr} {v : Value} {E : List Ent}
theorem TH.ptr_ (h : TH w base (.slice A n c) E) (hn : E.length = n) (hi : i < n) : ∃ g, A = some ⟨g, 0, none⟩ ∧ base ≤ g ∧ g < w.heap.size ∧ w.cell? ⟨g, i, none⟩ = some (ptr (at' E i).b) := by
  have ho := h.own
  rw [hn] at ho
  obtain ⟨g, rfl, hg⟩ := own_addr ho (by omega)
  have hrd := Rd.of_own ho
  obtain ⟨b, o, e, hb, u, hu, hc⟩ := hrd.at_ hi
  cases e
  rw [Nat.zero_add] at hc
  rw [ptrs_at (by omega)] at hu
  cases hu
  exact ⟨g, rfl, hg, hb, hc⟩
theorem TH.blk' (h : TH w base v E) (hi : i < E.length) : Blk w (at' E i).b 132 (tcs (at' E i) i) := h.blk i _ (at_some hi)
theorem TH.fr (h : TH w base v E) {S : Nat → Prop} (hf : Fr S w w') (hS : ∀ b, tfoot v E b → ¬ S b) : TH w' base v E :=
  ⟨own_fr h.own hf (fun g hg => hS g (.inl hg.symm)), fun j e hj => (h.blk j e hj).fr hf (hS _ (.inr ⟨e, List.mem_of_getElem? hj, rfl⟩)), h.inj, h.new⟩
theorem TH.nob (h : TH w base v E) (hf : Fr nob w w') : TH w' base v E := h.fr hf fun _ _ h => h
theorem TH.lt (h : TH w base v E) {b : Nat} (hb : tfoot v E b) : b < w.heap.size := by
  rcases hb with hb | ⟨e, he, rfl⟩
  · obtain ⟨cs, hcs⟩ := own_block h.own b hb.symm
    exact lt_of_block hcs
  · obtain ⟨j, hj, rfl⟩ := List.mem_iff_getElem.1 he
    exact (h.blk j _ (List.getElem?_eq_getElem hj)).lt
theorem TH.ge (h : TH w base v E) {b : Nat} (hb : tfoot v E b) : base ≤ b := by
  rcases hb with hb | ⟨e, he, rfl⟩
  · exact own_at h.own b hb.symm
  · exact h.new e he
/-- A block of another type is none of a heap's. -/
theorem TH.out (h : TH w base v E) {b : Nat} {t : TypeId} {cs : Array Value} (hb : Blk w b t cs) (h1 : t ≠ 132) (h2 : t ≠ 133) : ¬ tfoot v E b := by
  rintro (hf | ⟨e, he, rfl⟩)
  · obtain ⟨cs', hcs⟩ := own_block h.own b hf.symm
    unfold Blk at hb
    rw [hb] at hcs
    cases hcs
    exact h2 rfl
  · obtain ⟨j, hj, hje⟩ := List.mem_iff_getElem.1 he
    have h3 := h.blk j _ (List.getElem?_eq_getElem hj)
    rw [hje] at h3
    unfold Blk at hb h3
    rw [hb] at h3
    cases h3
    exact h1 rfl
theorem TH.apart (h : TH w base v E) (hi : i < E.length) (hk : k < E.length) (hne : i ≠ k) : (at' E i).b ≠ (at' E k).b := by
  intro he
  have hp := List.pairwise_iff_getElem.1 h.inj
  have e1 : at' E i = E[i] := by simp [at', List.getD_eq_getElem?_getD, List.getElem?_eq_getElem hi]
  have e2 : at' E k = E[k] := by simp [at', List.getD_eq_getElem?_getD, List.getElem?_eq_getElem hk]
  rw [e1, e2] at he
  rcases Nat.lt_or_gt_of_ne hne with h | h
  · exact hp i k (by simpa using hi) (by simpa using hk) h (by rw [List.getElem_map, List.getElem_map]; exact he)
  · exact hp k i (by simpa using hk) (by simpa using hi) h (by rw [List.getElem_map, List.getElem_map]; exact he.symm)
end

set_option maxHeartbeats 1000000 in
set_option maxRecDepth 100000 in
theorem less_any (A : Option Addr) (n c base i k : Nat) (iv kv : Int) (E : List Ent) (w : World) (h : TH w base (.slice A n c) E) (hn : E.length = n) (hn2 : n ≤ 1000000) (hiv : iv = (i : Int)) (hkv : kv = (k : Int)) (hi : i < n) (hk : k < n) :
    Calls Try.prog 178 #[.slice A n c, .int .i64 iv, .int .i64 kv] w fun e w' => e = .returned (.bool (ltB (at' E i) (at' E k))) ∧ ∃ q, w' = w.drewN q := by
  subst hiv hkv
  obtain ⟨g, rfl, hg, hgl, hci⟩ := h.ptr_ hn hi
  obtain ⟨g', e', _, _, hck⟩ := h.ptr_ hn hk
  cases e'
  have hbc := before_any (at' E i) (at' E k) i k w.drew (h.blk' (by omega)) (h.blk' (by omega))
  obtain ⟨x, hx⟩ : ∃ x, x = at' E i := ⟨_, rfl⟩
  obtain ⟨y, hy⟩ : ∃ y, y = at' E k := ⟨_, rfl⟩
  rw [← hx] at hci
  rw [← hy] at hck
  rw [← hx, ← hy] at hbc ⊢
  have HBC := Lib.hid hbc
  have hi0 : (0 : Int) ≤ (i : Int) ∧ (i : Int) < (n : Int) := ⟨by omega, by omega⟩
  have hk0 : (0 : Int) ≤ (k : Int) ∧ (k : Int) < (n : Int) := ⟨by omega, by omega⟩
  unfold ptr at hci hck
  clear hx hy hbc h hn
  go_enter Try.func178, Try.ntmps178
  go_wp2_with fail
  refine wp_region_held_drew (S := fun w' => w'.cell? ⟨g, i, none⟩ = some (.pointer (some ⟨x.b, 0, none⟩)) ∧ w'.cell? ⟨g, k, none⟩ = some (.pointer (some ⟨y.b, 0, none⟩))) (by kernel_rfl) ⟨hci, hck⟩ (fun hHeld => ?_)
  first
    | (refine mix_skip 0 rfl (by kernel_rfl) (by kernel_rfl) (by kernel_rfl) (by rfl) (by assumption) (fun _ _ _ h => h) ?_)
    | (refine mix_pure 0 (v := ?_) rfl (by kernel_rfl) (by kernel_rfl) (by kernel_rfl) (by rfl) (by assumption) (fun _ _ _ h => h) ?_ ?_; rotate_left; · (intro wS hSw; (try dsimp only at hSw); go_simp; try with_reducible rfl))
  simp only [Act.put, List.setIfInBounds_toArray, List.set_cons_zero, List.set_cons_succ]
  first
    | (refine mix_skip 1 rfl (by kernel_rfl) (by kernel_rfl) (by kernel_rfl) (by rfl) (by assumption) (fun _ _ _ h => h) ?_)
    | (refine mix_pure 1 (v := ?_) rfl (by kernel_rfl) (by kernel_rfl) (by kernel_rfl) (by rfl) (by assumption) (fun _ _ _ h => h) ?_ ?_; rotate_left; · (intro wS hSw; (try dsimp only at hSw); go_simp; try with_reducible rfl))
  simp only [Act.put, List.setIfInBounds_toArray, List.set_cons_zero, List.set_cons_succ]
  first
    | (refine mix_skip 2 rfl (by kernel_rfl) (by kernel_rfl) (by kernel_rfl) (by rfl) (by assumption) (fun _ _ _ h => h) ?_)
    | (refine mix_pure 2 (v := ?_) rfl (by kernel_rfl) (by kernel_rfl) (by kernel_rfl) (by rfl) (by assumption) (fun _ _ _ h => h) ?_ ?_; rotate_left; · (intro wS hSw; (try dsimp only at hSw); go_simp; try with_reducible rfl))
  simp only [Act.put, List.setIfInBounds_toArray, List.set_cons_zero, List.set_cons_succ]
  first
    | (refine mix_skip 3 rfl (by kernel_rfl) (by kernel_rfl) (by kernel_rfl) (by rfl) (by assumption) (fun _ _ _ h => h) ?_)
    | (refine mix_pure 3 (v := ?_) rfl (by kernel_rfl) (by kernel_rfl) (by kernel_rfl) (by rfl) (by assumption) (fun _ _ _ h => h) ?_ ?_; rotate_left; · (intro wS hSw; (try dsimp only at hSw); go_simp; try with_reducible rfl))
  simp only [Act.put, List.setIfInBounds_toArray, List.set_cons_zero, List.set_cons_succ]
  first
    | (refine mix_skip 4 rfl (by kernel_rfl) (by kernel_rfl) (by kernel_rfl) (by rfl) (by assumption) (fun _ _ _ h => h) ?_)
    | (refine mix_pure 4 (v := ?_) rfl (by kernel_rfl) (by kernel_rfl) (by kernel_rfl) (by rfl) (by assumption) (fun _ _ _ h => h) ?_ ?_; rotate_left; · (intro wS hSw; (try dsimp only at hSw); go_simp; try with_reducible rfl))
  simp only [Act.put, List.setIfInBounds_toArray, List.set_cons_zero, List.set_cons_succ]
  first
    | (refine mix_skip 5 rfl (by kernel_rfl) (by kernel_rfl) (by kernel_rfl) (by rfl) (by assumption) (fun _ _ _ h => h) ?_)
    | (refine mix_pure 5 (v := ?_) rfl (by kernel_rfl) (by kernel_rfl) (by kernel_rfl) (by rfl) (by assumption) (fun _ _ _ h => h) ?_ ?_; rotate_left; · (intro wS hSw; (try dsimp only at hSw); go_simp; try with_reducible rfl))
  simp only [Act.put, List.setIfInBounds_toArray, List.set_cons_zero, List.set_cons_succ]
  first
    | (refine mix_skip 6 rfl (by kernel_rfl) (by kernel_rfl) (by kernel_rfl) (by rfl) (by assumption) (fun _ _ _ h => h) ?_)
    | (refine mix_pure 6 (v := ?_) rfl (by kernel_rfl) (by kernel_rfl) (by kernel_rfl) (by rfl) (by assumption) (fun _ _ _ h => h) ?_ ?_; rotate_left; · (intro wS hSw; (try dsimp only at hSw); go_simp; try with_reducible rfl))
  simp only [Act.put, List.setIfInBounds_toArray, List.set_cons_zero, List.set_cons_succ]
  first
    | (refine mix_skip 7 rfl (by kernel_rfl) (by kernel_rfl) (by kernel_rfl) (by rfl) (by assumption) (fun _ _ _ h => h) ?_)
    | (refine mix_pure 7 (v := ?_) rfl (by kernel_rfl) (by kernel_rfl) (by kernel_rfl) (by rfl) (by assumption) (fun _ _ _ h => h) ?_ ?_; rotate_left; · (intro wS hSw; (try dsimp only at hSw); go_simp; try with_reducible rfl))
  simp only [Act.put, List.setIfInBounds_toArray, List.set_cons_zero, List.set_cons_succ]
  first
    | (refine mix_skip 8 rfl (by kernel_rfl) (by kernel_rfl) (by kernel_rfl) (by rfl) (by assumption) (fun _ _ _ h => h) ?_)
    | (refine mix_pure 8 (v := ?_) rfl (by kernel_rfl) (by kernel_rfl) (by kernel_rfl) (by rfl) (by assumption) (fun _ _ _ h => h) ?_ ?_; rotate_left; · (intro wS hSw; (try dsimp only at hSw); go_simp; try with_reducible rfl))
  simp only [Act.put, List.setIfInBounds_toArray, List.set_cons_zero, List.set_cons_succ]
  refine mix_one 9 rfl (by kernel_rfl) (fun K hK => ?_)
  go_simp
  refine HBC.out.mono ?_
  rintro e w2 ⟨rfl, q, rfl⟩
  refine hK.out _ _ (⟨hci, hck⟩) (fun hHeld0 => ?_)
  clear hK K
  try simp only [Act.put, List.setIfInBounds_toArray, List.set_cons_zero, List.set_cons_succ]
  first
    | (refine mix_skip 10 rfl (by kernel_rfl) (by kernel_rfl) (by kernel_rfl) (by rfl) (by assumption) (fun _ _ _ h => h) ?_)
    | (refine mix_pure 10 (v := ?_) rfl (by kernel_rfl) (by kernel_rfl) (by kernel_rfl) (by rfl) (by assumption) (fun _ _ _ h => h) ?_ ?_; rotate_left; · (intro wS hSw; (try dsimp only at hSw); go_simp; try with_reducible rfl))
  simp only [Act.put, List.setIfInBounds_toArray, List.set_cons_zero, List.set_cons_succ]
  refine wpAnyH_done (by kernel_rfl) ?_ _
  go_wp2_with fail
  go_ret
  exact ⟨rfl, 1 + q, by rw [show w.drew = w.drewN 1 from rfl, World.drewN_drewN]⟩

/-- What a change of a heap's order leaves. -/
structure Moved (w : World) (base : Nat) (v : Value) (E E' : List Ent) (w' : World) : Prop where
  th : TH w' base v E'
  perm : E'.Perm E
  fr : Fr (tfoot v E) w w'
theorem tfoot_perm {v : Value} {E E' : List Ent} (h : E'.Perm E) (b : Nat) : tfoot v E' b ↔ tfoot v E b := by
  unfold tfoot
  constructor
  · rintro (h1 | ⟨e, he, hb⟩)
    · exact .inl h1
    · exact .inr ⟨e, h.mem_iff.1 he, hb⟩
  · rintro (h1 | ⟨e, he, hb⟩)
    · exact .inl h1
    · exact .inr ⟨e, h.mem_iff.2 he, hb⟩
theorem Moved.refl {w : World} {base : Nat} {v : Value} {E : List Ent} (h : TH w base v E) : Moved w base v E E w := ⟨h, List.Perm.refl _, Fr.refl _ _⟩
theorem Moved.drewN {w w' : World} {base : Nat} {v : Value} {E E' : List Ent} (h : Moved w base v E E' w') (q : Nat) : Moved w base v E E' (w'.drewN q) := ⟨h.th.nob ((Fr.refl _ _).drewN q), h.perm, h.fr.drewN q⟩
theorem Moved.trans {w w' w'' : World} {base : Nat} {v : Value} {E E' E'' : List Ent} (h : Moved w base v E E' w') (k : Moved w' base v E' E'' w'') : Moved w base v E E'' w'' :=
  ⟨k.th, k.perm.trans h.perm, h.fr.trans k.fr (fun i _ hi => (tfoot_perm h.perm i).1 hi)⟩

theorem moved_swap {w : World} {base n c g i k : Nat} {E : List Ent} (h : TH w base (.slice (some ⟨g, 0, none⟩) n c) E) (hn : E.length = n) (hi : i < n) (hk : k < n) (hne : i ≠ k) :
    Moved w base (.slice (some ⟨g, 0, none⟩) n c) E (swapE E i k) ((((w.setCell ⟨g, i, none⟩ (ptr (at' E k).b)).setCell ⟨g, k, none⟩ (ptr (at' E i).b)).setCell ⟨(at' E k).b, 2, none⟩ (.int .i64 (i : Int))).setCell ⟨(at' E i).b, 2, none⟩ (.int .i64 (k : Int))) := by
  have hi' : i < E.length := by omega
  have hk' : k < E.length := by omega
  have hp := swap_perm hi' hk'
  have hbi := h.blk' hi'
  have hbk := h.blk' hk'
  have hap := h.apart hi' hk' hne
  have hgt : ∀ j, j < E.length → (at' E j).b ≠ g := fun j hj he => by
    have h1 := h.blk' hj
    obtain ⟨cs, hcs⟩ := own_block h.own g rfl
    rw [he] at h1
    unfold Blk at h1
    rw [h1] at hcs
    cases hcs
  have hl : E.length = n := hn
  refine ⟨⟨?_, ?_, ?_, ?_⟩, hp, ?_⟩
  · have ho : w.ownsRow base 133 1 (.slice (some ⟨g, 0, none⟩) n c) n (ptrs E) := by have := h.own; rwa [hl] at this
    have h1 := own_put (i := k) (own_put (i := i) ho (ptr (at' E k).b)) (ptr (at' E i).b)
    have hb1 : Blk ((w.setCell ⟨g, i, none⟩ (ptr (at' E k).b)).setCell ⟨g, k, none⟩ (ptr (at' E i).b)) (at' E k).b 132 (tcs (at' E k) k) := (hbk.far (p := ⟨g, i, none⟩) (hgt k hk') _).far (p := ⟨g, k, none⟩) (hgt k hk') _
    have hb2 : Blk ((w.setCell ⟨g, i, none⟩ (ptr (at' E k).b)).setCell ⟨g, k, none⟩ (ptr (at' E i).b)) (at' E i).b 132 (tcs (at' E i) i) := (hbi.far (p := ⟨g, i, none⟩) (hgt i hi') _).far (p := ⟨g, k, none⟩) (hgt i hi') _
    have h2 := own_set (i := 2) h1 hb1 (by decide) (.int .i64 (i : Int))
    have h3 := own_set (i := 2) h2 (hb2.far (p := ⟨(at' E k).b, 2, none⟩) hap (.int .i64 (i : Int))) (by decide) (.int .i64 (k : Int))
    rw [swap_len, hl]
    have e : ((ptrs E).set i (ptr (at' E k).b)).set k (ptr (at' E i).b) = ptrs (swapE E i k) := by
      simp only [ptrs, swapE, List.map_set]
    rw [← e]
    exact h3
  · intro j e hj
    have hjl : j < E.length := by have := (List.getElem?_eq_some_iff.1 hj).1; rwa [swap_len] at this
    have he : e = at' (swapE E i k) j := by rw [at', List.getD_eq_getElem?_getD, hj]; rfl
    rw [swap_at hi' hk' j] at he
    by_cases hjk : j = k
    · subst hjk
      rw [if_pos rfl] at he
      subst he
      have h1 := (((hbi.far (p := ⟨g, i, none⟩) (hgt i hi') (ptr (at' E j).b)).far (p := ⟨g, j, none⟩) (hgt i hi') (ptr (at' E i).b)).far (p := ⟨(at' E j).b, 2, none⟩) hap (.int .i64 (i : Int))).set_ 2 (.int .i64 (j : Int))
      simpa [tcs] using h1
    · rw [if_neg hjk] at he
      by_cases hji : j = i
      · subst hji
        rw [if_pos rfl] at he
        subst he
        have h1 := (((hbk.far (p := ⟨g, j, none⟩) (hgt k hk') (ptr (at' E k).b)).far (p := ⟨g, k, none⟩) (hgt k hk') (ptr (at' E j).b)).set_ 2 (.int .i64 (j : Int))).far (p := ⟨(at' E j).b, 2, none⟩) (fun e => hap e.symm) (.int .i64 (k : Int))
        simpa [tcs] using h1
      · rw [if_neg hji] at he
        subst he
        have hbj := h.blk' hjl
        exact (((hbj.far (p := ⟨g, i, none⟩) (hgt j hjl) _).far (p := ⟨g, k, none⟩) (hgt j hjl) _).far (p := ⟨(at' E k).b, 2, none⟩) (h.apart hjl hk' hjk) _).far (p := ⟨(at' E i).b, 2, none⟩) (h.apart hjl hi' hji) _
  · exact ((hp.map (·.b)).nodup_iff).2 h.inj
  · intro e he
    exact h.new e (hp.mem_iff.1 he)
  · have f1 : tfoot (.slice (some ⟨g, 0, none⟩) n c) E g := .inl rfl
    have f2 : tfoot (.slice (some ⟨g, 0, none⟩) n c) E (at' E k).b := .inr ⟨_, List.mem_of_getElem? (at_some hk'), rfl⟩
    have f3 : tfoot (.slice (some ⟨g, 0, none⟩) n c) E (at' E i).b := .inr ⟨_, List.mem_of_getElem? (at_some hi'), rfl⟩
    exact ((((Fr.refl _ w).set_ (p := ⟨g, i, none⟩) (.inl f1) _).set_ (p := ⟨g, k, none⟩) (.inl f1) _).set_ (p := ⟨(at' E k).b, 2, none⟩) (.inl f2) _).set_ (p := ⟨(at' E i).b, 2, none⟩) (.inl f3) _
end Go.Proofs.Ythdenkmmiadeiaa
