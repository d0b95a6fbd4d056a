/- Contracts: the last timer is taken away (slices.Delete, Pop), one more is added (Push), one is moved (Fix). -/
import Derived.Test.YthdenkmmiadeiaaTim4
import Derived.Test.YthdenkmmiadeiaaCut
namespace Go.Proofs.Ythdenkmmiadeiaa
set_option linter.unusedSimpArgs false
set_option linter.unusedVariables false
open Go.RowKit

theorem ptr_info : (Try.prog.info? 133).map (fun i => (i.zero, i.size, i.bytes)) = some (some (.pointer none), 1, 8) := by kernel_rfl
theorem ptr_info' : ∃ i, Try.prog.info? 133 = some i ∧ i.zero = some (.pointer none) ∧ i.size = 1 := by
  obtain ⟨i, hi, h1, h2, _⟩ := info_parts ptr_info
  exact ⟨i, hi, h1, h2⟩
/-- 'append(x, nothing...)'. -/
theorem run_app0 (ty : TypeId) (w : World) (a : Addr) (m c : Nat) (A' : Option Addr) (c' : Nat) (h : m ≤ c) : (Builtin.append_ #[123, 123] ty #[.slice (some a) m c, .slice A' 0 c']).run Try.prog w = .ok (.slice (some a) m c) w := by
  obtain ⟨i, hi, h1, h2⟩ := ptr_info'
  simp [Builtin.append_, run_underlying Try.underlying123, sizeOf, typeInfo, hi, h2, Builtin.lenOf, Builtin.firstCells, h, storeCells]
  cases A' <;> simp [loadCells, loadCellsFrom, storeCells]
theorem app0_op {o : Oper} {a : Act} {Q : Exit → Act → World → Prop} {K : Act → World → Prop} {w : World} (s x : Operand) (ad : Addr) (m c : Nat) (A' : Option Addr) (c' : Nat)
    (ho : o.op = .call { callee := .builtin .append, args := #[s, x], argTypes := #[123, 123] }) (hs : a.eval s = .slice (some ad) m c) (hx : a.eval x = .slice A' 0 c') (hm : m ≤ c)
    (h : K (a.put o.dst (.slice (some ad) m c)) w) : Oper.wp Try.prog o a w K Q := by
  have hr := run_app0 o.type w ad m c A' c' hm
  unfold Oper.wp execOp
  simp only [ho, resolve, invoke, builtin, Sem.run_bind, Sem.run_pure, Result.andThen_ok, List.map_toArray, List.map_cons, List.map_nil, hs, hx, hr]
  exact h
/-- 'clear' of one pointer. -/
theorem run_clear1 (ty : TypeId) (w : World) (g k c' : Nat) (u : Value) (hc : w.cell? ⟨g, k, none⟩ = some u) (hf : w.frozen? ⟨g, k, none⟩ = false) : (Builtin.clear_ #[123] ty #[.slice (some ⟨g, k, none⟩) 1 c']).run Try.prog w = .ok (.tuple #[]) (w.setCell ⟨g, k, none⟩ (.pointer none)) := by
  obtain ⟨i, hi, h1, h2⟩ := ptr_info'
  simp [Builtin.clear_, run_underlying Try.underlying123, zeroValue, typeInfo, hi, h1, Builtin.zeroCells, Value.cells, storeCells, go_sem, hc, hf]

/-- 'x[j:k:m]'. -/
theorem mid3_run {P : Program} {T e : TypeId} (hT : P.underlying T = some (.slice e)) (hinfo : (P.info? e).map (·.size) = some 1) (A : Option Addr) (n c j k m : Nat) (jv kv mv : Int) (hjv : jv = (j : Int)) (hkv : kv = (k : Int)) (hmv : mv = (m : Int)) (hj : j ≤ k) (hk : k ≤ m) (hm : m ≤ c) :
    ∃ A', ∀ w, (Instr.slice T (.slice A n c) (some (.int .i64 jv)) (some (.int .i64 kv)) (some (.int .i64 mv))).run P w = .ok (.slice A' (k - j) (m - j)) w := by
  subst hjv hkv hmv
  refine ⟨if m = j then A else A.map (·.add (j * 1)), fun w => ?_⟩
  obtain ⟨i, hi, hs⟩ : ∃ i, P.info? e = some i ∧ i.size = 1 := by
    cases hh : P.info? e with
    | none => rw [hh] at hinfo; cases hinfo
    | some i => rw [hh] at hinfo; exact ⟨i, rfl, by simpa using hinfo⟩
  simp [Instr.slice, Instr.sliceBounds, Instr.sliceBound, asIntOf, run_underlying hT, hj, hk, hm, sizeOf, typeInfo, hi, hs, go_sem]

set_option maxHeartbeats 2000000 in
set_option maxRecDepth 100000 in
theorem delete_last (g n c : Nat) (iv kv : Int) (u : Value) (w : World) (hn : 0 < n) (hc : n ≤ c) (hc2 : c ≤ 9223372036854775807) (hiv : iv = (n : Int) - 1) (hkv : kv = (n : Int)) (hcell : w.cell? ⟨g, n - 1, none⟩ = some u) (hfz : w.frozen? ⟨g, n - 1, none⟩ = false) :
    Calls Try.prog 183 #[.slice (some ⟨g, 0, none⟩) n c, .int .i64 iv, .int .i64 kv] w fun e w' => e = .returned (.slice (some ⟨g, 0, none⟩) (n - 1) c) ∧ ∃ q, w' = (w.setCell ⟨g, n - 1, none⟩ (.pointer none)).drewN q := by
  obtain ⟨k, rfl⟩ : ∃ k, n = k + 1 := ⟨n - 1, by omega⟩
  obtain rfl : iv = (k : Int) := by omega
  obtain rfl : kv = (k : Int) + 1 := by omega
  clear hiv hkv
  rw [Nat.add_sub_cancel] at *
  have hne : ((k : Int) == (k : Int) + 1) = false := by rw [beq_eq_false_iff_ne]; omega
  have htk := fun w => take_run (size := 1) Try.underlying123 (by kernel_rfl) (some ⟨g, 0, none⟩) (k + 1) c k (k : Int) rfl (by omega) w
  obtain ⟨A', hcut, _⟩ := cut_run (size := 1) Try.underlying123 (by kernel_rfl) (some ⟨g, 0, none⟩) (k + 1) c (k + 1) ((k : Int) + 1) (by omega) (by omega) hc
  rw [Nat.sub_self] at hcut
  obtain ⟨A3, hmid⟩ := mid3_run Try.underlying123 (by kernel_rfl) (some ⟨g, 0, none⟩) (k + 1) c k (k + 1) (k + 1) (k : Int) ((k : Int) + 1) ((k : Int) + 1) rfl (by omega) (by omega) (by omega) (by omega) hc
  have happ := fun ty w => run_app0 ty w ⟨g, 0, none⟩ k c A' (c - (k + 1)) (by omega)
  have hsl : ∀ w, (Instr.slice 123 (.slice (some ⟨g, 0, none⟩) k c) (some (.int .i64 (k : Int))) (some (.int .i64 ((k : Int) + 1))) none).run Try.prog w = .ok (.slice (some ⟨g, k, none⟩) 1 (c - k)) w := fun w => by
    obtain ⟨i, hi, h1, h2⟩ := ptr_info'
    have e1 : ((k : Int) + 1).toNat = k + 1 := by omega
    have e2 : ¬ c = k := by omega
    have e3 : (0 : Int) ≤ (k : Int) + 1 := by omega
    have e4 : (k : Int) + 1 ≤ (c : Int) := by omega
    simp [Instr.slice, Instr.sliceBounds, Instr.sliceBound, asIntOf, run_underlying Try.underlying123, sizeOf, typeInfo, hi, h2, go_sem, e1, e2, e3, e4, hc, add_plain]
  go_enter Try.func183, Try.ntmps183
  go_wp2_with fail
  refine wp_region_held_drew (S := fun _ => True) (by kernel_rfl) trivial (fun hHeld => ?_)
  first
    | (refine mix_skip 0 rfl (by kernel_rfl) (by kernel_rfl) (by kernel_rfl) (by rfl) (by assumption) (fun _ _ _ h => h) ?_)
    | (refine mix_pure 0 (v := ?_) rfl (by kernel_rfl) (by kernel_rfl) (by kernel_rfl) (by rfl) (by assumption) (fun _ _ _ h => h) ?_ ?_; rotate_left; · (intro wS hSw; (try dsimp only at hSw); go_simp; try with_reducible rfl))
  simp only [Act.put, List.setIfInBounds_toArray, List.set_cons_zero, List.set_cons_succ]
  first
    | (refine mix_skip 1 rfl (by kernel_rfl) (by kernel_rfl) (by kernel_rfl) (by rfl) (by assumption) (fun _ _ _ h => h) ?_)
    | (refine mix_pure 1 (v := ?_) rfl (by kernel_rfl) (by kernel_rfl) (by kernel_rfl) (by rfl) (by assumption) (fun _ _ _ h => h) ?_ ?_; rotate_left; · (intro wS hSw; (try dsimp only at hSw); go_simp; try with_reducible rfl))
  simp only [Act.put, List.setIfInBounds_toArray, List.set_cons_zero, List.set_cons_succ]
  first
    | (refine mix_skip 2 rfl (by kernel_rfl) (by kernel_rfl) (by kernel_rfl) (by rfl) (by assumption) (fun _ _ _ h => h) ?_)
    | (refine mix_pure 2 (v := ?_) rfl (by kernel_rfl) (by kernel_rfl) (by kernel_rfl) (by rfl) (by assumption) (fun _ _ _ h => h) ?_ ?_; rotate_left; · (intro wS hSw; (try dsimp only at hSw); go_simp; try with_reducible rfl))
  simp only [Act.put, List.setIfInBounds_toArray, List.set_cons_zero, List.set_cons_succ]
  first
    | (refine mix_skip 3 rfl (by kernel_rfl) (by kernel_rfl) (by kernel_rfl) (by rfl) (by assumption) (fun _ _ _ h => h) ?_)
    | (refine mix_pure 3 (v := ?_) rfl (by kernel_rfl) (by kernel_rfl) (by kernel_rfl) (by rfl) (by assumption) (fun _ _ _ h => h) ?_ ?_; rotate_left; · (intro wS hSw; (try dsimp only at hSw); go_simp; try with_reducible rfl))
  simp only [Act.put, List.setIfInBounds_toArray, List.set_cons_zero, List.set_cons_succ]
  first
    | (refine mix_skip 4 rfl (by kernel_rfl) (by kernel_rfl) (by kernel_rfl) (by rfl) (by assumption) (fun _ _ _ h => h) ?_)
    | (refine mix_pure 4 (v := ?_) rfl (by kernel_rfl) (by kernel_rfl) (by kernel_rfl) (by rfl) (by assumption) (fun _ _ _ h => h) ?_ ?_; rotate_left; · (intro wS hSw; (try dsimp only at hSw); go_simp; try with_reducible rfl))
  simp only [Act.put, List.setIfInBounds_toArray, List.set_cons_zero, List.set_cons_succ]
  first
    | (refine mix_skip 5 rfl (by kernel_rfl) (by kernel_rfl) (by kernel_rfl) (by rfl) (by assumption) (fun _ _ _ h => h) ?_)
    | (refine mix_pure 5 (v := ?_) rfl (by kernel_rfl) (by kernel_rfl) (by kernel_rfl) (by rfl) (by assumption) (fun _ _ _ h => h) ?_ ?_; rotate_left; · (intro wS hSw; (try dsimp only at hSw); go_simp; try with_reducible rfl))
  simp only [Act.put, List.setIfInBounds_toArray, List.set_cons_zero, List.set_cons_succ]
  refine mix_one 6 rfl (by kernel_rfl) (fun K hK => ?_)
  rw [if_pos (by rfl)]
  refine app0_op (w := w.drew) _ _ ⟨g, 0, none⟩ k c A' (c - (k + 1)) rfl rfl rfl (by omega) ?_
  refine hK.out _ _ (trivial) (fun hHeld0 => ?_)
  clear hK K
  try simp only [Act.put, List.setIfInBounds_toArray, List.set_cons_zero, List.set_cons_succ]
  first
    | (refine mix_skip 7 rfl (by kernel_rfl) (by kernel_rfl) (by kernel_rfl) (by rfl) (by assumption) (fun _ _ _ h => h) ?_)
    | (refine mix_pure 7 (v := ?_) rfl (by kernel_rfl) (by kernel_rfl) (by kernel_rfl) (by rfl) (by assumption) (fun _ _ _ h => h) ?_ ?_; rotate_left; · (intro wS hSw; (try dsimp only at hSw); go_simp; try with_reducible rfl))
  simp only [Act.put, List.setIfInBounds_toArray, List.set_cons_zero, List.set_cons_succ]
  refine wpAnyH_done (by kernel_rfl) ?_ _
  clear hHeld hHeld0
  have hcl := fun ty => run_clear1 ty w.drew g k (c - k) u hcell hfz
  go_wp2_with fail
  go_ret
  exact ⟨rfl, 1, rfl⟩

theorem own_less {w : World} {base n c g k : Nat} {e : TypeId} {xs : List Value} (h : w.ownsRow base e 1 (.slice (some ⟨g, 0, none⟩) n c) n xs) (hk : k ≤ n) : w.ownsRow base e 1 (.slice (some ⟨g, 0, none⟩) k c) k (xs.take k) := by
  obtain ⟨h1, h2⟩ := h
  refine ⟨by rw [List.length_take, h1]; omega, ?_⟩
  rcases h2 with ⟨h2, _⟩ | ⟨g', cap, cur, hv, hb, hh, hc, hm, hs, ht⟩
  · cases h2
  · cases hv
    refine .inr ⟨g, c, cur, rfl, hb, hh, by omega, hm, hs, ?_⟩
    rw [← ht, List.take_take]
    congr 1
    omega

set_option maxHeartbeats 2000000 in
set_option maxRecDepth 100000 in
theorem tlen_any (A : Option Addr) (n c : Nat) (w : World) (hn : n ≤ 1000000) : Calls Try.prog 177 #[.slice A n c] w fun e w' => e = .returned (.int .i64 (n : Int)) ∧ w' = w := by
  go_enter Try.func177, Try.ntmps177
  go_wp2_with fail
  go_ret
  exact ⟨rfl, rfl⟩

/-- What Pop leaves. -/
structure Popped (w : World) (base g r n c : Nat) (m : Value) (E : List Ent) (w' : World) : Prop where
  th : TH w' base (.slice (some ⟨r, 0, none⟩) n c) (E.take n)
  qb : Qb w' g (.slice (some ⟨r, 0, none⟩) n c) m
  fr : Fr (fun b => tfoot (.slice (some ⟨r, 0, none⟩) (n + 1) c) E b ∨ b = g) w w'

set_option maxHeartbeats 2000000 in
set_option maxRecDepth 100000 in
theorem pop_any (g r n c base : Nat) (m : Value) (E : List Ent) (w : World) (hq : Qb w g (.slice (some ⟨r, 0, none⟩) (n + 1) c) m) (h : TH w base (.slice (some ⟨r, 0, none⟩) (n + 1) c) E) (hn : E.length = n + 1) (hn2 : n ≤ 1000000) :
    Calls Try.prog 181 #[.pointer (some ⟨g, 0, none⟩)] w fun e w' => e = .returned (.iface 133 (ptr (at' E n).b)) ∧ Popped w base g r n c m E w' := by
  obtain ⟨r', e', hg, hgl, hcn⟩ := h.ptr_ hn (i := n) (by omega)
  cases e'
  have ho := h.own
  rw [hn] at ho
  have hcc : n + 1 ≤ c ∧ c ≤ 9223372036854775807 := by
    obtain ⟨A', c', e', hle, _⟩ := own_form ho
    cases e'
    exact ⟨hle, own_cap ho⟩
  obtain ⟨hcc, hcm⟩ := hcc
  have hfz : w.frozen? ⟨r, n, none⟩ = false := by
    obtain ⟨cs, hcs⟩ := own_block ho r rfl
    exact Blk.frozen hcs n
  have hdel := delete_last r (n + 1) c (n : Int) ((n : Int) + 1) (ptr (at' E n).b) w (by omega) hcc hcm (by omega) (by omega) hcn hfz
  rw [Nat.add_sub_cancel] at hdel
  have hgr : g ≠ r := by
    rintro rfl
    obtain ⟨cs, hcs⟩ := own_block ho g rfl
    have := hq
    unfold Qb Blk at this
    rw [this] at hcs
    cases hcs
  have hend : ∀ q, Popped w base g r n c m E (((w.setCell ⟨r, n, none⟩ (.pointer none)).setCell ⟨g, 0, none⟩ (.slice (some ⟨r, 0, none⟩) n c)).drewN q) := by
    intro q
    have hb1 : Qb (w.setCell ⟨r, n, none⟩ (.pointer none)) g (.slice (some ⟨r, 0, none⟩) (n + 1) c) m := Blk.far hq (p := ⟨r, n, none⟩) hgr _
    have hb2 := Blk.set_ hb1 0 (.slice (some ⟨r, 0, none⟩) n c)
    have hlt : (E.take n).length = n := by rw [List.length_take, hn]; omega
    refine ⟨⟨?_, fun j e hj => ?_, ?_, fun e he => h.new e (List.mem_of_mem_take he)⟩, ?_, ?_⟩
    · have h1 := own_less (own_put (i := n) ho (.pointer none)) (k := n) (by omega)
      rw [List.take_set, List.set_eq_of_length_le (by rw [List.length_take]; omega)] at h1
      have h2 := own_set (i := 0) h1 hb1 (by decide) (.slice (some ⟨r, 0, none⟩) n c)
      rw [hlt, ptrs, List.map_take]
      exact own_fr h2 ((Fr.refl nob _).drewN q) (fun _ _ h => h)
    · have hj1 : j < n := by have := (List.getElem?_eq_some_iff.1 hj).1; omega
      rw [List.getElem?_take_of_lt hj1] at hj
      have h1 := h.blk j e hj
      have hne1 : e.b ≠ r := fun he => by
        obtain ⟨cs, hcs⟩ := own_block ho r rfl
        rw [he] at h1
        unfold Blk at h1
        rw [h1] at hcs
        cases hcs
      have hne2 : e.b ≠ g := fun he => by
        rw [he] at h1
        have := hq
        unfold Qb Blk at this
        unfold Blk at h1
        rw [this] at h1
        cases h1
      exact ((h1.far (p := ⟨r, n, none⟩) hne1 _).far (p := ⟨g, 0, none⟩) hne2 _).drewN q
    · have := h.inj
      rw [List.map_take]
      exact (List.take_sublist _ _).nodup this
    · simpa [Qb] using hb2.drewN q
    · exact (((Fr.refl _ w).set_ (p := ⟨r, n, none⟩) (.inl (.inl (.inl rfl))) _).set_ (p := ⟨g, 0, none⟩) (.inl (.inr rfl)) _).drewN q
  have HEND := Lib.hid hend
  have HDEL := Lib.hid hdel
  have q0 := hq.cell
  have q1 := hq.frozen
  have qz := hq.lt
  unfold ptr at hcn
  obtain ⟨bl, hbl⟩ : ∃ bl, bl = (at' E n).b := ⟨_, rfl⟩
  rw [← hbl] at hcn ⊢
  have hqb : Qb w g (.slice (some ⟨r, 0, none⟩) (n + 1) c) m := hq
  have HQB := Lib.hid hqb
  clear hend hdel h hn hq ho hbl hqb
  go_enter Try.func181, Try.ntmps181
  go_wp2_with fail
  refine HDEL.out.mono ?_
  rintro e w2 ⟨rfl, q, rfl⟩
  have p1 : Qb (w.setCell ⟨r, n, none⟩ (.pointer none)) g (.slice (some ⟨r, 0, none⟩) (n + 1) c) m := Blk.far HQB.out (p := ⟨r, n, none⟩) hgr _
  have p2 := p1.cell
  have p3 := p1.frozen
  clear q0 q1
  go_wp2_with fail
  go_ret
  exact ⟨rfl, HEND.out q⟩
end Go.Proofs.Ythdenkmmiadeiaa
