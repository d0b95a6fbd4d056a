/- Contracts of container/heap's Fix, Push and Remove over timers. -/
import Derived.Test.YthdenkmmiadeiaaTim5
namespace Go.Proofs.Ythdenkmmiadeiaa
set_option linter.unusedSimpArgs false
set_option linter.unusedVariables false
open Go.RowKit

/-- What a change of a queue's heap leaves: the row may lie anew. -/
structure Turned (w : World) (base g : Nat) (v : Value) (m : Value) (E : List Ent) (S : Nat → Prop) (v' : Value) (E' : List Ent) (w' : World) : Prop where
  th : TH w' base v' E'
  qb : Qb w' g v' m
  fr : Fr (fun b => tfoot v E b ∨ b = g ∨ S b) w w'
  row : ∀ b, v'.ownBlock = some b → v.ownBlock = some b ∨ w.heap.size ≤ b

set_option maxHeartbeats 2000000 in
set_option maxRecDepth 100000 in
theorem fix_any (A : Option Addr) (n c base g i : Nat) (iv : Int) (m : Value) (E : List Ent) (w : World) (hq : Qb w g (.slice A n c) m) (h : TH w base (.slice A n c) E) (hn : E.length = n) (hn2 : n ≤ 1000000) (hiv : iv = (i : Int)) (hi : i < n) (hu : AllBut E n i) :
    Calls Try.prog 74 #[hval g, .int .i64 iv] w fun e w' => e = .returned (.tuple #[]) ∧ ∃ E', Moved w base (.slice A n c) E E' w' ∧ HeapN E' n := by
  subst hiv
  have hlen := run_len g w A n c (Blk.cell hq 0)
  have hd := down_any A n n c base g i (i : Int) (n : Int) m E w hq h hn hn2 (Nat.le_refl _) rfl rfl hi hu
  have HD := Lib.hid hd
  have HQ := Lib.hid hq
  have HTH := Lib.hid h
  have HNL := Lib.hid hn
  unfold hval
  unfold hval at HD
  clear hd hq h hn hu
  go_enter Try.func74, Try.ntmps74
  go_wp2_with fail
  refine (tlen_any A n c w hn2).mono ?_
  rintro e w1 ⟨rfl, rfl⟩
  go_wp2_with fail
  refine HD.out.mono ?_
  rintro e w2 ⟨r, E', rfl, hmv, hr, -⟩
  cases r with
  | true =>
    have hh : HeapN E' n := by simpa using hr
    have HH := Lib.hid hh
    have HMV := Lib.hid hmv
    clear hmv hr hlen hh
    go_wp2_with fail
    go_end0
    exact ⟨rfl, E', HMV.out, HH.out⟩
  | false =>
    have hh : E' = E ∧ UpI E n i := by simpa using hr
    obtain ⟨rfl, hup⟩ := hh
    have hq2 : Qb w2 g (.slice A n c) m := HQ.out.moved HTH.out hmv
    have hup2 := up_any A n n c base g i (i : Int) m E' w2 hq2 hmv.th HNL.out hn2 (Nat.le_refl _) rfl hi hup
    have HU := Lib.hid hup2
    unfold hval at HU
    have HMV := Lib.hid hmv
    clear hmv hr hlen hup hq2 hup2
    go_wp2_with fail
    refine HU.out.mono ?_
    rintro e w3 ⟨rfl, E2, hmv2, hh2, -⟩
    go_wp2_with fail
    go_end0
    exact ⟨rfl, E2, HMV.out.trans hmv2, hh2⟩

theorem tfoot_out {v v' : Value} {E : List Ent} {w : World} (hv : ∀ b, v'.ownBlock = some b → v.ownBlock = some b ∨ w.heap.size ≤ b) {b : Nat} (hb : b < w.heap.size) (h : ¬ tfoot v E b) : ¬ tfoot v' E b := by
  rintro (h1 | h1)
  · rcases hv b h1.symm with h2 | h2
    · exact h (.inl h2.symm)
    · omega
  · exact h (.inr h1)

set_option maxHeartbeats 4000000 in
set_option maxRecDepth 100000 in
theorem tpush_any (v : Value) (n base g : Nat) (m : Value) (E : List Ent) (x : Ent) (w : World) (hq : Qb w g v m) (h : TH w base v E) (hn : E.length = n) (hn2 : n ≤ 1000000) (hx : Blk w x.b 132 (tcs x 0)) (hxn : ¬ tfoot v E x.b) (hxb : base ≤ x.b) (hbase : base ≤ w.heap.size) :
    Calls Try.prog 182 #[.pointer (some ⟨g, 0, none⟩), .iface 133 (ptr x.b)] w fun e w' => e = .returned (.tuple #[]) ∧ ∃ v', Turned w base g v m E (fun b => b = x.b) v' (E ++ [x]) w' := by
  have ho := h.own
  rw [hn] at ho
  obtain ⟨A, c, rfl, hle, _⟩ := own_form ho
  have hcap := own_cap ho
  have q0 := hq.cell
  have q1 := hq.frozen
  have qz := hq.lt
  have x0 := hx.cell
  have x1 := hx.frozen
  have xz := hx.lt
  have hgx : g ≠ x.b := by
    rintro rfl
    have h1 := hq
    have h2 := hx
    unfold Qb Blk at h1
    unfold Blk at h2
    rw [h1] at h2
    cases h2
  have hend : ∀ v1 w1, w1.ownsRow base 133 1 v1 (n + 1) (ptrs E ++ [ptr x.b]) → (w.setCell ⟨x.b, 2, none⟩ (.int .i64 (n : Int))).grownBy w1 (Value.slice A n c).ownBlock → (∀ k, v1.ownBlock = some k → (Value.slice A n c).ownBlock = some k ∨ w.heap.size ≤ k) → Turned w base g (.slice A n c) m E (fun b => b = x.b) v1 (E ++ [x]) (w1.setCell ⟨g, 0, none⟩ v1) := by
    intro v1 w1 hown hg hat
    have hqs : Qb (w.setCell ⟨x.b, 2, none⟩ (.int .i64 (n : Int))) g (.slice A n c) m := Blk.far hq (p := ⟨x.b, 2, none⟩) hgx _
    have hqg : some g ≠ (Value.slice A n c).ownBlock := fun e => by
      obtain ⟨cs, hcs⟩ := own_block ho g e.symm
      have h1 := hq
      unfold Qb Blk at h1
      rw [h1] at hcs
      cases hcs
    have hxg : some x.b ≠ (Value.slice A n c).ownBlock := fun e => hxn (.inl e)
    have hq1 : Qb w1 g (.slice A n c) m := Blk.grown hqs hg hqg
    have hx1 : Blk w1 x.b 132 (tcs x n) := by
      have := (hx.set_ 2 (.int .i64 (n : Int))).grown hg hxg
      simpa [tcs] using this
    refine ⟨⟨?_, fun j e hj => ?_, ?_, fun e he => ?_⟩, ?_, ?_, hat⟩
    · have h1 := own_set (i := 0) hown hq1 (by decide) v1
      rw [List.length_append, hn, ptrs, List.map_append]
      exact h1
    · rcases Nat.lt_or_ge j n with hjn | hjn
      · rw [List.getElem?_append_left (by omega)] at hj
        have h1 := h.blk j e hj
        have hne : e.b ≠ x.b := fun he => hxn (.inr ⟨e, List.mem_of_getElem? hj, he.symm⟩)
        have hng : e.b ≠ g := fun he => by
          have h2 := hq
          rw [he] at h1
          unfold Qb Blk at h2
          unfold Blk at h1
          rw [h2] at h1
          cases h1
        have hnr : some e.b ≠ (Value.slice A n c).ownBlock := fun e' => by
          obtain ⟨cs, hcs⟩ := own_block ho _ e'.symm
          unfold Blk at h1
          rw [h1] at hcs
          cases hcs
        exact ((h1.far (p := ⟨x.b, 2, none⟩) hne _).grown hg hnr).far (p := ⟨g, 0, none⟩) hng _
      · have hj2 : j = n := by have := (List.getElem?_eq_some_iff.1 hj).1; simp [hn] at this; omega
        subst hj2
        rw [List.getElem?_append_right (by omega), hn, Nat.sub_self] at hj
        simp at hj
        subst hj
        exact hx1.far (p := ⟨g, 0, none⟩) (fun e => hgx e.symm) _
    · rw [List.map_append, List.nodup_append]
      refine ⟨h.inj, by simp, fun a ha b hb => ?_⟩
      simp at hb
      subst hb
      rintro rfl
      obtain ⟨e, he, heb⟩ := List.mem_map.1 ha
      exact hxn (.inr ⟨e, he, heb.symm⟩)
    · rcases List.mem_append.1 he with he | he
      · exact h.new e he
      · simp at he; subst he; exact hxb
    · have := Blk.set_ hq1 0 v1
      simpa [Qb] using this
    · refine ((((Fr.refl _ w).set_ (p := ⟨x.b, 2, none⟩) (.inl (.inr (.inr rfl))) _).grown hg (fun k hk => .inl (.inl (.inl hk.symm)))).set_ (p := ⟨g, 0, none⟩) (.inl (.inr (.inl rfl))) _)
  have HEND := Lib.hid hend
  have HQ : Hid (Qb w g (.slice A n c) m) := Lib.hid hq
  have hos : (w.setCell ⟨x.b, 2, none⟩ (.int .i64 (n : Int))).ownsRow base 133 1 (.slice A n c) n (ptrs E) := own_set (i := 2) ho hx (by decide) _
  have hqs : Qb (w.setCell ⟨x.b, 2, none⟩ (.int .i64 (n : Int))) g (.slice A n c) m := Blk.far hq (p := ⟨x.b, 2, none⟩) hgx _
  have HOS := Lib.hid hos
  have HQS := Lib.hid hqs
  have HNR : Hid (∀ w1, (w.setCell ⟨x.b, 2, none⟩ (.int .i64 (n : Int))).grownBy w1 (Value.slice A n c).ownBlock → Qb w1 g (.slice A n c) m) := Lib.hid (fun w1 hg => Blk.grown hqs hg (fun e => by
    obtain ⟨cs, hcs⟩ := own_block ho g e.symm
    have h1 := hq
    unfold Qb Blk at h1
    rw [h1] at hcs
    cases hcs))
  unfold ptr
  simp only [tcs] at x0
  clear hend h hq ho hos hqs hn hx hxn
  have hta : ∀ w (s : TypeId), (Instr.typeAssert (.iface 133 (.pointer (some ⟨x.b, 0, none⟩))) s 133 false).run Try.prog w = .ok (.pointer (some ⟨x.b, 0, none⟩)) w := fun w s => by
    simp [Instr.typeAssert, run_underlying Try.underlying133]
  have hzs : base ≤ (w.setCell ⟨x.b, 2, none⟩ (.int .i64 (n : Int))).heap.size := by simpa [World.setCell] using hbase
  have HTS : (w.setCell ⟨x.b, 2, none⟩ (.int .i64 (n : Int))).heap.size = w.heap.size := by simp [World.setCell]
  have HSZ := Lib.hid HTS
  clear HTS
  go_enter Try.func182, Try.ntmps182
  go_wp2_with (at_builtin; (refine app_one (P := Try.prog) (W := w.setCell ⟨x.b, 2, none⟩ (.int .i64 (n : Int))) base rfl _ _ _ 133 (.pointer none) 1 8 rfl Try.underlying123 ptr_info rfl (by omega) (.slice A n c) n (ptrs E) _ rfl (by exact congrArg (fun k => Value.slice (some ⟨k, 0, none⟩) 1 1) HSZ.out.symm) rfl (by simp [Value.oneCell']) HOS.out hzs (by omega) (by omega) ?_); intro v1 w1 hown1 hg1 hat1; have hq1 := HNR.out w1 hg1; have q2 := Blk.cell hq1; have q3 := Blk.frozen hq1; have q4 := Blk.lt hq1; obtain ⟨A1, c1, rfl, _⟩ := own_form hown1; clear q0 q1)
  go_end0
  exact ⟨rfl, _, HEND.out _ w1 hown1 hg1 (fun k hk => by rcases hat1 k hk with h | h; exact .inl h; exact .inr (by rw [HSZ.out] at h; exact h))⟩

/-- A heap that one more is put into. -/
theorem Turned.moved {w w1 w2 : World} {base g : Nat} {v v' m : Value} {E E1 E2 : List Ent} {S : Nat → Prop} (h : Turned w base g v m E S v' E1 w1) (k : Moved w1 base v' E1 E2 w2) (hS : ∀ e ∈ E1, S e.b ∨ tfoot v E e.b) : Turned w base g v m E S v' E2 w2 :=
  ⟨k.th, h.qb.moved h.th k, ⟨k.fr.os.trans h.fr.os, k.fr.tape.trans h.fr.tape, k.fr.output.trans h.fr.output, Nat.le_trans h.fr.size k.fr.size, fun i hi hn => (k.fr.block i (Nat.lt_of_lt_of_le hi h.fr.size) (fun ht => by
    rcases ht with ht | ⟨e, he, rfl⟩
    · rcases h.row i ht.symm with h1 | h1
      · exact hn (.inl (.inl h1.symm))
      · omega
    · rcases hS e he with h1 | h1
      · exact hn (.inr (.inr h1))
      · exact hn (.inl h1))).trans (h.fr.block i hi hn)⟩, h.row⟩

set_option maxHeartbeats 2000000 in
set_option maxRecDepth 100000 in
theorem hpush_any (v : Value) (n base g : Nat) (m : Value) (E : List Ent) (x : Ent) (w : World) (hq : Qb w g v m) (h : TH w base v E) (hn : E.length = n) (hn2 : n ≤ 100000) (hx : Blk w x.b 132 (tcs x 0)) (hxn : ¬ tfoot v E x.b) (hxb : base ≤ x.b) (hbase : base ≤ w.heap.size) (hh : HeapN E n) :
    Calls Try.prog 75 #[hval g, .iface 133 (ptr x.b)] w fun e w' => e = .returned (.tuple #[]) ∧ ∃ v' E', Turned w base g v m E (fun b => b = x.b) v' E' w' ∧ E'.Perm (E ++ [x]) ∧ HeapN E' (n + 1) := by
  have hpush := run_push g w
  have htp := tpush_any v n base g m E x w hq h hn (by omega) hx hxn hxb hbase
  have HTP := Lib.hid htp
  have HUP : Hid (UpI (E ++ [x]) (n + 1) n) := Lib.hid (heap_snoc hh hn.symm x)
  have HN : Hid (E.length = n) := Lib.hid hn
  unfold hval
  unfold ptr at HTP ⊢
  clear htp hq h hn hx hxn hh
  go_enter Try.func75, Try.ntmps75
  go_wp2_with fail
  refine HTP.out.mono ?_
  rintro e w1 ⟨rfl, v', ht⟩
  have hth := ht.th
  have hlen1 : (E ++ [x]).length = n + 1 := by rw [List.length_append, HN.out]; rfl
  have ho := hth.own
  rw [hlen1] at ho
  obtain ⟨A1, c1, rfl, _⟩ := own_form ho
  have hlen := run_len g w1 A1 (n + 1) c1 (Blk.cell ht.qb 0)
  have hup := up_any A1 (n + 1) (n + 1) c1 base g n (n : Int) m (E ++ [x]) w1 ht.qb hth hlen1 (by omega) (Nat.le_refl _) rfl (by omega) HUP.out
  have HU := Lib.hid hup
  unfold hval at HU
  have HT := Lib.hid ht
  clear hup ht hth ho hlen1 hpush
  go_wp2_with fail
  refine (tlen_any A1 (n + 1) c1 w1 (by omega)).mono ?_
  rintro e w2 ⟨rfl, rfl⟩
  go_wp2_with fail
  refine HU.out.mono ?_
  rintro e w3 ⟨rfl, E', hmv, hh, -⟩
  go_wp2_with fail
  go_end0
  refine ⟨rfl, _, E', HT.out.moved hmv (fun e he => ?_), hmv.perm, hh⟩
  rcases List.mem_append.1 he with he | he
  · exact .inr (.inr ⟨e, he, rfl⟩)
  · simp at he; subst he; exact .inl rfl
end Go.Proofs.Ythdenkmmiadeiaa
