/- Contract of Set of a queue of timers. -/
import Derived.Test.YthdenkmmiadeiaaTim8
namespace Go.Proofs.Ythdenkmmiadeiaa
set_option linter.unusedSimpArgs false
set_option linter.unusedVariables false
open Go.RowKit

section
variable {w w' : World} {base g mb i : Nat} {v : Value} {E E' : List Ent} {L L' : List Tm}
theorem set_at (E : List Ent) (i : Nat) (x : Ent) (hi : i < E.length) (k : Nat) : at' (E.set i x) k = if k = i then x else at' E k := by
  simp only [at', List.getD_eq_getElem?_getD, List.getElem?_set]
  by_cases h : k = i
  · subst h; simp [hi]
  · rw [if_neg (fun e => h e.symm), if_neg h]
/-- Another time is stored. -/
theorem TH.set_at (h : TH w base v E) (hi : i < E.length) (a : Int) : TH (w.setCell ⟨(at' E i).b, 1, none⟩ (.int .i64 a)) base v (E.set i ⟨(at' E i).id, a, (at' E i).b⟩) := by
  have hbi := h.blk' hi
  refine ⟨?_, fun j e hj => ?_, ?_, fun e he => ?_⟩
  · have h1 := own_set (i := 1) h.own hbi (by decide) (.int .i64 a)
    rw [List.length_set]
    have e1 : ptrs (E.set i ⟨(at' E i).id, a, (at' E i).b⟩) = ptrs E := by
      rw [ptrs, List.map_set]
      have e2 : ((E.map fun e => ptr e.b).set i (ptr (at' E i).b)) = E.map fun e => ptr e.b := by
        apply List.ext_getElem?
        intro k
        rw [List.getElem?_set]
        by_cases hk : i = k
        · subst hk
          rw [if_pos rfl, List.length_map, if_pos hi]
          exact (ptrs_at hi).symm
        · rw [if_neg hk]
      exact e2
    rw [e1]
    exact h1
  · have hjl : j < E.length := by have := (List.getElem?_eq_some_iff.1 hj).1; simpa using this
    rw [List.getElem?_set] at hj
    by_cases hij : i = j
    · subst hij
      rw [if_pos rfl, if_pos hi] at hj
      injection hj with hj
      subst hj
      have := hbi.set_ 1 (.int .i64 a)
      simpa [tcs] using this
    · rw [if_neg hij] at hj
      have h1 := h.blk j e hj
      have e1 : e = at' E j := by rw [at_some hjl] at hj; injection hj with hj; exact hj.symm
      refine h1.far (p := ⟨(at' E i).b, 1, none⟩) ?_ _
      rw [e1]
      exact h.apart hjl hi (fun e => hij e.symm)
  · rw [List.map_set]
    have e2 : ((E.map (·.b)).set i (at' E i).b) = E.map (·.b) := by
      apply List.ext_getElem?
      intro k
      rw [List.getElem?_set]
      by_cases hk : i = k
      · subst hk
        rw [if_pos rfl, List.length_map, if_pos hi, List.getElem?_map, at_some hi]
        rfl
      · rw [if_neg hk]
    show List.Nodup ((E.map (·.b)).set i (at' E i).b)
    rw [e2]
    exact h.inj
  · rcases List.mem_or_eq_of_mem_set he with he | rfl
    · exact h.new e he
    · show base ≤ (at' E i).b
      exact h.new (at' E i) (List.mem_of_getElem? (at_some hi))
theorem set_ids (hi : i < E.length) (a : Int) : (∀ e ∈ E.set i ⟨(at' E i).id, a, (at' E i).b⟩, ∃ e' ∈ E, e'.id = e.id ∧ e'.b = e.b) ∧ (∀ e ∈ E, ∃ e' ∈ E.set i ⟨(at' E i).id, a, (at' E i).b⟩, e'.id = e.id ∧ e'.b = e.b) := by
  refine ⟨fun e he => ?_, fun e he => ?_⟩
  · rcases List.mem_or_eq_of_mem_set he with he | rfl
    · exact ⟨e, he, rfl, rfl⟩
    · exact ⟨at' E i, List.mem_of_getElem? (at_some hi), rfl, rfl⟩
  · obtain ⟨k, hk, hke⟩ := List.mem_iff_getElem.1 he
    have hm : at' (E.set i ⟨(at' E i).id, a, (at' E i).b⟩) k ∈ E.set i ⟨(at' E i).id, a, (at' E i).b⟩ := List.mem_of_getElem? (at_some (by simpa using hk))
    rw [set_at E i _ hi k] at hm
    by_cases h : k = i
    · subst h
      rw [if_pos rfl] at hm
      refine ⟨_, hm, ?_⟩
      have : at' E k = e := by rw [at', List.getD_eq_getElem?_getD, List.getElem?_eq_getElem hk, hke]; rfl
      rw [this]
      exact ⟨rfl, rfl⟩
    · rw [if_neg h] at hm
      refine ⟨_, hm, ?_⟩
      have : at' E k = e := by rw [at', List.getD_eq_getElem?_getD, List.getElem?_eq_getElem hk, hke]; rfl
      rw [this]
      exact ⟨rfl, rfl⟩
theorem tfoot_set (hi : i < E.length) (a : Int) (b : Nat) : tfoot v (E.set i ⟨(at' E i).id, a, (at' E i).b⟩) b ↔ tfoot v E b := by
  obtain ⟨h1, h2⟩ := set_ids hi a
  unfold tfoot
  constructor
  · rintro (h | ⟨e, he, rfl⟩)
    · exact .inl h
    · obtain ⟨e', he', _, hb⟩ := h1 e he
      exact .inr ⟨e', he', hb.symm⟩
  · rintro (h | ⟨e, he, rfl⟩)
    · exact .inl h
    · obtain ⟨e', he', _, hb⟩ := h2 e he
      exact .inr ⟨e', he', hb.symm⟩
theorem put_len (hg : Good L) {id a : Int} : (putS L id a).length = if hasS L id then L.length else L.length + 1 := by
  have h1 : (putS L id a).length = (dropS L id).length + 1 := by rw [putS, (ins_perm _ _).length_eq]; rfl
  rw [h1]
  cases hh : hasS L id with
  | false => rw [drop_none hh]; simp
  | true =>
    obtain ⟨x, hx, he⟩ := has_iff.1 hh
    subst he
    have h2 : (dropS L x.1).length + 1 = L.length := by
      have hn := hg.2
      clear hh h1 hg
      induction L with
      | nil => simp at hx
      | cons y r ih =>
        rw [List.map_cons, List.nodup_cons] at hn
        rcases List.mem_cons.1 hx with rfl | hx
        · have : dropS (x :: r) x.1 = r := by
            rw [dropS, List.filter_cons, if_neg (by simp)]
            exact List.filter_eq_self.2 fun z hz => by rw [bne_iff_ne]; exact fun e => hn.1 (List.mem_map.2 ⟨z, hz, e⟩)
          rw [this]; rfl
        · have hne : y.1 ≠ x.1 := fun e => hn.1 (e ▸ List.mem_map.2 ⟨x, hx, rfl⟩)
          have : dropS (y :: r) x.1 = y :: dropS r x.1 := by
            rw [dropS, List.filter_cons, if_pos (by rw [bne_iff_ne]; exact hne)]
            rfl
          rw [this, List.length_cons, List.length_cons, ih hx hn.2]
    rw [h2]
    simp
theorem put_ids {id a : Int} (h : ∀ x ∈ L, W64 x.1) (hi : W64 id) : ∀ x ∈ putS L id a, W64 x.1 := fun x hx => by
  rcases List.mem_cons.1 ((ins_perm _ _).mem_iff.1 hx) with rfl | hx
  · exact hi
  · exact h x (drop_mem.1 hx).1
theorem ids_at (h : Holds E L) (hd : ∀ x ∈ L, W64 x.1) (hi : i < E.length) : W64 (at' E i).id :=
  hd (key (at' E i)) (h.mem_iff.1 (List.mem_map.2 ⟨_, List.mem_of_getElem? (at_some hi), rfl⟩))
/-- A queue whose heap was turned in its order, at another time of a number. -/
theorem QS.reset (h : QS w base g mb v E L) (hi : i < E.length) (a : Int) (hm : Moved (w.setCell ⟨(at' E i).b, 1, none⟩ (.int .i64 a)) base v (E.set i ⟨(at' E i).id, a, (at' E i).b⟩) E' w') (hh : HeapN E' E'.length) : QStep w base g mb v E (putS L (at' E i).id a) w' := by
  have hbi := h.th.blk' hi
  have hfi : tfoot v E (at' E i).b := .inr ⟨_, List.mem_of_getElem? (at_some hi), rfl⟩
  have hqn : g ≠ (at' E i).b := by
    rintro e
    exact h.th.out h.qb (by decide) (by decide) (e ▸ hfi)
  have hmn : mb ≠ (at' E i).b := fun e => h.map_out.1 (e ▸ hfi)
  have hf1 : Fr (tfoot v E) w (w.setCell ⟨(at' E i).b, 1, none⟩ (.int .i64 a)) := (Fr.refl _ w).set_ (p := ⟨(at' E i).b, 1, none⟩) (.inl hfi) _
  have hf2 : Fr (tfoot v E) w w' := hf1.trans hm.fr (fun b _ hb => (tfoot_set hi a b).1 hb)
  obtain ⟨s1, s2⟩ := set_ids hi a
  have hl : E'.length = E.length := by rw [hm.perm.length_eq, List.length_set]
  have hmp : MapOk w' mb E' := by
    refine ((h.mp.fr hf2 h.map_out.1).same (E' := E.set i ⟨(at' E i).id, a, (at' E i).b⟩) (by simp) s1 (fun e he => ?_)).perm hm.perm
    obtain ⟨e', he', h1, _⟩ := s2 e he
    exact ⟨e', he', h1⟩
  have hhas : hasS L (at' E i).id = true := has_iff.2 ⟨key (at' E i), h.hold.mem_iff.1 (List.mem_map.2 ⟨_, List.mem_of_getElem? (at_some hi), rfl⟩), rfl⟩
  refine ⟨v, E', ⟨hm.th, Blk.fr h.qb hf2 (h.th.out h.qb (by decide) (by decide)), hmp, hh, holds_perm (holds_set h.hold h.good hi a) hm.perm, put_good h.good _ _, ?_, h.gb, h.mbb, put_ids h.ids (ids_at h.hold h.ids hi)⟩, hf2.more (fun b hb => .inl hb), fun b hb => .inl ?_⟩
  · rw [put_len h.good, hhas]
    exact h.le
  · rcases hb with hb | hb
    · exact .inl ((tfoot_set hi a b).1 ((tfoot_perm hm.perm b).1 hb))
    · exact .inr hb
/-- A queue into which one more was put. -/
theorem QS.more (h : QS w base g mb v E L) {x : Ent} {w1 : World} {v' : Value} (hn : hasS L x.id = false) (hw : W64 x.id) (hle : L.length < 256) (hx : w.heap.size = x.b)
    (hm1 : MapOk w1 mb (E ++ [x])) (ht : Turned w1 base g v (.map (some mb)) E (fun b => b = x.b) v' E' w') (hf : Fr (fun b => b = mb) w w1) (hz : w.heap.size < w1.heap.size) (hp : E'.Perm (E ++ [x])) (hh : HeapN E' (E.length + 1)) : QStep w base g mb v E (putS L x.id x.at_) w' := by
  have hl : E'.length = E.length + 1 := by rw [hp.length_eq, List.length_append]; rfl
  have hmo := h.map_out
  have hmx : mb ≠ x.b := fun e => by have := h.mp.lt; omega
  have hmp : MapOk w' mb E' := (hm1.fr ht.fr (by rintro (h1 | h1 | h1); exact hmo.1 h1; exact hmo.2 h1; exact hmx h1)).perm hp
  refine ⟨v', E', ⟨ht.th, ht.qb, hmp, by rw [hl]; exact hh, holds_perm (holds_new h.hold x hn) hp, put_good h.good _ _, ?_, h.gb, h.mbb, put_ids h.ids hw⟩, ?_, fun b hb => ?_⟩
  · rw [put_len h.good, hn]
    simp
    omega
  · refine ⟨ht.fr.os.trans hf.os, ht.fr.tape.trans hf.tape, ht.fr.output.trans hf.output, Nat.le_trans hf.size ht.fr.size, fun k hk hn => ?_⟩
    refine (ht.fr.block k (Nat.lt_of_lt_of_le hk hf.size) ?_).trans (hf.block k hk (fun e => hn (.inr (.inr e))))
    rintro (h1 | h1 | h1)
    · exact hn (.inl h1)
    · exact hn (.inr (.inl h1))
    · omega
  · rcases hb with (hb | ⟨e, he, rfl⟩) | hb
    · rcases ht.row b hb.symm with h1 | h1
      · exact .inl (.inl (.inl h1.symm))
      · exact .inr (by omega)
    · rcases List.mem_append.1 (hp.mem_iff.1 he) with h1 | h1
      · exact .inl (.inl (.inr ⟨e, h1, rfl⟩))
      · simp at h1
        subst h1
        exact .inr (by omega)
    · exact .inl (.inr hb)
theorem hold_none (h : Holds E L) {id : Int} (hh : hasS L id = false) : ∀ e ∈ E, e.id ≠ id := by
  intro e he h1
  have h2 : hasS L id = true := has_iff.2 ⟨key e, h.mem_iff.1 (List.mem_map.2 ⟨e, he, rfl⟩), h1⟩
  rw [hh] at h2
  cases h2
end

set_option maxHeartbeats 4000000 in
set_option maxRecDepth 100000 in
theorem qset_any (w : World) (base g mb : Nat) (v : Value) (E : List Ent) (L : List Tm) (id a : Int) (h : QS w base g mb v E L) (hid : W64 id) :
    Calls Try.prog 35 #[.pointer (some ⟨g, 0, none⟩), .int .i64 id, .int .i64 a] w fun e w' => e = .returned (.int .i64 (setErr L id a)) ∧ QStep w base g mb v E (setS L id a) w' := by
  have hnone := none_any h
  have q0 := Blk.cell h.qb
  have q1 := Blk.frozen h.qb
  have q2 := Blk.lt h.qb
  have HNO := Lib.hid hnone
  have HS := Lib.hid h
  clear hnone
  by_cases hbad : id < 0 ∨ a < 0 ∨ 1099511627776 < a
  · have he : setErr L id a = 11 := by rw [setErr, if_pos hbad]
    have hs : setS L id a = L := by rw [setS, he]; rfl
    have HE := Lib.hid he
    have HSS := Lib.hid hs
    have hb2 : id < 0 ∨ (0 ≤ id ∧ a < 0) ∨ (0 ≤ id ∧ 0 ≤ a ∧ 1099511627776 < a) := by omega
    clear he hs hbad h
    rcases hb2 with hb2 | ⟨hb2, hb3⟩ | ⟨hb2, hb3, hb4⟩
    all_goals
      go_enter Try.func35, Try.ntmps35
      go_wp2_with fail
      refine HNO.out.mono ?_
      rintro e w1 ⟨rfl, rfl⟩
      go_wp2_with fail
      go_ret
      exact ⟨by rw [HE.out]; rfl, by rw [HSS.out]; exact HS.out.still (Fr.refl _ _)⟩
  · have hok : 0 ≤ id ∧ 0 ≤ a ∧ a ≤ 1099511627776 := by omega
    obtain ⟨o1, o2, o3⟩ := hok
    cases hhas : hasS L id with
    | true =>
      have he : setErr L id a = 0 := by rw [setErr, if_neg hbad, hhas]; rfl
      have hs : setS L id a = putS L id a := by rw [setS, he]; rfl
      obtain ⟨i, hi, hid2⟩ := holds_has h.hold hhas
      have hit := h.mp.hit (List.mem_of_getElem? (at_some hi)) (by rw [hid2]; exact hid)
      rw [hid2] at hit
      have hbi := h.th.blk' hi
      have HE := Lib.hid he
      have HSS := Lib.hid hs
      have hth := h.th.set_at hi a
      have hlen : (E.set i ⟨(at' E i).id, a, (at' E i).b⟩).length = E.length := List.length_set
      have ho := h.th.own
      obtain ⟨A, c, rfl, _⟩ := own_form ho
      have hfi : tfoot (.slice A E.length c) E (at' E i).b := .inr ⟨_, List.mem_of_getElem? (at_some hi), rfl⟩
      have hqn : g ≠ (at' E i).b := fun e => h.th.out h.qb (by decide) (by decide) (e ▸ hfi)
      have hq1 : Qb (w.setCell ⟨(at' E i).b, 1, none⟩ (.int .i64 a)) g (.slice A E.length c) (.map (some mb)) := Blk.far h.qb (p := ⟨(at' E i).b, 1, none⟩) hqn _
      have hfx := fun q iv h1 => fix_any A E.length c base g i iv (.map (some mb)) (E.set i ⟨(at' E i).id, a, (at' E i).b⟩) ((w.setCell ⟨(at' E i).b, 1, none⟩ (.int .i64 a)).drewN q) (Blk.drewN hq1 q) (hth.nob ((Fr.refl nob _).drewN q)) hlen (by have := h.len; have := h.le; omega) h1 hi (heap_set h.hp _)
      have hcell := fun V (hV : Fr nob (w.setCell ⟨(at' E i).b, 1, none⟩ (.int .i64 a)) V) => ((hbi.set_ 1 (.int .i64 a)).fr hV (fun h => h)).cell 2
      have HRS : Hid (∀ q E' w', Moved ((w.setCell ⟨(at' E i).b, 1, none⟩ (.int .i64 a)).drewN q) base (.slice A E.length c) (E.set i ⟨(at' E i).id, a, (at' E i).b⟩) E' w' → HeapN E' E.length → QStep w base g mb (.slice A E.length c) E (putS L id a) w') := Lib.hid (fun q E' w' hm hh => by
        have hl : E'.length = E.length := by rw [hm.perm.length_eq, hlen]
        have := h.reset (w' := w') (E' := E') hi a ⟨hm.th, hm.perm, ((Fr.refl nob _).drewN q).of_nob.trans hm.fr (fun _ _ h => h)⟩ (by rw [hl]; exact hh)
        rwa [hid2] at this)
      obtain ⟨b, hb⟩ : ∃ b, b = (at' E i).b := ⟨_, rfl⟩
      rw [← hb] at hbi hcell hfx hit HRS
      have b0 := hbi.cell
      have b1 := hbi.frozen
      have b2 := hbi.lt
      simp only [tcs] at b0
      have HFX := Lib.hid hfx
      unfold hval at HFX
      have HCELL := Lib.hid hcell
      unfold ptr at hit
      clear he hs hhas hid2 hbi hth ho hfi hqn hq1 hfx hcell hb h hbad hlen
      go_enter Try.func35, Try.ntmps35
      go_wp2_with fail
      refine HNO.out.mono ?_
      rintro e w1 ⟨rfl, rfl⟩
      go_wp2_with fail
      obtain ⟨W, hW⟩ : ∃ W, W = w.setCell ⟨b, 1, none⟩ (.int .i64 a) := ⟨_, rfl⟩
      rw [← hW] at HFX HCELL HRS ⊢
      clear hW
      have d0 := HCELL.out W.drew (Fr.refl nob W).drew
      simp at d0
      refine late_start (fun w' => w'.cell? ⟨b, 2, none⟩ = some (.int .i64 (i : Int))) (fun j => j == 8) (by kernel_rfl) d0 (fun hHeld => ?_)
      first
        | (refine late_skip 0 rfl (by kernel_rfl) (by kernel_rfl) (by kernel_rfl) (by kernel_rfl) (by rfl) (by (first | exact Or.inr (by assumption) | exact Or.inl (by kernel_rfl))) (fun _ _ _ h => h) ?_)
        | (refine late_free 0 (v := ?_) rfl (by kernel_rfl) (by kernel_rfl) (by kernel_rfl) (by kernel_rfl) (by rfl) (by (first | exact Or.inr (by assumption) | exact Or.inl (by kernel_rfl))) (fun _ _ _ h => h) ?_ ?_; rotate_left; · (intro wS; go_simp; try with_reducible rfl))
        | (refine late_pure 0 (v := ?_) rfl (by kernel_rfl) (by kernel_rfl) (by kernel_rfl) (by kernel_rfl) (by rfl) (by assumption) (fun _ _ _ h => h) (by kernel_rfl) (by kernel_rfl) ?_ ?_; rotate_left; · (intro wS hSw; (try dsimp only at hSw); go_simp; try with_reducible rfl))
      simp only [Act.put, List.setIfInBounds_toArray, List.set_cons_zero, List.set_cons_succ]
      first
        | (refine late_skip 1 rfl (by kernel_rfl) (by kernel_rfl) (by kernel_rfl) (by kernel_rfl) (by rfl) (by (first | exact Or.inr (by assumption) | exact Or.inl (by kernel_rfl))) (fun _ _ _ h => h) ?_)
        | (refine late_free 1 (v := ?_) rfl (by kernel_rfl) (by kernel_rfl) (by kernel_rfl) (by kernel_rfl) (by rfl) (by (first | exact Or.inr (by assumption) | exact Or.inl (by kernel_rfl))) (fun _ _ _ h => h) ?_ ?_; rotate_left; · (intro wS; go_simp; try with_reducible rfl))
        | (refine late_pure 1 (v := ?_) rfl (by kernel_rfl) (by kernel_rfl) (by kernel_rfl) (by kernel_rfl) (by rfl) (by assumption) (fun _ _ _ h => h) (by kernel_rfl) (by kernel_rfl) ?_ ?_; rotate_left; · (intro wS hSw; (try dsimp only at hSw); go_simp; try with_reducible rfl))
      simp only [Act.put, List.setIfInBounds_toArray, List.set_cons_zero, List.set_cons_succ]
      first
        | (refine late_skip 2 rfl (by kernel_rfl) (by kernel_rfl) (by kernel_rfl) (by kernel_rfl) (by rfl) (by (first | exact Or.inr (by assumption) | exact Or.inl (by kernel_rfl))) (fun _ _ _ h => h) ?_)
        | (refine late_free 2 (v := ?_) rfl (by kernel_rfl) (by kernel_rfl) (by kernel_rfl) (by kernel_rfl) (by rfl) (by (first | exact Or.inr (by assumption) | exact Or.inl (by kernel_rfl))) (fun _ _ _ h => h) ?_ ?_; rotate_left; · (intro wS; go_simp; try with_reducible rfl))
        | (refine late_pure 2 (v := ?_) rfl (by kernel_rfl) (by kernel_rfl) (by kernel_rfl) (by kernel_rfl) (by rfl) (by assumption) (fun _ _ _ h => h) (by kernel_rfl) (by kernel_rfl) ?_ ?_; rotate_left; · (intro wS hSw; (try dsimp only at hSw); go_simp; try with_reducible rfl))
      simp only [Act.put, List.setIfInBounds_toArray, List.set_cons_zero, List.set_cons_succ]
      first
        | (refine late_skip 3 rfl (by kernel_rfl) (by kernel_rfl) (by kernel_rfl) (by kernel_rfl) (by rfl) (by (first | exact Or.inr (by assumption) | exact Or.inl (by kernel_rfl))) (fun _ _ _ h => h) ?_)
        | (refine late_free 3 (v := ?_) rfl (by kernel_rfl) (by kernel_rfl) (by kernel_rfl) (by kernel_rfl) (by rfl) (by (first | exact Or.inr (by assumption) | exact Or.inl (by kernel_rfl))) (fun _ _ _ h => h) ?_ ?_; rotate_left; · (intro wS; go_simp; try with_reducible rfl))
        | (refine late_pure 3 (v := ?_) rfl (by kernel_rfl) (by kernel_rfl) (by kernel_rfl) (by kernel_rfl) (by rfl) (by assumption) (fun _ _ _ h => h) (by kernel_rfl) (by kernel_rfl) ?_ ?_; rotate_left; · (intro wS hSw; (try dsimp only at hSw); go_simp; try with_reducible rfl))
      simp only [Act.put, List.setIfInBounds_toArray, List.set_cons_zero, List.set_cons_succ]
      first
        | (refine late_skip 4 rfl (by kernel_rfl) (by kernel_rfl) (by kernel_rfl) (by kernel_rfl) (by rfl) (by (first | exact Or.inr (by assumption) | exact Or.inl (by kernel_rfl))) (fun _ _ _ h => h) ?_)
        | (refine late_free 4 (v := ?_) rfl (by kernel_rfl) (by kernel_rfl) (by kernel_rfl) (by kernel_rfl) (by rfl) (by (first | exact Or.inr (by assumption) | exact Or.inl (by kernel_rfl))) (fun _ _ _ h => h) ?_ ?_; rotate_left; · (intro wS; go_simp; try with_reducible rfl))
        | (refine late_pure 4 (v := ?_) rfl (by kernel_rfl) (by kernel_rfl) (by kernel_rfl) (by kernel_rfl) (by rfl) (by assumption) (fun _ _ _ h => h) (by kernel_rfl) (by kernel_rfl) ?_ ?_; rotate_left; · (intro wS hSw; (try dsimp only at hSw); go_simp; try with_reducible rfl))
      simp only [Act.put, List.setIfInBounds_toArray, List.set_cons_zero, List.set_cons_succ]
      first
        | (refine late_skip 5 rfl (by kernel_rfl) (by kernel_rfl) (by kernel_rfl) (by kernel_rfl) (by rfl) (by (first | exact Or.inr (by assumption) | exact Or.inl (by kernel_rfl))) (fun _ _ _ h => h) ?_)
        | (refine late_free 5 (v := ?_) rfl (by kernel_rfl) (by kernel_rfl) (by kernel_rfl) (by kernel_rfl) (by rfl) (by (first | exact Or.inr (by assumption) | exact Or.inl (by kernel_rfl))) (fun _ _ _ h => h) ?_ ?_; rotate_left; · (intro wS; go_simp; try with_reducible rfl))
        | (refine late_pure 5 (v := ?_) rfl (by kernel_rfl) (by kernel_rfl) (by kernel_rfl) (by kernel_rfl) (by rfl) (by assumption) (fun _ _ _ h => h) (by kernel_rfl) (by kernel_rfl) ?_ ?_; rotate_left; · (intro wS hSw; (try dsimp only at hSw); go_simp; try with_reducible rfl))
      simp only [Act.put, List.setIfInBounds_toArray, List.set_cons_zero, List.set_cons_succ]
      first
        | (refine late_skip 6 rfl (by kernel_rfl) (by kernel_rfl) (by kernel_rfl) (by kernel_rfl) (by rfl) (by (first | exact Or.inr (by assumption) | exact Or.inl (by kernel_rfl))) (fun _ _ _ h => h) ?_)
        | (refine late_free 6 (v := ?_) rfl (by kernel_rfl) (by kernel_rfl) (by kernel_rfl) (by kernel_rfl) (by rfl) (by (first | exact Or.inr (by assumption) | exact Or.inl (by kernel_rfl))) (fun _ _ _ h => h) ?_ ?_; rotate_left; · (intro wS; go_simp; try with_reducible rfl))
        | (refine late_pure 6 (v := ?_) rfl (by kernel_rfl) (by kernel_rfl) (by kernel_rfl) (by kernel_rfl) (by rfl) (by assumption) (fun _ _ _ h => h) (by kernel_rfl) (by kernel_rfl) ?_ ?_; rotate_left; · (intro wS hSw; (try dsimp only at hSw); go_simp; try with_reducible rfl))
      simp only [Act.put, List.setIfInBounds_toArray, List.set_cons_zero, List.set_cons_succ]
      first
        | (refine late_skip 7 rfl (by kernel_rfl) (by kernel_rfl) (by kernel_rfl) (by kernel_rfl) (by rfl) (by (first | exact Or.inr (by assumption) | exact Or.inl (by kernel_rfl))) (fun _ _ _ h => h) ?_)
        | (refine late_free 7 (v := ?_) rfl (by kernel_rfl) (by kernel_rfl) (by kernel_rfl) (by kernel_rfl) (by rfl) (by (first | exact Or.inr (by assumption) | exact Or.inl (by kernel_rfl))) (fun _ _ _ h => h) ?_ ?_; rotate_left; · (intro wS; go_simp; try with_reducible rfl))
        | (refine late_pure 7 (v := ?_) rfl (by kernel_rfl) (by kernel_rfl) (by kernel_rfl) (by kernel_rfl) (by rfl) (by assumption) (fun _ _ _ h => h) (by kernel_rfl) (by kernel_rfl) ?_ ?_; rotate_left; · (intro wS hSw; (try dsimp only at hSw); go_simp; try with_reducible rfl))
      simp only [Act.put, List.setIfInBounds_toArray, List.set_cons_zero, List.set_cons_succ]
      refine late_last 8 rfl (by kernel_rfl) (by kernel_rfl) (fun K hK => ?_)
      go_simp
      refine (HFX.out 1 _ rfl).mono ?_
      rintro e w2 ⟨rfl, E', hmv, hh⟩
      have HQ := Lib.hid (HRS.out 1 E' w2 hmv hh)
      clear hmv hh
      refine hK.out _ _ ?_
      clear hK K
      try simp only [Act.put, List.setIfInBounds_toArray, List.set_cons_zero, List.set_cons_succ]
      refine late_done (by kernel_rfl) ?_
      clear hHeld
      go_wp2_with fail
      go_ret
      exact ⟨by rw [HE.out]; rfl, by rw [HSS.out]; exact HQ.out⟩
    | false =>
      have hids := hold_none h.hold hhas
      have hmiss := h.mp.miss hids hid
      by_cases hfull : 256 ≤ L.length
      · have he : setErr L id a = 17 := by rw [setErr, if_neg hbad, if_pos ⟨hhas, hfull⟩]
        have hs : setS L id a = L := by rw [setS, he]; rfl
        have HE := Lib.hid he
        have HSS := Lib.hid hs
        obtain ⟨D, ho, hsz, ha, hm⟩ := h.mp
        have hge : decide ((256 : Int) ≤ (Maps.size D : Int)) = true := decide_eq_true (by have := h.len; omega)
        clear he hs hids hhas ha hm hsz h hbad hfull
        go_enter Try.func35, Try.ntmps35
        go_wp2_with fail
        refine HNO.out.mono ?_
        rintro e w1 ⟨rfl, rfl⟩
        go_wp2_with (at_len; refine wpList_len_own _ rfl _ 121 rfl 3 133 Try.underlying121 ptrR mb _ D rfl ho ?_)
        go_ret
        exact ⟨by rw [HE.out]; rfl, by rw [HSS.out]; exact HS.out.still (Fr.refl _ _)⟩
      · have he : setErr L id a = 0 := by rw [setErr, if_neg hbad, if_neg (fun h => hfull h.2)]
        have hs : setS L id a = putS L id a := by rw [setS, he]; rfl
        have HE := Lib.hid he
        have HSS := Lib.hid hs
        obtain ⟨D, ho, hsz, ha, hm⟩ := h.mp
        have hlt : decide ((256 : Int) ≤ (Maps.size D : Int)) = false := decide_eq_false (by have := h.len; omega)
        have hEl : E.length ≤ 255 := by have := h.len; omega
        obtain ⟨x, hx⟩ : ∃ x : Ent, x = ⟨id, a, w.heap.size⟩ := ⟨_, rfl⟩
        have ho1 := ho.alloc (.cells #[.int .i64 id, .int .i64 a, .int .i64 0] 132)
        have hput : ∀ w1 : World, w1.ownsMap Try.prog 3 ptrR mb (E.length + 1) (D.put (kl id) (.lit (.int .i64 (w.heap.size : Int)))) → MapOk w1 mb (E ++ [x]) := fun w1 h1 => by
          rw [hx]
          exact mapOk_put (x := ⟨id, a, w.heap.size⟩) (ho.tidy keyed) hsz ha hm hids h1
        have hend : ∀ w1 : World, (w.alloc (.cells #[.int .i64 id, .int .i64 a, .int .i64 0] 132)).grownBy w1 (some mb) → MapOk w1 mb (E ++ [x]) →
            Calls Try.prog 75 #[hval g, .iface 133 (ptr w.heap.size)] w1 fun e w' => e = .returned (.tuple #[]) ∧ QStep w base g mb v E (putS L id a) w' := fun w1 hg hm1 => by
          have hfa : Fr (fun b => b = mb) w w1 := by
            refine ((Fr.refl _ w).alloc _).grown hg (fun k hk => ?_)
            cases hk
            exact .inl rfl
          have hmo := h.map_out
          have hne : ∀ b, tfoot v E b → b ≠ mb := fun b hb e => hmo.1 (e ▸ hb)
          have hq1 : Qb w1 g v (.map (some mb)) := Blk.fr h.qb hfa (fun e => hmo.2 e.symm)
          have ht1 : TH w1 base v E := h.th.fr hfa (fun b hb e => hne b hb e)
          have hxb : Blk w1 w.heap.size 132 (tcs x 0) := by
            have h1 := (Blk.new w 132 #[.int .i64 id, .int .i64 a, .int .i64 0]).grown hg (fun e => by have := ho.lt; injection e with e; omega)
            rw [hx]
            exact h1
          have hsx : w.heap.size < w1.heap.size := by have := hg.size; simp at this; omega
          have hbz : base ≤ w.heap.size := by have := h.gb; have := Blk.lt h.qb; omega
          have hc := hpush_any v E.length base g (.map (some mb)) E x w1 hq1 ht1 rfl (by omega) (by rw [hx]; rw [hx] at hxb; exact hxb) (fun hb => absurd (h.th.lt hb) (by rw [hx]; exact Nat.lt_irrefl _)) (by rw [hx]; exact hbz) (by omega) h.hp
          rw [show ptr w.heap.size = ptr x.b from by rw [hx]]
          refine hc.mono ?_
          rintro e w' ⟨rfl, v', E', ht, hp, hh⟩
          refine ⟨rfl, ?_⟩
          have := h.more (x := x) (by rw [hx]; exact hhas) (by rw [hx]; exact hid) (by omega) (by rw [hx]) hm1 ht hfa hsx hp hh
          rw [hx] at this
          exact this
        have HEND := Lib.hid hend
        unfold hval ptr at HEND
        have HPUT := Lib.hid hput
        clear he hs hids hhas ha hm hsz h hbad hfull hend hput hx
        go_enter Try.func35, Try.ntmps35
        go_wp2_with fail
        refine HNO.out.mono ?_
        rintro e w1 ⟨rfl, rfl⟩
        go_wp2_with (first
          | (at_len; refine wpList_len_own _ rfl _ 121 rfl 3 133 Try.underlying121 ptrR mb _ D rfl ho ?_)
          | (at_mapUpdate; refine wpList_mapUpdate_own _ rfl _ _ _ 121 rfl 3 133 keyed Try.underlying121 ptrR mb _ D rfl ho1 (by unfold maxLen; omega) _ _ (kl id) rfl rfl (key_of hid) _ [] (ptrR_ptr _) ?_; intro w2 hown2 hgrow2))
        refine (HEND.out w2 hgrow2 (HPUT.out w2 hown2)).mono ?_
        rintro e w3 ⟨rfl, hq⟩
        have HQ := Lib.hid hq
        clear hq
        go_wp2_with fail
        go_ret
        exact ⟨by rw [HE.out]; rfl, by rw [HSS.out]; exact HQ.out⟩
end Go.Proofs.Ythdenkmmiadeiaa
