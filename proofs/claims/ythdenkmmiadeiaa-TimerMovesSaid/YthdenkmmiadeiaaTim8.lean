/- A queue of timers as it lies: the heap, the map of the numbers, the list that both hold. -/
import Derived.Test.YthdenkmmiadeiaaTim7
import Derived.Maps.OwnSet
import Derived.Maps.OwnOps
namespace Go.Proofs.Ythdenkmmiadeiaa
set_option linter.unusedSimpArgs false
set_option linter.unusedVariables false
open Go.RowKit

/-- How a pointer to a timer reads in the map. -/
def ptrR (v : Value) : Option (DataW Unit × List MemPlace) := match v with
  | .pointer (some ⟨b, 0, none⟩) => some (.lit (.int .i64 (b : Int)), [])
  | .pointer none => some (.lit (.bool false), [])
  | _ => none
theorem ptrR_ptr (b : Nat) : ptrR (ptr b) = some (.lit (.int .i64 (b : Int)), []) := rfl
theorem ptrR_nil : ptrR (.pointer none) = some (.lit (.bool false), []) := rfl
theorem ptrR_inv {v : Value} {b : Nat} {ps : List MemPlace} (h : ptrR v = some (.lit (.int .i64 (b : Int)), ps)) : v = ptr b := by
  unfold ptrR at h
  split at h
  · injection h with h
    injection h with h _
    injection h with h
    injection h with _ h
    have : (_ : Nat) = b := Int.ofNat.inj h
    subst this
    rfl
  · injection h with h
    injection h with h _
    injection h with h
    cases h
  · cases h
theorem ptrR_inv0 {v : Value} {ps : List MemPlace} (h : ptrR v = some (.lit (.bool false), ps)) : v = .pointer none := by
  unfold ptrR at h
  split at h
  · injection h with h
    injection h with h _
    injection h with h
    cases h
  · rfl
  · cases h
def kl (id : Int) : Lit := .int .i64 id
theorem kl_ne {a b : Int} (h : a ≠ b) : kl a ≠ kl b := fun e => h (by injection e)
def W64 (id : Int) : Prop := (Lit.int .i64 id).wf = true
theorem keyed : Maps.Keyed Try.prog 3 := Maps.int_keyed Try.underlying3
theorem key_of {id : Int} (h : W64 id) : keyOf Try.prog 3 (.int .i64 id) = some (kl id) := Maps.keyOf_int_mk Try.underlying3 h
/-- The map in block mb holds the timers E by their numbers. -/
def MapOk (w : World) (mb : Nat) (E : List Ent) : Prop :=
  ∃ D : DataW Unit, w.ownsMap Try.prog 3 ptrR mb E.length D ∧ Maps.size D = E.length ∧
    (∀ e ∈ E, D.atKey (kl e.id) (.lit (.bool false)) = .lit (.int .i64 (e.b : Int)) ∧ Maps.has D (kl e.id) = true) ∧ (∀ id, (∀ e ∈ E, e.id ≠ id) → Maps.has D (kl id) = false)
theorem owns_block {H : Type} {P : Program} {k : TypeId} {R : Value → Option (DataW H × List MemPlace)} {w w' : World} {b n : Nat} {D : DataW H} (h : w.ownsMap P k R b n D) (hb : w'.heap[b]? = w.heap[b]?) : w'.ownsMap P k R b n D := by
  obtain ⟨es, clock, h1, r⟩ := h
  exact ⟨es, clock, hb.trans h1, r⟩
theorem owns_tight {H : Type} {P : Program} {k : TypeId} {R : Value → Option (DataW H × List MemPlace)} {w : World} {b n : Nat} {D : DataW H} (h : w.ownsMap P k R b n D) : w.ownsMap P k R b (Maps.size D) D := by
  obtain ⟨es, clock, h1, F, hs, rfl⟩ := h
  exact ⟨es, clock, h1, F, by simp [Maps.size, length_sorted], rfl⟩
section
variable {w w' : World} {mb : Nat} {E E' : List Ent}
theorem MapOk.lt (h : MapOk w mb E) : mb < w.heap.size := by obtain ⟨D, ho, _⟩ := h; exact ho.lt
theorem MapOk.fr (h : MapOk w mb E) {S : Nat → Prop} (hf : Fr S w w') (hn : ¬ S mb) : MapOk w' mb E := by
  have hlt := h.lt
  obtain ⟨D, ho, r⟩ := h
  exact ⟨D, owns_block ho (hf.block mb hlt hn), r⟩
/-- The map asks of the numbers and blocks alone. -/
theorem MapOk.same (h : MapOk w mb E) (hl : E'.length = E.length) (h1 : ∀ e ∈ E', ∃ e' ∈ E, e'.id = e.id ∧ e'.b = e.b) (h2 : ∀ e ∈ E, ∃ e' ∈ E', e'.id = e.id) : MapOk w mb E' := by
  obtain ⟨D, ho, hs, ha, hm⟩ := h
  refine ⟨D, by rw [hl]; exact ho, by rw [hl]; exact hs, fun e he => ?_, fun id hid => hm id (fun e he => ?_)⟩
  · obtain ⟨e', he', h3, h4⟩ := h1 e he
    rw [← h3, ← h4]
    exact ha e' he'
  · obtain ⟨e', he', h3⟩ := h2 e he
    rw [← h3]
    exact hid e' he'
theorem MapOk.perm (h : MapOk w mb E) (hp : E'.Perm E) : MapOk w mb E' :=
  h.same hp.length_eq (fun e he => ⟨e, hp.mem_iff.1 he, rfl, rfl⟩) (fun e he => ⟨e, hp.mem_iff.2 he, rfl⟩)
theorem MapOk.cells (h : MapOk w mb E) {t : TypeId} {cs : Array Value} (hb : Blk w mb t cs) : False := by
  obtain ⟨D, ⟨es, clock, h1, _⟩, _⟩ := h
  unfold Blk at hb
  rw [hb] at h1
  cases h1
theorem zero_ptr (w : World) : (zeroValue 133).run Try.prog w = .ok (.pointer none) w := by
  obtain ⟨i, hi, h1, h2⟩ := ptr_info'
  simp [zeroValue, typeInfo, hi, h1]
theorem MapOk.hit (h : MapOk w mb E) {e : Ent} (he : e ∈ E) (hw : W64 e.id) : (Instr.lookup 121 (.map (some mb)) (.int .i64 e.id) true).run Try.prog w = .ok (.tuple #[ptr e.b, .bool true]) w := by
  obtain ⟨D, ho, hs, ha, hm⟩ := h
  obtain ⟨v, ps, hr, hv⟩ := ho.look_ok keyed Try.underlying121 (zero_ptr w) ptrR_nil (key_of hw)
  obtain ⟨h1, h2⟩ := ha e he
  rw [h1] at hv
  rw [hr, h2, ptrR_inv hv]
theorem MapOk.miss (h : MapOk w mb E) {id : Int} (hid : ∀ e ∈ E, e.id ≠ id) (hw : W64 id) : (Instr.lookup 121 (.map (some mb)) (.int .i64 id) true).run Try.prog w = .ok (.tuple #[.pointer none, .bool false]) w := by
  obtain ⟨D, ho, hs, ha, hm⟩ := h
  obtain ⟨v, ps, hr, hv⟩ := ho.look_ok keyed Try.underlying121 (zero_ptr w) ptrR_nil (key_of hw)
  have h1 := hm id hid
  rw [Maps.atKey_of_not_has h1] at hv
  rw [hr, h1, ptrR_inv0 hv]
theorem MapOk.get (h : MapOk w mb E) {e : Ent} (he : e ∈ E) (hw : W64 e.id) : (Instr.lookup 121 (.map (some mb)) (.int .i64 e.id) false).run Try.prog w = .ok (ptr e.b) w := by
  obtain ⟨D, ho, hs, ha, hm⟩ := h
  obtain ⟨v, ps, hr, hv⟩ := ho.lookup keyed Try.underlying121 (zero_ptr w) ptrR_nil (key_of hw)
  obtain ⟨h1, h2⟩ := ha e he
  rw [h1] at hv
  rw [hr, ptrR_inv hv]
theorem MapOk.get0 (h : MapOk w mb E) {id : Int} (hid : ∀ e ∈ E, e.id ≠ id) (hw : W64 id) : (Instr.lookup 121 (.map (some mb)) (.int .i64 id) false).run Try.prog w = .ok (.pointer none) w := by
  obtain ⟨D, ho, hs, ha, hm⟩ := h
  obtain ⟨v, ps, hr, hv⟩ := ho.lookup keyed Try.underlying121 (zero_ptr w) ptrR_nil (key_of hw)
  have h1 := hm id hid
  rw [Maps.atKey_of_not_has h1] at hv
  rw [hr, ptrR_inv0 hv]
theorem MapOk.made (w : World) : MapOk (w.alloc (.map #[] 0)) w.heap.size [] :=
  ⟨_, World.ownsMap_made w _ _ _, rfl, by simp, fun _ _ => rfl⟩
/-- One more. -/
theorem mapOk_put {D : DataW Unit} {E : List Ent} (ht : Maps.Tidy D) (hs : Maps.size D = E.length) (ha : ∀ e ∈ E, D.atKey (kl e.id) (.lit (.bool false)) = .lit (.int .i64 (e.b : Int)) ∧ Maps.has D (kl e.id) = true) (hm : ∀ id, (∀ e ∈ E, e.id ≠ id) → Maps.has D (kl id) = false)
    {x : Ent} (hx : ∀ e ∈ E, e.id ≠ x.id) {w' : World} {n : Nat} (ho : w'.ownsMap Try.prog 3 ptrR mb n (D.put (kl x.id) (.lit (.int .i64 (x.b : Int))))) : MapOk w' mb (E ++ [x]) := by
  have hD := ht.isMap
  have hk : WideAt.IsKeyLit (kl x.id) := trivial
  have hsz : Maps.size (D.put (kl x.id) (.lit (.int .i64 (x.b : Int)))) = (E ++ [x]).length := by
    rw [Maps.size_put ht, hm x.id hx, List.length_append, hs]
    rfl
  refine ⟨_, by rw [← hsz]; exact owns_tight ho, hsz, fun e he => ?_, fun id hid => ?_⟩
  · rcases List.mem_append.1 he with he | he
    · have hne := kl_ne (hx e he)
      rw [Maps.atKey_put_other hne, Maps.has_put_other hne]
      exact ha e he
    · simp at he
      subst he
      exact ⟨Maps.atKey_put_same hD hk _ _, Maps.has_put_same hD hk _⟩
  · have h1 : id ≠ x.id := fun e => hid x (by simp) e.symm
    rw [Maps.has_put_other (kl_ne h1)]
    exact hm id (fun e he => hid e (List.mem_append_left _ he))
/-- One less. -/
theorem mapOk_del {D : DataW Unit} {E : List Ent} (ht : Maps.Tidy D) (hs : Maps.size D = E.length) (ha : ∀ e ∈ E, D.atKey (kl e.id) (.lit (.bool false)) = .lit (.int .i64 (e.b : Int)) ∧ Maps.has D (kl e.id) = true) (hm : ∀ id, (∀ e ∈ E, e.id ≠ id) → Maps.has D (kl id) = false)
    {x : Ent} (hx : x ∈ E) {E' : List Ent} (hE : ∀ e, e ∈ E' ↔ e ∈ E ∧ e.id ≠ x.id) (hl : E'.length + 1 = E.length) {w' : World} {n : Nat} (ho : w'.ownsMap Try.prog 3 ptrR mb n (D.del (kl x.id))) : MapOk w' mb E' := by
  have hsz : Maps.size (D.del (kl x.id)) = E'.length := by
    have h1 := Maps.size_del (k := kl x.id) ht
    rw [(ha x hx).2, hs] at h1
    simp at h1
    omega
  refine ⟨_, by rw [← hsz]; exact owns_tight ho, hsz, fun e he => ?_, fun id hid => ?_⟩
  · obtain ⟨h1, h2⟩ := (hE e).1 he
    rw [Maps.atKey_del_other (kl_ne h2), Maps.has_del_other (kl_ne h2)]
    exact ha e h1
  · by_cases h1 : id = x.id
    · subst h1; exact Maps.has_del_same
    · rw [Maps.has_del_other (kl_ne h1)]
      refine hm id (fun e he => ?_)
      intro h2
      exact hid e ((hE e).2 ⟨he, by rw [h2]; exact h1⟩) h2
end

/-- A queue of timers: what it holds is L. -/
structure QS (w : World) (base g mb : Nat) (v : Value) (E : List Ent) (L : List Tm) : Prop where
  th : TH w base v E
  qb : Qb w g v (.map (some mb))
  mp : MapOk w mb E
  hp : HeapN E E.length
  hold : Holds E L
  good : Good L
  le : L.length ≤ 256
  gb : base ≤ g
  mbb : base ≤ mb
  ids : ∀ x ∈ L, W64 x.1
/-- The blocks of a queue. -/
def qfoot (g mb : Nat) (v : Value) (E : List Ent) (b : Nat) : Prop := tfoot v E b ∨ b = g ∨ b = mb
section
variable {w w' : World} {base g mb : Nat} {v : Value} {E : List Ent} {L : List Tm}
theorem QS.len (h : QS w base g mb v E L) : E.length = L.length := holds_len h.hold
theorem QS.lt (h : QS w base g mb v E L) {b : Nat} (hb : qfoot g mb v E b) : b < w.heap.size := by
  rcases hb with hb | rfl | rfl
  · exact h.th.lt hb
  · exact Blk.lt h.qb
  · exact h.mp.lt
theorem QS.ge (h : QS w base g mb v E L) {b : Nat} (hb : qfoot g mb v E b) : base ≤ b := by
  rcases hb with hb | rfl | rfl
  · exact h.th.ge hb
  · exact h.gb
  · exact h.mbb
theorem QS.out (h : QS w base g mb v E L) {b : Nat} {t : TypeId} {cs : Array Value} (hb : Blk w b t cs) (h1 : t ≠ 132) (h2 : t ≠ 133) (h3 : t ≠ 125) : ¬ qfoot g mb v E b := by
  rintro (hf | rfl | rfl)
  · exact h.th.out hb h1 h2 hf
  · have := h.qb
    unfold Qb Blk at this
    unfold Blk at hb
    rw [this] at hb
    cases hb
    exact h3 rfl
  · exact h.mp.cells hb
theorem QS.map_out (h : QS w base g mb v E L) : ¬ tfoot v E mb ∧ mb ≠ g := by
  refine ⟨?_, ?_⟩
  · rintro (hf | ⟨e, he, rfl⟩)
    · obtain ⟨cs, hcs⟩ := own_block h.th.own mb hf.symm
      exact h.mp.cells hcs
    · obtain ⟨j, hj, hje⟩ := List.mem_iff_getElem.1 he
      have h3 := h.th.blk j _ (List.getElem?_eq_getElem hj)
      rw [hje] at h3
      exact h.mp.cells h3
  · rintro rfl
    exact h.mp.cells h.qb
theorem QS.fr (h : QS w base g mb v E L) {S : Nat → Prop} (hf : Fr S w w') (hS : ∀ b, qfoot g mb v E b → ¬ S b) : QS w' base g mb v E L :=
  ⟨h.th.fr hf (fun b hb => hS b (.inl hb)), Blk.fr h.qb hf (hS g (.inr (.inl rfl))), h.mp.fr hf (hS mb (.inr (.inr rfl))), h.hp, h.hold, h.good, h.le, h.gb, h.mbb, h.ids⟩
theorem QS.keep (h : QS w base g mb v E L) (hf : Fr nob w w') : QS w' base g mb v E L := h.fr hf fun _ _ h => h
/-- What a step of a queue leaves. -/
def QStep (w : World) (base g mb : Nat) (v : Value) (E : List Ent) (L' : List Tm) (w' : World) : Prop :=
  ∃ v' E', QS w' base g mb v' E' L' ∧ Fr (qfoot g mb v E) w w' ∧ ∀ b, qfoot g mb v' E' b → qfoot g mb v E b ∨ w.heap.size ≤ b
theorem QS.still (h : QS w base g mb v E L) (hf : Fr nob w w') : QStep w base g mb v E L w' := ⟨v, E, h.keep hf, hf.of_nob, fun _ hb => .inl hb⟩

set_option maxHeartbeats 1000000 in
set_option maxRecDepth 100000 in
theorem none_any (h : QS w base g mb v E L) : Calls Try.prog 73 #[.pointer (some ⟨g, 0, none⟩)] w fun e w' => e = .returned (.bool false) ∧ w = w' := by
  have q0 := Blk.cell h.qb
  have q1 := Blk.lt h.qb
  clear h
  have hmn := fun w => run_eql_map_nil (P := Try.prog) w 121 _ _ (some mb) Try.underlying121
  go_enter Try.func73, Try.ntmps73
  go_wp2_with fail
  go_ret
  exact ⟨rfl, rfl⟩
set_option maxHeartbeats 1000000 in
set_option maxRecDepth 100000 in
theorem none_nil (w : World) : Calls Try.prog 73 #[.pointer none] w fun e w' => e = .returned (.bool true) ∧ w = w' := by
  go_enter Try.func73, Try.ntmps73
  go_wp2_with fail
  go_ret
  exact ⟨rfl, rfl⟩
end
end Go.Proofs.Ythdenkmmiadeiaa
