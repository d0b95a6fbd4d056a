/- slices.Sorted(maps.Keys(m)) of a queue's map: the numbers, each one's slice in new memory. -/
import Derived.Test.YthdenkmmiadeiaaLayK
import Derived.Test.YthdenkmmiadeiaaTim8
import Derived.Test.YthdenkmmiadeiaaNums
namespace Go.Proofs.Ythdenkmmiadeiaa
set_option linter.unusedSimpArgs false
set_option linter.unusedVariables false
open Go.RowKit Go.Maps Go.Sort Go.Shelf

theorem sortsA (m : Nat) : AnyZI.SortsIn Try.prog sortedA_ren Fence.wide m :=
  ⟨fun blk off cap ss W hH hblk hsz => callsIn_wide.2 (AnyM.slices_Sort_int sortA blk off cap ss W hH hblk hsz),
   fun p cap W => callsIn_wide.2 (AnyM.slices_Sort_int_none sortA p cap W)⟩
theorem mem_intKeys {H : Type} {P : Program} {k : TypeId} {R : Value → Option (DataW H × List MemPlace)} {w : World} {b n : Nat} {D : DataW H} (h : w.ownsMap P k R b n D) (hk : P.underlying k = some (.int .i64)) (x : Int) : x ∈ intKeys D ↔ Maps.has D (.int .i64 x) = true := by
  obtain ⟨es, rfl, hko⟩ := h.keysOf
  rw [has_eq, List.any_eq_true]
  show x ∈ es.map (fun p => Go.intOf p.1) ↔ _
  rw [List.mem_map]
  constructor
  · rintro ⟨p, hp, rfl⟩
    obtain ⟨v, hv⟩ := hko p hp
    obtain ⟨y, _, hy, _⟩ := Maps.keyOf_i64 hk hv
    exact ⟨p, hp, by rw [hy]; simp [Lit.sameKey, Go.intOf]⟩
  · rintro ⟨p, hp, hs⟩
    obtain ⟨v, hv⟩ := hko p hp
    obtain ⟨y, _, hy, _⟩ := Maps.keyOf_i64 hk hv
    rw [hy] at hs
    exact ⟨p, hp, by rw [hy]; simpa [Lit.sameKey, Go.intOf] using hs⟩
theorem intKeys_len {H : Type} {P : Program} {k : TypeId} {R : Value → Option (DataW H × List MemPlace)} {w : World} {b n : Nat} {D : DataW H} (h : w.ownsMap P k R b n D) : (intKeys D).length = Maps.size D := by
  obtain ⟨es, rfl, _⟩ := h.keysOf
  simp [intKeys, Maps.size]
theorem keys_any (mb : Nat) (W : World) : Calls Try.prog 77 #[.map (some mb)] W fun e w' => e = .returned (.func (.func 104) #[] #[.pointer (some ⟨W.heap.size, 0, none⟩)]) ∧ w' = W.alloc (.cells #[.map (some mb)] 121) :=
  (callsIn_wide (n := 5)).1 (AnyZI.keys_in keysA Fence.wide 5 trivial rfl (some mb) W)
theorem sorted_any (W : World) (mb : Nat) (E : List Ent) (h : MapOk W mb E) (hE : E.length ≤ 100000) :
    Calls Try.prog 76 #[.func (.func 104) #[] #[.pointer (some ⟨W.heap.size, 0, none⟩)]] (W.alloc (.cells #[.map (some mb)] 121)) fun e w' => ∃ A n c ks, e = .returned (.slice A n c) ∧ (∀ x, x ∈ ks ↔ ∃ t ∈ E, t.id = x) ∧ w'.ownsRow W.heap.size 3 1 (.slice A n c) n (nums .i64 ks) ∧ n = E.length ∧ ks.length = n ∧ Fr nob W w' := by
  obtain ⟨D, ho, hs, ha, hm⟩ := h
  have hbl := ho.lt
  have hmem : ∀ x, x ∈ intKeys D ↔ ∃ t ∈ E, t.id = x := fun x => by
    rw [mem_intKeys ho Try.underlying3]
    constructor
    · intro hx
      refine Classical.byContradiction fun hn => ?_
      have := hm x (fun e he hid => hn ⟨e, he, hid⟩)
      rw [kl, hx] at this
      cases this
    · rintro ⟨t, ht, rfl⟩
      exact (ha t ht).2
  have hseq : SeqGives Fence.wide 2 Try.prog 104 #[.pointer (some ⟨W.heap.size, 0, none⟩)] encZ (fun ss => ss.Perm (intKeys D)) (Maps.size D) (W.alloc (.cells #[.map (some mb)] 121)) :=
    AnyZI.keys_gives (ρ := keysA_ren) { keysA with } Fence.wide _ trivial rfl (by omega) W.heap.size mb E.length D _ (by simp) (by simp) (by
      obtain ⟨es, clock, hb, Ft, hs, hD⟩ := ho
      exact ⟨es, clock, (Below.heap_alloc _ _ mb hbl).trans hb, Ft, hs, hD⟩)
  have cS := AnyZI.sorted_in sortedA Fence.wide 5 trivial trivial trivial trivial rfl (by omega) (sortsA _) (enters_of Try.func103 (by kernel_rfl) rfl) 104 #[.pointer (some ⟨W.heap.size, 0, none⟩)] trivial (enters_of Try.func104 (by kernel_rfl) rfl) _ _ (by rw [hs]; unfold maxLen; omega) (by rw [hs]; omega) _ hseq
  refine ((callsIn_wide (n := 5)).1 cS).mono ?_
  rintro e w' ⟨v, ss, rfl, hS, hrow, -, hb⟩
  obtain ⟨A, c, rfl, _⟩ := own_form hrow
  have hl : ss.length = E.length := by rw [hS.length_eq, intKeys_len ho, hs]
  refine ⟨A, ss.length, c, ss.mergeSort (fun x y => decide (x ≤ y)), rfl, fun x => ?_, own_base hrow (by simp), hl, by simp, ?_⟩
  · rw [(List.mergeSort_perm ss _).mem_iff, hS.mem_iff]
    exact hmem x
  · have h1 : Fr nob (W.alloc (.cells #[.map (some mb)] 121)) w' := Fr.of_below hb
    exact ((Fr.refl nob W).alloc _).trans h1 (fun _ _ h => h)
end Go.Proofs.Ythdenkmmiadeiaa
