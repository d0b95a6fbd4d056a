/- How a law's arguments are opened: slices, whatever their elements. No program is spoken of. -/
import Derived.Test.YtmpjdploacfmeaaBase2
import Derived.ProofKit
import Derived.Deep.Slices
import Derived.Deep.Fields
import Derived.ChangeSame
import Derived.ChangeOld
namespace Go.Proofs.Ytmpjdploacfmeaa
set_option linter.unusedSimpArgs false
set_option linter.unusedVariables false
open Go.RowKit Go.ChangeShapes Go.WideShapes Go.Deep

theorem spot_of_cell {w : World} {a : Addr} {u : Value} (h : w.cell? a = some u) : a = ⟨a.block, a.off, none⟩ := by
  obtain ⟨b, o, s⟩ := a
  cases s with
  | none => rfl
  | some z =>
    exfalso
    simp only [World.cell?] at h
    split at h
    · simp at h
    · cases h

/-- A row of elements, each of which reads so. -/
theorem rd_of_each {α : Type} {w : World} {size : Nat} (f : α → List Value) (Pw : α → Prop) (hf : ∀ x, (f x).length = size) (hsz : 0 < size) (a : Addr) (len : Nat)
    (h : ∀ i, i < len → ∃ x, Pw x ∧ ∀ j u, (f x)[j]? = some u → w.cell? (a.add (i * size + j)) = some u) :
    ∃ L : List α, L.length = len ∧ (∀ x ∈ L, Pw x) ∧ Rd w size (some a) len (L.flatMap f) := by
  have step : ∀ m, m ≤ len → ∃ L : List α, L.length = m ∧ (∀ x ∈ L, Pw x) ∧ ∀ j u, (L.flatMap f)[j]? = some u → w.cell? (a.add j) = some u := by
    intro m
    induction m with
    | zero => exact fun _ => ⟨[], rfl, by simp, by simp⟩
    | succ m ih =>
      intro hm
      obtain ⟨L, hL, hP, hc⟩ := ih (by omega)
      obtain ⟨x, hx, hxc⟩ := h m (by omega)
      refine ⟨L ++ [x], by simp [hL], ?_, ?_⟩
      · intro y hy
        rcases List.mem_append.1 hy with hy | hy
        · exact hP y hy
        · simp at hy; subst hy; exact hx
      · intro j u hu
        have hlen : (L.flatMap f).length = m * size := by rw [flat_len f size L hf, hL]
        rw [List.flatMap_append] at hu
        rcases Nat.lt_or_ge j (m * size) with hj | hj
        · rw [List.getElem?_append_left (by omega)] at hu
          exact hc j u hu
        · rw [List.getElem?_append_right (by omega), hlen] at hu
          have := hxc (j - m * size) u (by simpa using hu)
          rwa [show m * size + (j - m * size) = j from by omega] at this
  obtain ⟨L, hL, hP, hc⟩ := step len (Nat.le_refl _)
  refine ⟨L, hL, hP, by rw [flat_len f size L hf, hL], fun hn => ?_⟩
  have hl0 : 0 < (L.flatMap f).length := by rw [flat_len f size L hf, hL]; exact Nat.mul_pos hn hsz
  have h0 := hc 0 _ (List.getElem?_eq_getElem hl0)
  have ha : a.add 0 = a := by simp [Addr.add]
  rw [ha] at h0
  have hs := spot_of_cell h0
  refine ⟨a.block, a.off, by rw [← hs], World.block_lt_of_cell? w a h0, fun j u hu => ?_⟩
  have := hc j u hu
  rwa [hs, add_plain] at this

section
variable {H : Type} {enc : TypeId × Value → H} {P : Program} {w : World} {base : Nat} {spare : Nat → Bool} {held : Bool}
/-- An argument that is a slice, by what its elements read as. -/
theorem open_list {α : Type} {t e : TypeId} {size : Nat} (f : α → List Value) (Pw : α → Prop) (hf : ∀ x, (f x).length = size) (hsz : 0 < size) (ht : P.underlying t = some (.slice e)) (hC : P.cellsOf e = size)
    (hel : ∀ (fuel : Nat) (cs : List Value) (x : DataW H × List MemPlace), DataW.trod enc P w base spare held fuel e cs = some x → ∃ y, cs = f y ∧ Pw y)
    {v : Value} {d : DataW H} {p : List MemPlace} (h : DataW.Trod enc P w base spare held t v d p) (hv : ∃ A n c, v = .slice A n c) :
    ∃ A n c, ∃ L : List α, v = .slice A n c ∧ L.length = n ∧ n ≤ c ∧ c ≤ 9223372036854775807 ∧ Rd w size A n (L.flatMap f) ∧ ∀ y ∈ L, Pw y := by
  obtain ⟨A, n, c, rfl⟩ := hv
  obtain ⟨fuel, hf'⟩ := h
  rcases open_slice ht hf' with ⟨hcs, _⟩ | ⟨a, len, cap, m, k, D, Pl, hcs, _, hl, hm, hmm, _, hi⟩
  · simp [Value.cells] at hcs
    obtain ⟨rfl, rfl, rfl⟩ := hcs
    exact ⟨none, 0, 0, [], rfl, rfl, Nat.le_refl _, by omega, Rd.nil_ _ _ _, by simp⟩
  · simp [Value.cells] at hcs
    obtain ⟨rfl, rfl, rfl⟩ := hcs
    have hlm : n ≤ m := by rw [hmm]; split <;> omega
    obtain ⟨L, hL, hP, hR⟩ := rd_of_each (w := w) f Pw hf hsz a n (fun i hin => by
      obtain ⟨cs', hc, ht'⟩ := hi i (by omega)
      obtain ⟨y, hy, hPy⟩ := hel _ _ _ ht'
      rw [hC] at hc
      obtain ⟨_, _, hat⟩ := World.cells?_some hc
      refine ⟨y, hPy, fun j u hu => ?_⟩
      have hj : j < size := by
        have := (List.getElem?_eq_some_iff.1 hu).1
        rwa [hf] at this
      have h2 := hat j hj
      rw [Go.Deep.add_add] at h2
      rw [h2, hy]
      exact hu)
    exact ⟨some a, n, c, L, rfl, hL, hl, by simpa [maxLen] using hm, hR, hP⟩

/-- An element that is a whole number. -/
theorem el_int {e : TypeId} {k : IntKind} (he : P.underlying e = some (.int k)) (fuel : Nat) (cs : List Value) (x : DataW H × List MemPlace) (h : DataW.trod enc P w base spare held fuel e cs = some x) : ∃ y : Int, cs = [.int k y] ∧ (Lit.int k y).wf = true := by
  obtain ⟨n, h1, _, h2⟩ := DataW.trod_int he h
  exact ⟨n, h1, h2⟩
theorem el_bool {e : TypeId} (he : P.underlying e = some .bool) (fuel : Nat) (cs : List Value) (x : DataW H × List MemPlace) (h : DataW.trod enc P w base spare held fuel e cs = some x) : ∃ y : Bool, cs = [.bool y] := by
  obtain ⟨n, h1, _⟩ := DataW.trod_bool he h
  exact ⟨n, h1⟩
/-- The fields of a struct of one-cell fields. -/
theorem el_fields {e : TypeId} {fs : Array Field} (he : P.underlying e = some (.struct fs)) (hone : oneCellFields P fs = true) (hC : P.cellsOf e = fs.size) {fuel : Nat} {cs : List Value} {x : DataW H × List MemPlace} (h : DataW.trod enc P w base spare held fuel e cs = some x) :
    cs.length = fs.size ∧ ∃ n, ∀ (j : Nat) (f : Field), fs[j]? = some f → ∃ v y, cs[j]? = some v ∧ DataW.trod enc P w base spare held n f.type [v] = some y := by
  obtain ⟨ys, n', _, _, hlen, hyl, hf⟩ := DataW.trod_struct he h
  rw [hC] at hlen
  refine ⟨hlen, n', fun j f hj => ?_⟩
  obtain ⟨ho, hk⟩ := hone_of hone j f hj
  have hjl : j < fs.size := (Array.getElem?_eq_some_iff.1 hj).1
  have h1 := hf j f hj
  rw [ho, hk] at h1
  have hone' : (cs.drop j).take 1 = [cs[j]'(by omega)] := by
    rw [List.drop_eq_getElem_cons (by omega)]
    rfl
  rw [hone'] at h1
  exact ⟨_, _, List.getElem?_eq_getElem (by omega), h1.trans (List.getElem?_eq_getElem (by omega))⟩
end

/-- The bounds of a whole number of a kind. -/
theorem wf_i64 {n : Int} (h : (Lit.int .i64 n).wf = true) : -9223372036854775808 ≤ n ∧ n ≤ 9223372036854775807 := by
  have hmin : IntKind.i64.min = -9223372036854775808 := rfl
  have hmax : IntKind.i64.max = 9223372036854775807 := rfl
  simp only [Lit.wf, Bool.and_eq_true, decide_eq_true_eq] at h; omega
theorem wf_u8 {n : Int} (h : (Lit.int .u8 n).wf = true) : 0 ≤ n ∧ n ≤ 255 := by
  have hmin : IntKind.u8.min = 0 := rfl
  have hmax : IntKind.u8.max = 255 := rfl
  simp only [Lit.wf, Bool.and_eq_true, decide_eq_true_eq] at h; omega
theorem wf_u16 {n : Int} (h : (Lit.int .u16 n).wf = true) : 0 ≤ n ∧ n ≤ 65535 := by
  have hmin : IntKind.u16.min = 0 := rfl
  have hmax : IntKind.u16.max = 65535 := rfl
  simp only [Lit.wf, Bool.and_eq_true, decide_eq_true_eq] at h; omega
/-- Three whole numbers in their bounds. -/
def Op3 (y : Int × Int × Int) : Prop := (-9223372036854775808 ≤ y.1 ∧ y.1 ≤ 9223372036854775807) ∧ (-9223372036854775808 ≤ y.2.1 ∧ y.2.1 ≤ 9223372036854775807) ∧ (-9223372036854775808 ≤ y.2.2 ∧ y.2.2 ≤ 9223372036854775807)
end Go.Proofs.Ytmpjdploacfmeaa
