/- Contracts of a frame's opening: crc.Strip, adu.joined, adu.Open, and the document's Open (bilgeref11). -/
import Derived.Test.YtmpjdploacfmeaaCrc3
import Derived.Laws.CopyOwn
import Derived.Test.YtmpjdploacfmeaaMix
import Derived.Test.YtmpjdploacfmeaaLate
namespace Go.Proofs.Ytmpjdploacfmeaa
set_option linter.unusedSimpArgs false
set_option linter.unusedVariables false
open Go.RowKit

def stripPost (l : List Int) (m : Nat) (w : World) (e : Ending) (w' : World) : Prop := Fr nob w w' ∧ ((chk l = false ∧ e = .returned (.tuple #[.slice none 0 0, .int .i64 14])) ∨
  (chk l = true ∧ ∃ A' c', e = .returned (.tuple #[.slice A' m c', .int .i64 0]) ∧ m ≤ c' ∧ c' ≤ 9223372036854775807 ∧ w'.ownsRow w.heap.size 5 1 (.slice A' m c') m (nums .u8 (l.take m))))
set_option maxHeartbeats 1000000 in
set_option maxRecDepth 100000 in
theorem strip_any (A : Option Addr) (m c : Nat) (l : List Int) (w : World) (h : Rd w 1 A (m + 2) (nums .u8 l)) (hl : ∀ x ∈ l, 0 ≤ x ∧ x ≤ 255) (hnc : m + 2 ≤ c) (hc : c ≤ 9223372036854775807) (hm : 2 ≤ m ∧ m ≤ 254) :
    Calls Try.prog 76 #[.slice A (m + 2) c] w (stripPost l m w) := by
  have hck := Lib.hid (crc_check A (m + 2) c l w h hl (by omega))
  have hR : Rd w 1 A m (nums .u8 (l.take m)) := by
    have := h.take_ (k := m) (by omega)
    rw [Nat.mul_one] at this
    rw [show nums IntKind.u8 (l.take m) = (nums .u8 l).take m by simp [nums, List.map_take]]
    exact this
  have HR := Lib.hid hR
  have htk := fun V => take_run (P := Try.prog) (T := 47) (e := 5) (size := 1) Try.underlying47 (by kernel_rfl) A (m + 2) c m (m : Int) rfl (by omega) V
  obtain ⟨v, hv⟩ : ∃ v, v = chk l := ⟨_, rfl⟩
  rw [← hv] at hck
  have HV := Lib.hid hv
  clear h hl hR hv
  have hlen : ((m + 2 : Nat) : Int) - 2 = (m : Int) := by omega
  cases v with
  | false =>
    go_enter Try.func76, Try.ntmps76
    go_wp2_with fail
    refine hck.out.mono ?_
    rintro e w1 ⟨rfl, hf⟩
    go_wp2_with fail
    go_ret2
    exact ⟨hf, .inl ⟨HV.out.symm, rfl⟩⟩
  | true =>
    go_enter Try.func76, Try.ntmps76
    go_wp2_with fail
    refine hck.out.mono ?_
    rintro e w1 ⟨rfl, hf⟩
    have hownE : (w1.alloc (.cells #[] 5)).ownsRow w1.heap.size 5 1 (.slice (some ⟨w1.heap.size, 0, none⟩) 0 0) 0 [] :=
      ⟨rfl, .inr ⟨w1.heap.size, 0, #[], rfl, Nat.le_refl _, heap_alloc_new w1 _, Nat.le_refl _, by decide, rfl, rfl⟩⟩
    have hryE := (HR.out.nob hf).alloc (.cells #[] 5)
    go_wp2_with (at_builtin; (refine app_row (P := Try.prog) (W := w1.alloc (.cells #[] 5)) w1.heap.size rfl _ _ _ 5 (Value.int .u8 0) 1 1 rfl Try.underlying47 (by kernel_rfl) rfl (by omega) (.slice (some ⟨w1.heap.size, 0, none⟩) 0 0) 0 [] A m c (nums .u8 (l.take m)) rfl rfl (nums_one _ _) hownE hryE (by simp) (by omega) (by omega) ?_); intro v6 w6 hown1 hg6 hat6; go_must ((have hown6 : w6.ownsRow w1.heap.size 5 1 v6 m (nums .u8 (l.take m)) := by simpa using hown1); (obtain ⟨A6, e6, rfl, hle6, _⟩ := own_form hown6)))
    go_ret2
    have hz := hf.size
    exact ⟨(hf.alloc _).grown hg6 (fun k hk => .inr (by have := own_at hownE k hk; omega)), .inr ⟨HV.out.symm, A6, e6, rfl, hle6, own_cap hown6, own_base hown6 hz⟩⟩
/-- What a frame's opening tells: the error, and the station. -/
def openE (l : List Int) : Int := if l.length < 4 then 12 else if 256 < l.length then 13 else if chk l then 0 else 14
def openO (l : List Int) : Int := if openE l = 0 then l.getD 0 0 else 0
set_option maxHeartbeats 1000000 in
set_option maxRecDepth 100000 in
theorem ref11_open (A : Option Addr) (n c : Nat) (l : List Int) (w : World) (h : Rd w 1 A n (nums .u8 l)) (hl : ∀ x ∈ l, 0 ≤ x ∧ x ≤ 255) (hnc : n ≤ c) (hc : c ≤ 9223372036854775807) :
    Calls Try.prog 64 #[.slice A n c] w fun e w' => ∃ x, e = .returned (.tuple #[.int .i64 (openO l), x, .int .i64 (openE l)]) ∧ Fr nob w w' := by
  have hln := h.numlen
  by_cases h4 : n < 4
  · have he : openE l = 12 := by rw [openE, if_pos (by omega)]
    have ho : openO l = 0 := by rw [openO, he]; rfl
    rw [he, ho]
    clear he ho h hl hln
    go_enter Try.func64, Try.ntmps64
    go_wp2_with fail
    go_ret3
    exact ⟨_, rfl, Fr.refl _ _⟩
  by_cases h256 : 256 < n
  · have he : openE l = 13 := by rw [openE, if_neg (by omega), if_pos (by omega)]
    have ho : openO l = 0 := by rw [openO, he]; rfl
    rw [he, ho]
    clear he ho h hl hln
    go_enter Try.func64, Try.ntmps64
    go_wp2_with fail
    go_ret3
    exact ⟨_, rfl, Fr.refl _ _⟩
  have hck := Lib.hid (ref04_check A n c l w h hl hnc hc)
  cases hv : chk l with
  | false =>
    have he : openE l = 14 := by rw [openE, if_neg (by omega), if_neg (by omega), hv]; rfl
    have ho : openO l = 0 := by rw [openO, he]; rfl
    rw [he, ho]
    rw [hv] at hck
    clear he ho h hl hln hv
    go_enter Try.func64, Try.ntmps64
    go_wp2_with fail
    refine hck.out.mono ?_
    rintro e w1 ⟨rfl, rfl⟩
    go_wp2_with fail
    go_ret3
    exact ⟨_, rfl, Fr.refl _ _⟩
  | true =>
    have he : openE l = 0 := by rw [openE, if_neg (by omega), if_neg (by omega), hv]; rfl
    have ho : openO l = l.getD 0 0 := by rw [openO, he]; rfl
    rw [he, ho]
    rw [hv] at hck
    obtain ⟨b, o, rfl, hb, hc0⟩ := h.num (i := 0) (by omega)
    have hx := hl (l.getD 0 0) (by rw [List.getD_eq_getElem?_getD, List.getElem?_eq_getElem (by omega)]; exact List.getElem_mem _)
    obtain ⟨x, hxe⟩ : ∃ x, x = l.getD 0 0 := ⟨_, rfl⟩
    rw [← hxe] at hc0 hx ⊢
    rw [Nat.add_zero] at hc0
    have hwx : IntKind.i64.wrap x = x := IntWalk.i64_in _ (by omega)
    obtain ⟨m, rfl⟩ : ∃ m, n = m + 3 := ⟨n - 3, by omega⟩
    obtain ⟨A', hmid, hmidR, _⟩ := mid_run (P := Try.prog) (T := 47) (e := 5) (size := 1) Try.underlying47 (by kernel_rfl) (some ⟨b, o, none⟩) (m + 3) c 1 (m + 1) 1 ((m : Int) + 1) rfl (by omega) (by omega) (by omega) hnc
    rw [Nat.add_sub_cancel] at hmid hmidR
    have HMR := Lib.hid (hmidR w _ h)
    have hlen : ((m + 3 : Nat) : Int) - 2 = (m : Int) + 1 := by omega
    clear he ho h hl hln hv hxe hmidR
    go_enter Try.func64, Try.ntmps64
    go_wp2_with fail
    refine hck.out.mono ?_
    rintro e w1 ⟨rfl, rfl⟩
    go_wp2_with fail
    have g1 : (0 : Int) < (m : Int) + 3 := by omega
    have g2 : IntKind.i64.wrap ((m : Int) + 3 - 2) = (m : Int) + 1 := by rw [IntWalk.i64_in _ (by omega)]; omega
    have hownE : ((w.alloc (.cells #[] 5)).drew).ownsRow w.heap.size 5 1 (.slice (some ⟨w.heap.size, 0, none⟩) 0 0) 0 [] :=
      ⟨rfl, .inr ⟨w.heap.size, 0, #[], rfl, Nat.le_refl _, heap_alloc_new w _, Nat.le_refl _, by decide, rfl, rfl⟩⟩
    have hryE : Rd ((w.alloc (.cells #[] 5)).drew) 1 A' m _ := HMR.out.alloc (.cells #[] 5)
    have hfE : Fr nob w ((w.alloc (.cells #[] 5)).drew) := ((Fr.refl nob w).alloc _).drew
    have hcE := (hfE.cell (p := ⟨b, o, none⟩) hb (fun h => h)).trans hc0
    refine wp_region_held_drew (S := fun w' => w'.cell? ⟨b, o, none⟩ = some (.int .u8 x)) (by kernel_rfl) hc0 (fun hHeld => ?_)
    first
      | (refine mix_skip 0 rfl (by kernel_rfl) (by kernel_rfl) (by kernel_rfl) (by rfl) (by assumption) (fun _ _ _ h => h) ?_)
      | (refine mix_pure 0 (v := ?_) rfl (by kernel_rfl) (by kernel_rfl) (by kernel_rfl) (by rfl) (by assumption) (fun _ _ _ h => h) ?_ ?_; rotate_left; · (intro wS hSw; (try dsimp only at hSw); go_simp; try with_reducible rfl))
    simp only [Act.put, List.setIfInBounds_toArray, List.set_cons_zero, List.set_cons_succ]
    first
      | (refine mix_skip 1 rfl (by kernel_rfl) (by kernel_rfl) (by kernel_rfl) (by rfl) (by assumption) (fun _ _ _ h => h) ?_)
      | (refine mix_pure 1 (v := ?_) rfl (by kernel_rfl) (by kernel_rfl) (by kernel_rfl) (by rfl) (by assumption) (fun _ _ _ h => h) ?_ ?_; rotate_left; · (intro wS hSw; (try dsimp only at hSw); go_simp; try with_reducible rfl))
    simp only [Act.put, List.setIfInBounds_toArray, List.set_cons_zero, List.set_cons_succ]
    first
      | (refine mix_skip 2 rfl (by kernel_rfl) (by kernel_rfl) (by kernel_rfl) (by rfl) (by assumption) (fun _ _ _ h => h) ?_)
      | (refine mix_pure 2 (v := ?_) rfl (by kernel_rfl) (by kernel_rfl) (by kernel_rfl) (by rfl) (by assumption) (fun _ _ _ h => h) ?_ ?_; rotate_left; · (intro wS hSw; (try dsimp only at hSw); go_simp; try with_reducible rfl))
    simp only [Act.put, List.setIfInBounds_toArray, List.set_cons_zero, List.set_cons_succ]
    first
      | (refine mix_skip 3 rfl (by kernel_rfl) (by kernel_rfl) (by kernel_rfl) (by rfl) (by assumption) (fun _ _ _ h => h) ?_)
      | (refine mix_pure 3 (v := ?_) rfl (by kernel_rfl) (by kernel_rfl) (by kernel_rfl) (by rfl) (by assumption) (fun _ _ _ h => h) ?_ ?_; rotate_left; · (intro wS hSw; (try dsimp only at hSw); go_simp; try with_reducible rfl))
    simp only [Act.put, List.setIfInBounds_toArray, List.set_cons_zero, List.set_cons_succ]
    first
      | (refine mix_skip 5 rfl (by kernel_rfl) (by kernel_rfl) (by kernel_rfl) (by rfl) (by assumption) (fun _ _ _ h => h) ?_)
      | (refine mix_pure 5 (v := ?_) rfl (by kernel_rfl) (by kernel_rfl) (by kernel_rfl) (by rfl) (by assumption) (fun _ _ _ h => h) ?_ ?_; rotate_left; · (intro wS hSw; (try dsimp only at hSw); go_simp; try with_reducible rfl))
    simp only [Act.put, List.setIfInBounds_toArray, List.set_cons_zero, List.set_cons_succ]
    first
      | (refine mix_skip 6 rfl (by kernel_rfl) (by kernel_rfl) (by kernel_rfl) (by rfl) (by assumption) (fun _ _ _ h => h) ?_)
      | (refine mix_pure 6 (v := ?_) rfl (by kernel_rfl) (by kernel_rfl) (by kernel_rfl) (by rfl) (by assumption) (fun _ _ _ h => h) ?_ ?_; rotate_left; · (intro wS hSw; (try dsimp only at hSw); go_simp; try with_reducible rfl))
    simp only [Act.put, List.setIfInBounds_toArray, List.set_cons_zero, List.set_cons_succ]
    first
      | (refine mix_skip 7 rfl (by kernel_rfl) (by kernel_rfl) (by kernel_rfl) (by rfl) (by assumption) (fun _ _ _ h => h) ?_)
      | (refine mix_pure 7 (v := ?_) rfl (by kernel_rfl) (by kernel_rfl) (by kernel_rfl) (by rfl) (by assumption) (fun _ _ _ h => h) ?_ ?_; rotate_left; · (intro wS hSw; (try dsimp only at hSw); go_simp; try with_reducible rfl))
    simp only [Act.put, List.setIfInBounds_toArray, List.set_cons_zero, List.set_cons_succ]
    first
      | (refine mix_skip 8 rfl (by kernel_rfl) (by kernel_rfl) (by kernel_rfl) (by rfl) (by assumption) (fun _ _ _ h => h) ?_)
      | (refine mix_pure 8 (v := ?_) rfl (by kernel_rfl) (by kernel_rfl) (by kernel_rfl) (by rfl) (by assumption) (fun _ _ _ h => h) ?_ ?_; rotate_left; · (intro wS hSw; (try dsimp only at hSw); go_simp; try with_reducible rfl))
    simp only [Act.put, List.setIfInBounds_toArray, List.set_cons_zero, List.set_cons_succ]
    first
      | (refine mix_skip 9 rfl (by kernel_rfl) (by kernel_rfl) (by kernel_rfl) (by rfl) (by assumption) (fun _ _ _ h => h) ?_)
      | (refine mix_pure 9 (v := ?_) rfl (by kernel_rfl) (by kernel_rfl) (by kernel_rfl) (by rfl) (by assumption) (fun _ _ _ h => h) ?_ ?_; rotate_left; · (intro wS hSw; (try dsimp only at hSw); go_simp; try with_reducible rfl))
    simp only [Act.put, List.setIfInBounds_toArray, List.set_cons_zero, List.set_cons_succ]
    refine mix_one 4 rfl (by kernel_rfl) (fun K hK => ?_)
    go_simp
    refine hK.out _ _ (hcE) (fun hHeld0 => ?_)
    clear hK K
    try simp only [Act.put, List.setIfInBounds_toArray, List.set_cons_zero, List.set_cons_succ]
    refine mix_one 10 rfl (by kernel_rfl) (fun K hK => ?_)
    refine app_row_op (P := Try.prog) (W := (w.alloc (.cells #[] 5)).drew) w.heap.size _ _ _ 5 (Value.int .u8 0) 1 1 rfl Try.underlying47 (by kernel_rfl) rfl (by omega) (.slice (some ⟨w.heap.size, 0, none⟩) 0 0) 0 [] A' m (c - 1) _ rfl rfl ?_ hownE hryE (by simp) (by omega) (by omega) ?_
    · intro u hu
      exact nums_one _ _ u (List.mem_of_mem_take (List.mem_of_mem_drop hu))
    intro v6 w6 hown1 hg6 _
    have hf6 : Fr nob w w6 := hfE.grown hg6 (fun k hk => .inr (own_at hownE k hk))
    have hc6 := (hf6.cell (p := ⟨b, o, none⟩) hb (fun h => h)).trans hc0
    refine hK.out _ _ (hc6) (fun hHeld1 => ?_)
    clear hK K
    try simp only [Act.put, List.setIfInBounds_toArray, List.set_cons_zero, List.set_cons_succ]
    first
      | (refine mix_skip 11 rfl (by kernel_rfl) (by kernel_rfl) (by kernel_rfl) (by rfl) (by assumption) (fun _ _ _ h => h) ?_)
      | (refine mix_pure 11 (v := ?_) rfl (by kernel_rfl) (by kernel_rfl) (by kernel_rfl) (by rfl) (by assumption) (fun _ _ _ h => h) ?_ ?_; rotate_left; · (intro wS hSw; (try dsimp only at hSw); go_simp; try with_reducible rfl))
    simp only [Act.put, List.setIfInBounds_toArray, List.set_cons_zero, List.set_cons_succ]
    first
      | (refine mix_skip 12 rfl (by kernel_rfl) (by kernel_rfl) (by kernel_rfl) (by rfl) (by assumption) (fun _ _ _ h => h) ?_)
      | (refine mix_pure 12 (v := ?_) rfl (by kernel_rfl) (by kernel_rfl) (by kernel_rfl) (by rfl) (by assumption) (fun _ _ _ h => h) ?_ ?_; rotate_left; · (intro wS hSw; (try dsimp only at hSw); go_simp; try with_reducible rfl))
    simp only [Act.put, List.setIfInBounds_toArray, List.set_cons_zero, List.set_cons_succ]
    first
      | (refine mix_skip 13 rfl (by kernel_rfl) (by kernel_rfl) (by kernel_rfl) (by rfl) (by assumption) (fun _ _ _ h => h) ?_)
      | (refine mix_pure 13 (v := ?_) rfl (by kernel_rfl) (by kernel_rfl) (by kernel_rfl) (by rfl) (by assumption) (fun _ _ _ h => h) ?_ ?_; rotate_left; · (intro wS hSw; (try dsimp only at hSw); go_simp; try with_reducible rfl))
    simp only [Act.put, List.setIfInBounds_toArray, List.set_cons_zero, List.set_cons_succ]
    refine wpAnyH_done (by kernel_rfl) ?_ _
    go_wp2_with fail
    go_ret3
    exact ⟨_, rfl, hf6⟩
end Go.Proofs.Ytmpjdploacfmeaa
