/- Contract of the document's Due (bilgeref06). -/
import Derived.Test.YthdenkmmiadeiaaTref2
import Derived.Test.YthdenkmmiadeiaaTim11
namespace Go.Proofs.Ythdenkmmiadeiaa
set_option linter.unusedSimpArgs false
set_option linter.unusedVariables false
open Go.RowKit

def capLen (v : Value) : Nat := match v with | .slice _ _ c => c | _ => 0
/-- What the document's Due tells: what is left, and the numbers of what is due in new memory. -/
def refDue (w : World) (L : List Tm) (now : Int) (e : Ending) (w' : World) : Prop :=
  ∃ A n c B d, e = .returned (.tuple #[.slice A n c, .slice B (dueS L now).length d]) ∧ Tms w' A n (restS L now) ∧ n ≤ c ∧ c ≤ 9223372036854775807 ∧ w'.ownsRow w.heap.size 3 1 (.slice B (dueS L now).length d) (dueS L now).length (nums .i64 ((dueS L now).map (·.1))) ∧ Fr nob w w' ∧ TyA w' A
set_option maxHeartbeats 4000000 in
set_option maxRecDepth 100000 in
theorem ref06_due (A : Option Addr) (n c : Nat) (L : List Tm) (now : Int) (w : World) (h : Tms w A n L) (hn : n ≤ 100000) (hnc : n ≤ c) (hc : c ≤ 9223372036854775807) (hty : TyA w A) :
    Calls Try.prog 72 #[.slice A n c, .int .i64 now] w (refDue w L now) := by
  have HLN := Lib.hid h.len
  have HT := Lib.hid h
  have HTY := Lib.hid hty
  clear h hty
  go_enter Try.func72, Try.ntmps72
  go_wp2_with fail
  go_loopw [0, 6] (fun lv ov wr => ∃ (k n' c' : Nat) (A' : Option Addr), lv = .slice A' n' c' ∧ n' + k = n ∧ n' ≤ c' ∧ c' ≤ 9223372036854775807 ∧ Hid (Tms w A' n' (L.drop k)) ∧ Hid (TyA w A') ∧ sliceLen ov = k ∧ Hid (wr.ownsRow w.heap.size 3 1 ov k (nums .i64 ((L.take k).map (·.1)))) ∧ Hid (∀ x ∈ L.take k, x.2 ≤ now) ∧ Hid (Fr nob w wr)) (fun lv _ _ => sliceLen lv)
  case atStart => exact ⟨0, n, c, A, rfl, rfl, hnc, hc, HT, HTY, rfl, Lib.hid (World.ownsRow_nil _ _ _ _), Lib.hid (by simp), Lib.hid (Fr.refl _ _)⟩
  case round =>
    clear HT HTY
    obtain ⟨k, n', c', A', rfl, hk, hnc', hc', ht, hty, hlv, hown, hdone, hf⟩ := hrel
    have HLV := Lib.hid hlv
    obtain ⟨A0, c0, rfl, _⟩ := own_form hown.out
    have hend : (∀ x, L[k]? = some x → now < x.2) → ∀ V, Fr nob wr V → refDue w L now (.returned (.tuple #[.slice A' n' c', .slice A0 k c0])) V := by
      intro hx V hV
      obtain ⟨e1, e2⟩ := drop_take_due hdone.out (by have := HLN.out; omega) hx
      have hl : (L.take k).length = k := by rw [List.length_take]; have := HLN.out; omega
      rw [refDue, e1, e2, hl]
      have hfq := hf.out.trans hV (fun _ _ h => h)
      exact ⟨A', n', c', A0, c0, rfl, ht.out.nob hfq, hnc', hc', own_fr hown.out hV (fun _ _ h => h), hfq, hty.out.fr hfq⟩
    have HEND := Lib.hid hend
    clear hend hlv
    by_cases hlt : 0 < n'
    · obtain ⟨b, o, x, rfl, hb, hx, hc0, hc1⟩ := (ht.out.nob hf.out).at_ hlt
      have hd : L[k]? = some x := by rw [List.getElem?_drop] at hx; simpa using hx
      obtain ⟨xi, xa⟩ := x
      simp only [Nat.zero_mul, Nat.add_zero] at hc0 hc1
      have hgt : decide ((0 : Int) < (n' : Int)) = true := decide_eq_true (by omega)
      have hn1 : (1 : Int) ≤ (n' : Int) := by omega
      by_cases hnow : now < xa
      · have HX := Lib.hid (show ∀ x, L[k]? = some x → now < x.2 from fun x hx => by rw [hd] at hx; cases hx; exact hnow)
        have hle : decide (xa ≤ now) = false := decide_eq_false (by omega)
        clear hd hx
        go_wp2_with fail
        go_ret2
        exact HEND.out HX.out _ (Fr.refl _ _)
      · obtain ⟨A2, hcut, hcutR, hcutB⟩ := cut_run (P := Try.prog) (T := 60) (e := 69) (size := 2) Try.underlying60 (by kernel_rfl) (some ⟨b, o, none⟩) n' c' 1 1 rfl (by omega) hnc'
        have htk : L.take (k + 1) = L.take k ++ [(xi, xa)] := by rw [List.take_add_one, hd]; rfl
        have ht2 : Tms w A2 (n' - 1) (L.drop (k + 1)) := by
          have := hcutR w _ ht.out
          have e : (L.drop k).flatMap tmc = tmc (xi, xa) ++ (L.drop (k + 1)).flatMap tmc := by rw [drop_at hd]; rfl
          rw [e] at this
          exact this
        have HT2 := Lib.hid ht2
        have HTY2 : Hid (TyA w A2) := Lib.hid fun ad he => by
          obtain ⟨ad0, h0, h1⟩ := hcutB ad he
          rw [h1]
          exact hty.out ad0 h0
        have HTK := Lib.hid htk
        have hle : decide (xa ≤ now) = true := decide_eq_true (by omega)
        have hzf := hf.out.size
        have hown0 := hown.out
        clear hd hx ht2 htk hcutR HEND hcutB hty
        go_wp2_with (at_builtin; (refine app_one (P := Try.prog) (W := wr) w.heap.size rfl _ _ _ 3 (.int .i64 0) 1 8 rfl Try.underlying77 i64_info rfl (by omega) (.slice A0 k c0) k _ _ rfl rfl rfl (by simp [Value.oneCell']) hown0 hzf (by omega) (by omega) ?_); intro v1 w6 hown6 hg6 hat6; obtain ⟨Av, cv, rfl, hle6, _⟩ := own_form hown6)
        go_roundw
        case rel =>
          refine ⟨k + 1, n' - 1, c' - 1, A2, rfl, by omega, by omega, by omega, HT2, HTY2, rfl, ?_, ?_, Lib.hid (hf.out.grown hg6 (fun k hk => .inr (own_at hown0 k hk)))⟩
          · refine Lib.hid ?_
            rw [HTK.out, List.map_append, nums_app]
            exact hown6
          · refine Lib.hid fun x hx => ?_
            rw [HTK.out] at hx
            rcases List.mem_append.1 hx with hx | hx
            · exact hdone.out x hx
            · simp at hx; subst hx; dsimp only; omega
        case measure => simp [sliceLen]; omega
    · obtain rfl : n' = 0 := by omega
      have HX := Lib.hid (show ∀ x, L[k]? = some x → now < x.2 from fun x hx => by rw [List.getElem?_eq_none (by have := HLN.out; omega)] at hx; cases hx)
      go_wp2_with fail
      go_ret2
      exact HEND.out HX.out _ (Fr.refl _ _)
end Go.Proofs.Ythdenkmmiadeiaa
