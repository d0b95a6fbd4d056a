/- Contracts of the document's size and Right (bilgeref21). -/
import Derived.Test.YthdenkmmiadeiaaId3
namespace Go.Proofs.Ythdenkmmiadeiaa
set_option linter.unusedSimpArgs false
set_option linter.unusedVariables false
open Go.RowKit

set_option maxHeartbeats 2000000 in
set_option maxRecDepth 100000 in
theorem ref21_size (A : Option Addr) (n c : Nat) (L : List Ob) (w : World) (h : Obs w A n L) (hn : n ≤ c) (hc : c ≤ 9223372036854775807) (hb : (objsB (L.map Ob.s)).length ≤ 1000000) :
    Calls Try.prog 92 #[.slice A n c] w fun e w' => e = .returned (.int .i64 (6 + ((objsB (L.map Ob.s)).length : Int))) ∧ Fr nob w w' := by
  obtain ⟨S, hS⟩ : ∃ S, S = L.map Ob.s := ⟨_, rfl⟩
  rw [← hS] at hb ⊢
  have HS := Lib.hid hS
  have hl := h.len
  have HLN := Lib.hid hl
  clear hS hl
  go_enter Try.func92, Try.ntmps92
  go_wp2_with fail
  go_loopw [3, 4] (fun m i wr => ∃ k : Nat, k ≤ n ∧ i = .int .i64 k ∧ m = .int .i64 (6 + ((objsB (S.take k)).length : Int)) ∧ Fr nob w wr) (fun _ i _ => n - (intOf i).toNat)
  case atStart => exact ⟨0, by omega, rfl, by simp [objsB], Fr.refl _ _⟩
  case round =>
    obtain ⟨k, hk, rfl, rfl, hf⟩ := hrel
    by_cases hlt : k < n
    · obtain ⟨b, o, x, rfl, hbk, hx, hc0, hc1, hok⟩ := (h.nob hf).at_ hlt
      have hpx : S[k]? = some x.s := by
        rw [HS.out]
        simp [hx]
      have hxl := hok.len
      have hsn := Lib.hid (objsB_snoc hpx)
      have hpt := objsB_part hpx
      have hi0 : (0 : Int) ≤ (k : Int) ∧ (k : Int) < (n : Int) := ⟨by omega, by omega⟩
      obtain ⟨xi, xA, xn, xc, xd⟩ := x
      dsimp only at hc0 hc1 hxl
      simp only [Ob.s] at hpt
      have hxn : (objsB (S.take k)).length + xn + 2 ≤ 1000000 := by omega
      have HXL := Lib.hid hxl
      obtain ⟨m, hm⟩ : ∃ m, m = (objsB (S.take k)).length := ⟨_, rfl⟩
      rw [← hm] at hxn ⊢
      have HM := Lib.hid hm
      clear hx hpx hxl hpt hm hok hb
      go_wp2_with fail
      go_roundw
      case rel =>
        refine ⟨k + 1, by omega, by go_num, ?_, hf⟩
        rw [hsn.out, List.length_append, obB_len, ← HM.out]
        have h3 := HXL.out
        simp only [Ob.s, h3]
        first | go_num | (congr 1; omega) | (congr 1; push_cast; omega)
      case measure => simp [intOf]; omega
    · obtain rfl : k = n := by omega
      have htk : S.take k = S := List.take_of_length_le (by rw [HS.out]; simp [HLN.out])
      rw [htk]
      go_wp2_with fail
      go_ret
      exact ⟨rfl, hf⟩
end Go.Proofs.Ythdenkmmiadeiaa
