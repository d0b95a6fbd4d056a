/- What a question does, by its number: the plain law of DiagEchoes. -/
import Derived.Test.YtmpjdploacfmeabDiag9
namespace Go.Proofs.Ytmpjdploacfmeab
set_option linter.unusedSimpArgs false
set_option linter.unusedVariables false
open Go.RowKit

/-- What is told of any bytes. -/
def DoCases (s : Dg) (d : List Int) (y : Dg × List Int × Int × Int) : Prop :=
  (y = (s, [], 0, 1) ∨ y = (s, [], 0, 3)) ∨
  (2 ≤ d.length ∧ y.2.2.2 = 0 ∧ d.getD 0 0 = 0 ∧
    ((d.getD 1 0 = 4 ∧ y.2.1 = [] ∧ y.2.2.1 = 3 ∧ y.1.ls = true)
    ∨ ((d.getD 1 0 = 0 ∨ d.getD 1 0 = 2 ∨ (11 ≤ d.getD 1 0 ∧ d.getD 1 0 ≤ 18)) ∧ y.1 = s ∧ y.2.2.1 = 0 ∧ y.2.1.length = d.length ∧ y.2.1.getD 0 0 = d.getD 0 0 ∧ y.2.1.getD 1 0 = d.getD 1 0)
    ∨ ((d.getD 1 0 = 3 ∨ d.getD 1 0 = 10 ∨ d.getD 1 0 = 20) ∧ y.2.1 = d ∧ y.2.2.1 = 0)
    ∨ (d.getD 1 0 = 1 ∧ y.2.1 = d ∧ (y.2.2.1 = 1 ∨ y.2.2.1 = 2) ∧ y.1.ls = false)))
theorem do_cases (s : Dg) (d : List Int) (h8 : bytes8 d) : DoCases s d (doS s d) := by
  unfold doS
  by_cases h2 : d.length < 2
  · rw [if_pos h2]; exact .inl (.inr rfl)
  rw [if_neg h2]
  by_cases hk : knownN (at2 d 0) = false
  · rw [if_pos hk]; exact .inl (.inl rfl)
  rw [if_neg hk]
  by_cases hm : mayS (at2 d 0) (d.drop 2) = false
  · rw [if_pos hm]; exact .inl (.inr rfl)
  rw [if_neg hm]
  have hk' : knownN (at2 d 0) = true := by simpa using hk
  have hm' : mayS (at2 d 0) (d.drop 2) = true := by simpa using hm
  have hc := known_cases hk'
  have h0 := h8.at_ 0
  have h1 := h8.at_ 1
  have ha : at2 d 0 = d.getD 0 0 * 256 + d.getD 1 0 := rfl
  have hd0 : d.getD 0 0 = 0 := by omega
  have hd1 : d.getD 1 0 = at2 d 0 := by omega
  refine .inr ⟨by omega, rfl, hd0, ?_⟩
  rw [hd1]
  obtain ⟨n, hn⟩ : ∃ n, n = at2 d 0 := ⟨_, rfl⟩
  rw [← hn] at hc hm' ⊢
  have hlen : n ≠ 0 → d.length = 4 := by
    intro hne
    rcases Nat.lt_or_ge (d.drop 2).length 2 with hlt | hge
    · rw [may_no hne (by omega)] at hm'; cases hm'
    · rcases Nat.lt_or_ge 2 (d.drop 2).length with hgt | hle
      · rw [may_no hne (by omega)] at hm'; cases hm'
      · have : (d.drop 2).length = 2 := by omega
        rw [List.length_drop] at this
        omega
  rcases hc with h | h | h | h | h | h | h | h
  · rw [doN_0 h]
    exact .inr (.inl ⟨.inl h, rfl, rfl, rfl, rfl, by rw [hd1, hn]⟩)
  · rw [doN_1 h]
    refine .inr (.inr (.inr ⟨h, rfl, ?_, rfl⟩))
    dsimp only
    split
    · exact .inr rfl
    · exact .inl rfl
  · rw [doN_2 h]
    refine .inr (.inl ⟨.inr (.inl h), rfl, rfl, ?_, ?_, ?_⟩)
    · dsimp only; rw [put2s_len, hlen (by omega)]; rfl
    · rw [hd0, h]; rfl
    · rw [h]; rfl
  · rw [doN_3 h]; exact .inr (.inr (.inl ⟨.inl h, rfl, rfl⟩))
  · rw [doN_4 h]; exact .inl ⟨h, rfl, rfl, rfl⟩
  · rw [doN_10 h]; exact .inr (.inr (.inl ⟨.inr (.inl h), rfl, rfl⟩))
  · rw [doN_20 h]; exact .inr (.inr (.inl ⟨.inr (.inr h), rfl, rfl⟩))
  · rw [doN_c h]
    refine .inr (.inl ⟨.inr (.inr (by omega)), rfl, rfl, ?_, ?_, ?_⟩)
    · dsimp only; rw [put2s_len, hlen (by omega)]; rfl
    · rw [hd0]
      show n / 256 = 0
      omega
    · show n % 256 = n
      omega
end Go.Proofs.Ytmpjdploacfmeab
