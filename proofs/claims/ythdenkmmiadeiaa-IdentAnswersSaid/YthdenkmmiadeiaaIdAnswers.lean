/- Layer 21's law IdentAnswers, walked. -/
import Derived.Test.YthdenkmmiadeiaaId9
import Derived.Test.YthdenkmmiadeiaaId16
namespace Go.Proofs.Ythdenkmmiadeiaa
set_option linter.unusedSimpArgs false
set_option linter.unusedVariables false
open Go.RowKit

set_option maxHeartbeats 8000000 in
set_option maxRecDepth 100000 in
theorem identAnswers_any (A : Option Addr) (n c : Nat) (L : List Ob) (B : Option Addr) (m cb : Nat) (d : List Int) (w : World) (hO : Obs w A n L) (hn : n ≤ c) (hc : c ≤ 9223372036854775807) (hL8 : ∀ x ∈ L, bytes8 x.d)
    (hr : Rd w 1 B m (nums .u8 d)) (h8 : bytes8 d) (hm : m ≤ cb) (hcb : cb ≤ 9223372036854775807) :
    Calls Try.prog 4 #[.slice A n c, .slice B m cb] w fun e w' => e = .returned (.bool true) ∧ Fr nob w w' := by
  obtain ⟨an, han⟩ : ∃ an, an = answerS (L.map Ob.s) d := ⟨_, rfl⟩
  have h1 := fun V (hV : Fr nob w V) (h140 : n ≤ 140) => ident_answer A n c L B m cb d V (hO.nob hV) hn hc h140 (hr.nob hV) h8 hm hcb
  have h2 := fun V (hV : Fr nob w V) (h140 : n ≤ 140) => ref21_answer A n c L B m cb d V (hO.nob hV) hn hc h140 (hr.nob hV) h8 hm hcb
  rw [← han] at h1 h2
  obtain ⟨ab, ae⟩ := an
  dsimp only at h1 h2
  have H1 := Lib.hid h1
  have H2 := Lib.hid h2
  clear h1 h2 han
  have e0 : (ae == ae) = true := by simp
  go_enter Try.func4, Try.ntmps4
  go_wp2_with fail
  refine (few_any A n c L _ hO hn hc).mono ?_
  rintro e w1 ⟨fb, rfl, hf1, hfew⟩
  cases fb with
  | false =>
    go_wp2_with (go_at_call 12; refine (ident_sure _).mono ?_; rintro e w' ⟨rfl, hf⟩)
    go_ret
    exact ⟨rfl, hf1.trans hf (fun _ _ h => h)⟩
  | true =>
    have h140 := hfew rfl
    by_cases h600 : 600 < m
    · go_wp2_with (go_at_call 12; refine (ident_sure _).mono ?_; rintro e w' ⟨rfl, hf⟩)
      go_ret
      exact ⟨rfl, hf1.trans hf (fun _ _ h => h)⟩
    · clear hfew
      go_wp2_with fail
      refine (H1.out _ hf1 h140).mono ?_
      rintro e w2 ⟨A2, k2, c2, rfl, hr2, hk2, hc2, -, hf2⟩
      have hf02 := hf1.trans hf2 (fun _ _ h => h)
      go_wp2_with fail
      refine (H2.out _ hf02 h140).mono ?_
      rintro e w3 ⟨A3, k3, c3, rfl, hr3, hk3, hc3, -, hf3⟩
      have hf03 := hf02.trans hf3 (fun _ _ h => h)
      go_wp2_with fail
      refine (bytes_any A2 A3 k2 k3 c2 c3 ab ab _ (hr2.nob hf3) hr3 (by omega) (by omega)).mono ?_
      rintro e w4 ⟨rfl, k4, rfl⟩
      rw [show sameInts ab ab = true by simp [sameInts]]
      go_wp2_with (go_at_call 12; refine (ident_sure _).mono ?_; rintro e w' ⟨rfl, hf⟩)
      go_ret
      exact ⟨rfl, (hf03.drewN k4).trans hf (fun _ _ h => h)⟩
end Go.Proofs.Ythdenkmmiadeiaa
