/- Contract of (*State).Do (package diag). -/
import Derived.Test.YtmpjdploacfmeabDiag5
namespace Go.Proofs.Ytmpjdploacfmeab
set_option linter.unusedSimpArgs false
set_option linter.unusedVariables false
open Go.RowKit

set_option maxHeartbeats 4000000 in
theorem diag_do (b tb : Nat) (s : Dg) (A : Option Addr) (m cp : Nat) (d : List Int) (w : World) (hds : DgS w b tb s) (hr : Rd w 1 A m (nums .u8 d)) (hd : bytes8 d) (hm : m ≤ cp) (hcp : cp ≤ 9223372036854775807) (hb : m ≤ 600) :
    Calls Try.prog 7 #[.pointer (some ⟨b, 0, none⟩), .slice A m cp] w (doPost b tb (doS s d) w) := by
  have hl := hr.numlen
  obtain ⟨c, r, ls, dl⟩ := s
  obtain ⟨y, hy⟩ : ∃ y, y = doS ⟨c, r, ls, dl⟩ d := ⟨_, rfl⟩
  rw [← hy]
  have HY := Lib.hid hy
  clear hy
  have HLEN := Lib.hid hl
  have eqf := eql_fn
  have eqn := eql_no
  go_enter Try.func7, Try.ntmps7
  go_wp2_with fail
  refine (diag_none_ok b tb c r dl ls _ hds).mono ?_
  rintro e w1 ⟨rfl, rfl⟩
  go_wp2_with fail
  by_cases h2 : d.length < 2
  · refine (word_at_no A m cp 0 _ (by omega) hm hcp).mono ?_
    rintro e w2 ⟨rfl, rfl⟩
    go_wp2_with fail
    obtain rfl : y = (⟨c, r, ls, dl⟩, [], 0, 3) := by rw [HY.out, doS, if_pos h2]
    go_ret3
    exact ⟨none, 0, 0, rfl, Rd.nil_ _ _ _, by omega, by omega, (fun ad h => by cases h), hds, Fr.refl _ _⟩
  · refine (word_at_ok A m cp d 0 _ hr hd (by omega) hm hcp).mono ?_
    rintro e w2 ⟨rfl, k2, rfl⟩
    obtain ⟨n, hn⟩ : ∃ n, n = at2 d 0 := ⟨_, rfl⟩
    have hnb : 0 ≤ n ∧ n ≤ 65535 := by rw [hn]; exact at2_word hd 0
    rw [← hn]
    have HN := Lib.hid hn
    clear hn
    go_wp2_with fail
    refine (diag_of n _).mono ?_
    rintro e w3 ⟨rfl, rfl⟩
    cases hk : knownN n with
    | false =>
      rw [known_no hk]
      have HK := Lib.hid hk
      clear hk
      go_wp2_with fail
      obtain rfl : y = (⟨c, r, ls, dl⟩, [], 0, 1) := by rw [HY.out, doS, if_neg h2, ← HN.out, if_pos HK.out]
      go_ret3
      exact ⟨none, 0, 0, rfl, Rd.nil_ _ _ _, by omega, by omega, (fun ad h => by cases h), hds, (Fr.refl _ _).drewN _⟩
    | true =>
      obtain ⟨f, hf, hcase⟩ := known_yes hk
      rw [hf]
      have HK := Lib.hid hk
      have HC := Lib.hid hcase
      clear hk hcase hf
      have hrd := (hr.drewN k2).cut (k := 2) (cap := cp) (by omega) (by omega)
      rw [show (nums .u8 d).drop (2 * 1) = nums .u8 (d.drop 2) by simp [nums]] at hrd
      have hdd : bytes8 (d.drop 2) := fun z hz => hd z (List.mem_of_mem_drop hz)
      by_cases hc2 : cp = 2
      · rw [if_pos hc2] at hrd
        have hmay : mayS n (d.drop 2) = false := by
          cases hm' : mayS n (d.drop 2) with
          | false => rfl
          | true =>
            have := may_len hm'
            rw [List.length_drop] at this
            omega
        go_wp2_with fail
        refine (diag_may _ (m - 2) _ n (d.drop 2) _ hrd hdd (by omega) (by omega)).mono ?_
        rintro e w3 ⟨rfl, k3, rfl⟩
        rw [hmay]
        have HM := Lib.hid hmay
        clear hmay
        go_wp2_with fail
        obtain rfl : y = (⟨c, r, ls, dl⟩, [], 0, 3) := by rw [HY.out, doS, if_neg h2, ← HN.out, if_neg (by rw [HK.out]; simp), if_pos HM.out]
        go_ret3
        exact ⟨none, 0, 0, rfl, Rd.nil_ _ _ _, by omega, by omega, (fun ad h => by cases h), hds, (Fr.refl _ _).drewN _⟩
      · rw [if_neg hc2] at hrd
        go_wp2_with fail
        refine (diag_may _ (m - 2) _ n (d.drop 2) _ hrd hdd (by omega) (by omega)).mono ?_
        rintro e w3 ⟨rfl, k3, rfl⟩
        cases hmay : mayS n (d.drop 2) with
        | false =>
          have HM := Lib.hid hmay
          clear hmay
          go_wp2_with fail
          obtain rfl : y = (⟨c, r, ls, dl⟩, [], 0, 3) := by rw [HY.out, doS, if_neg h2, ← HN.out, if_neg (by rw [HK.out]; simp), if_pos HM.out]
          go_ret3
          exact ⟨none, 0, 0, rfl, Rd.nil_ _ _ _, by omega, by omega, (fun ad h => by cases h), hds, (Fr.refl _ _).drewN _⟩
        | true =>
          have HM := Lib.hid hmay
          clear hmay
          have hm4 : 4 ≤ m := by
            have := may_len HM.out
            rw [List.length_drop] at this
            omega
          go_wp2_with fail
          refine (word_at2 A m cp d _ (hr.drewN _) hd (by omega) hm hcp).mono ?_
          rintro e w4 ⟨rfl, k4, rfl⟩
          obtain ⟨x, hx⟩ : ∃ x, x = at2 d 2 := ⟨_, rfl⟩
          have hxb : 0 ≤ x ∧ x ≤ 65535 := by rw [hx]; exact at2_word hd 2
          rw [← hx]
          have HX := Lib.hid hx
          clear hx
          go_wp2_with fail
          refine (clone_bytes A m cp d (w1.drewN (k2 + k3 + k4)) (hr.drewN _) hm (by omega)).mono ?_
          rintro e w5 ⟨A5, c5, rfl, hown5, hf5⟩
          have hds5 := hds.fr (((Fr.refl nob _).drewN _).trans hf5 (fun _ _ h => h)) (fun h => h) (fun h => h)
          have hown6 := hown5.alloc (.cells #[.int .i64 n, .int .u16 x, .slice A5 m c5, .int .i64 0] 62)
          have hq6 := Blk.new w5 62 #[.int .i64 n, .int .u16 x, .slice A5 m c5, .int .i64 0]
          have hf6 := hf5.alloc (.cells #[.int .i64 n, .int .u16 x, .slice A5 m c5, .int .i64 0] 62)
          have hds6 := hds5.nob ((Fr.refl nob w5).alloc (.cells #[.int .i64 n, .int .u16 x, .slice A5 m c5, .int .i64 0] 62))
          have hcall := call_fn HC.out
          go_wp2_with fail
          refine (diag_fn b tb w5.heap.size ⟨c, r, ls, dl⟩ n x f A5 m c5 d _ HC.out hds6 hq6 hnb hxb (Rd.of_own hown6) ?_ ?_ (own_cap hown6)).mono ?_
          · rintro ad rfl
            obtain ⟨A', c', e', _, ho⟩ := own_form hown5
            injection e' with e1 e2 e3
            subst e1
            rcases ho with ho | ⟨g, hg, hge, hgl⟩
            · cases ho
            · cases hg
              have h1 := hds.lt
              have h2 := hds.2.1.2.2.lt
              simp at hge
              simp only [not_or]
              omega
          · obtain ⟨A', c', e', hle, ho⟩ := own_form hown5
            injection e' with e1 e2 e3
            omega
          rintro e w7 ⟨rfl, A7, k7, c7, hq7, hr7, hk7, hc7, hn7, hds7, hf7⟩
          have q7 := hq7.at_
          go_wp2_with fail
          go_quiet (fail)
          go_wp2
          go_ret3
          have hy : y = ((doN ⟨c, r, ls, dl⟩ n x d).1, (doN ⟨c, r, ls, dl⟩ n x d).2.1, (doN ⟨c, r, ls, dl⟩ n x d).2.2, 0) := by
            rw [HY.out, doS, if_neg h2, ← HN.out, ← HX.out, if_neg (by rw [HK.out]; simp), if_neg (by rw [HM.out]; simp)]
          rw [hy]
          refine ⟨A7, k7, c7, rfl, hr7.drewN _, hk7, hc7, fun ad h => ?_, hds7, ?_⟩
          · have hzz := hf5.size
            simp at hzz
            rcases hn7 ad h with h' | h'
            · subst h'
              obtain ⟨A', c', e', hle, ho⟩ := own_form hown5
              injection e' with e1 e2 e3
              subst e1
              rcases ho with ho | ⟨g, hg, hge, _⟩
              · cases ho
              · cases hg; simpa using hge
            · simp at h'; omega
          have hf8 : Fr nob w1 (w5.alloc (.cells #[.int .i64 n, .int .u16 x, .slice A5 m c5, .int .i64 0] 62)) := ((Fr.refl nob _).drewN _).trans hf6 (fun _ _ h => h)
          have hzz := hf5.size
          simp at hzz
          exact (hf8.of_nob.trans hf7 (fun i hi hs => by
            rcases hs with hs | hs | hs
            · exact .inl hs
            · exact .inr hs
            · omega)).drewN _
end Go.Proofs.Ytmpjdploacfmeab
