/- Contract of container/heap's Remove over timers. -/
import Derived.Test.YthdenkmmiadeiaaTim6
import Derived.Test.YthdenkmmiadeiaaQueueLaw
namespace Go.Proofs.Ythdenkmmiadeiaa
set_option linter.unusedSimpArgs false
set_option linter.unusedVariables false
open Go.RowKit

theorem take_erase {E E2 : List Ent} {n i : Nat} (hp : E2.Perm E) (hn : E.length = n + 1) (hi : i ≤ n) (he : at' E2 n = at' E i) : (E2.take n).Perm (E.eraseIdx i) := by
  have hl2 : E2.length = n + 1 := by rw [hp.length_eq, hn]
  have h1 : E2 = E2.take n ++ [at' E2 n] := by
    conv => lhs; rw [← List.take_append_drop n E2]
    congr 1
    rw [List.drop_eq_getElem_cons (by omega), List.drop_of_length_le (by omega)]
    simp [at', List.getD_eq_getElem?_getD, List.getElem?_eq_getElem (show n < E2.length by omega)]
  have h2 := perm_erase E (i := i) (by omega)
  have e1 : E[i]'(by omega) = at' E i := by simp [at', List.getD_eq_getElem?_getD, List.getElem?_eq_getElem (show i < E.length by omega)]
  rw [e1] at h2
  have h3 : (at' E i :: E2.take n).Perm (at' E i :: E.eraseIdx i) := by
    refine List.Perm.trans ?_ h2
    refine List.Perm.trans ?_ hp
    conv => rhs; rw [h1, he]
    exact (List.perm_append_comm (l₁ := [at' E i])).trans (List.Perm.refl _)
  exact h3.cons_inv

/-- What Remove leaves. -/
def removedPost (r n c base g i : Nat) (m : Value) (E : List Ent) (w w' : World) : Prop :=
  ∃ E', TH w' base (.slice (some ⟨r, 0, none⟩) n c) E' ∧ Qb w' g (.slice (some ⟨r, 0, none⟩) n c) m ∧ Fr (fun b => tfoot (.slice (some ⟨r, 0, none⟩) (n + 1) c) E b ∨ b = g) w w' ∧ E'.Perm (E.eraseIdx i) ∧ HeapN E' n
theorem removed_of {r n c base g i : Nat} {m : Value} {E E2 : List Ent} {w w1 w2 : World} (hm : Moved w base (.slice (some ⟨r, 0, none⟩) (n + 1) c) E E2 w1) (hp : Popped w1 base g r n c m E2 w2) (hn : E.length = n + 1) (hi : i ≤ n) (hh : HeapN E2 n) (he : at' E2 n = at' E i) : removedPost r n c base g i m E w w2 :=
  ⟨E2.take n, hp.th, hp.qb, hm.fr.more (fun _ h => .inl h) |>.trans hp.fr (fun b _ hb => hb.imp ((tfoot_perm hm.perm b).1) id), take_erase hm.perm hn hi he, heap_take hh (by rw [hm.perm.length_eq]; omega)⟩

set_option maxHeartbeats 4000000 in
set_option maxRecDepth 100000 in
theorem hremove_any (r n c base g i : Nat) (iv : Int) (m : Value) (E : List Ent) (w : World) (hq : Qb w g (.slice (some ⟨r, 0, none⟩) (n + 1) c) m) (h : TH w base (.slice (some ⟨r, 0, none⟩) (n + 1) c) E) (hn : E.length = n + 1) (hn2 : n ≤ 100000) (hiv : iv = (i : Int)) (hi : i ≤ n) (hh : HeapN E (n + 1)) :
    Calls Try.prog 78 #[hval g, .int .i64 iv] w fun e w' => (∃ u, e = .returned u) ∧ removedPost r n c base g i m E w w' := by
  subst hiv
  have hlen := run_len g w (some ⟨r, 0, none⟩) (n + 1) c (Blk.cell hq 0)
  have HQ := Lib.hid hq
  have HTH := Lib.hid h
  have HN := Lib.hid hn
  have HH := Lib.hid hh
  unfold hval
  clear hq h hn hh
  by_cases hin : i = n
  · subst hin
    have hne : ((i : Int) != (i : Int)) = false := by rw [bne_self_eq_false]
    have hpop := run_pop g w
    have hpc := pop_any g r i c base m E w HQ.out HTH.out HN.out (by omega)
    have HPC := Lib.hid hpc
    clear hpc
    go_enter Try.func78, Try.ntmps78
    go_wp2_with fail
    refine (tlen_any (some ⟨r, 0, none⟩) (i + 1) c w (by omega)).mono ?_
    rintro e w1 ⟨rfl, rfl⟩
    go_wp2_with fail
    refine HPC.out.mono ?_
    rintro e w2 ⟨rfl, hp⟩
    have HP := Lib.hid hp
    clear hp
    go_wp2_with fail
    go_ret
    exact ⟨⟨_, rfl⟩, removed_of (Moved.refl HTH.out) HP.out HN.out (Nat.le_refl _) (heap_less HH.out (by omega)) rfl⟩
  · have hne : ((n : Int) != (i : Int)) = true := by rw [bne_iff_ne]; omega
    have hswap := run_swap g w (some ⟨r, 0, none⟩) (n + 1) c (Blk.cell HQ.out 0)
    have hsc := fun iv kv h1 h2 => swap_any (some ⟨r, 0, none⟩) (n + 1) c base i n iv kv E w HTH.out HN.out (by omega) h1 h2 (by omega) (by omega) hin
    have HSC := Lib.hid hsc
    have HAB := Lib.hid (heap_last HH.out (i := i) (by omega) (by rw [HN.out]; omega))
    have HSA := Lib.hid (swap_at (E := E) (i := i) (j := n) (by rw [HN.out]; omega) (by rw [HN.out]; omega))
    have hlt : i < n := by omega
    clear hsc hin
    go_enter Try.func78, Try.ntmps78
    go_wp2_with fail
    refine (tlen_any (some ⟨r, 0, none⟩) (n + 1) c w (by omega)).mono ?_
    rintro e w1 ⟨rfl, rfl⟩
    go_wp2_with fail
    refine (HSC.out _ _ (by omega) (by omega)).mono ?_
    rintro e w2 ⟨rfl, hmv⟩
    have hq2 : Qb w2 g _ m := HQ.out.moved HTH.out hmv
    have hdc := fun iv nv h1 h2 => down_any (some ⟨r, 0, none⟩) (n + 1) n c base g i iv nv m (swapE E i n) w2 hq2 hmv.th (by rw [swap_len]; exact HN.out) (by omega) (by omega) h1 h2 (by omega) HAB.out
    have HDC := Lib.hid hdc
    unfold hval at HDC
    have HMV := Lib.hid hmv
    have HQ2 := Lib.hid hq2
    clear hdc hmv hq2 hswap hlen
    go_wp2_with fail
    refine (HDC.out _ _ (by omega) (by omega)).mono ?_
    rintro e w3 ⟨rr, E2, rfl, hmv2, hr, hk⟩
    have he2 : at' E2 n = at' E i := by rw [hk n (Nat.le_refl _), HSA.out n, if_pos rfl]
    have HE2 := Lib.hid he2
    have hmv3 := HMV.out.trans hmv2
    have hq3 : Qb w3 g _ m := HQ.out.moved HTH.out hmv3
    cases rr with
    | true =>
      have hh2 : HeapN E2 n := by simpa using hr
      have hpop := run_pop g w3
      have hpc := pop_any g r n c base m E2 w3 hq3 hmv3.th (by rw [hmv3.perm.length_eq]; exact HN.out) (by omega)
      have HPC := Lib.hid hpc
      have HMV3 := Lib.hid hmv3
      have HH2 := Lib.hid hh2
      clear hpc hmv3 hmv2 hq3 hr hk he2 hh2
      go_wp2_with fail
      refine HPC.out.mono ?_
      rintro e w4 ⟨rfl, hp⟩
      have HP := Lib.hid hp
      clear hp
      go_wp2_with fail
      go_ret
      exact ⟨⟨_, rfl⟩, removed_of HMV3.out HP.out HN.out hi HH2.out HE2.out⟩
    | false =>
      have hh2 : E2 = swapE E i n ∧ UpI (swapE E i n) n i := by simpa using hr
      obtain ⟨rfl, hup⟩ := hh2
      have huc := fun iv h1 => up_any (some ⟨r, 0, none⟩) (n + 1) n c base g i iv m (swapE E i n) w3 hq3 hmv3.th (by rw [swap_len]; exact HN.out) (by omega) (by omega) h1 (by omega) hup
      have HUC := Lib.hid huc
      unfold hval at HUC
      have HMV3 := Lib.hid hmv3
      clear huc hmv3 hmv2 hq3 hr hk he2 hup
      go_wp2_with fail
      refine (HUC.out _ (by omega)).mono ?_
      rintro e w4 ⟨rfl, E4, hmv4, hh4, hk4⟩
      have hmv5 := HMV3.out.trans hmv4
      have hq5 : Qb w4 g _ m := HQ.out.moved HTH.out hmv5
      have hpop := run_pop g w4
      have hpc := pop_any g r n c base m E4 w4 hq5 hmv5.th (by rw [hmv5.perm.length_eq]; exact HN.out) (by omega)
      have HPC := Lib.hid hpc
      have HMV5 := Lib.hid hmv5
      have HH4 := Lib.hid hh4
      have HK4 := Lib.hid (show at' E4 n = at' E i by rw [hk4 n (Nat.le_refl _)]; exact HE2.out)
      clear hpc hmv5 hmv4 hq5 hh4 hk4
      go_wp2_with fail
      refine HPC.out.mono ?_
      rintro e w6 ⟨rfl, hp⟩
      have HP := Lib.hid hp
      clear hp
      go_wp2_with fail
      go_ret
      exact ⟨⟨_, rfl⟩, removed_of HMV5.out HP.out HN.out hi HH4.out HK4.out⟩
end Go.Proofs.Ythdenkmmiadeiaa
