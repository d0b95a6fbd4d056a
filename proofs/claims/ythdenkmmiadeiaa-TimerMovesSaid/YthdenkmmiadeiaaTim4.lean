/- Contracts of container/heap's up and down over timers. -/
import Derived.Test.YthdenkmmiadeiaaMeth
namespace Go.Proofs.Ythdenkmmiadeiaa
set_option linter.unusedSimpArgs false
set_option linter.unusedVariables false
open Go.RowKit

/-- The heap's own value: a pointer to where the slice lies. -/
def hval (g : Nat) : Value := .iface 136 (.pointer (some ⟨g, 0, none⟩))
/-- A queue's block. -/
def Qb (w : World) (g : Nat) (v m : Value) : Prop := Blk w g 125 #[v, m]
theorem Qb.moved {w w' : World} {g base : Nat} {v m : Value} {E E' : List Ent} (h : Qb w g v m) (ht : TH w base v E) (hm : Moved w base v E E' w') : Qb w' g v m :=
  Blk.fr h hm.fr (ht.out h (by decide) (by decide))

set_option maxHeartbeats 2000000 in
set_option maxRecDepth 100000 in
theorem up_any (A : Option Addr) (n N c base g j : Nat) (jv : Int) (m : Value) (E : List Ent) (w : World) (hq : Qb w g (.slice A n c) m) (h : TH w base (.slice A n c) E) (hn : E.length = n) (hn2 : n ≤ 1000000) (hN : N ≤ n) (hjv : jv = (j : Int)) (hj : j < N) (hu : UpI E N j) :
    Calls Try.prog 101 #[hval g, .int .i64 jv] w fun e w' => e = .returned (.tuple #[]) ∧ ∃ E', Moved w base (.slice A n c) E E' w' ∧ HeapN E' N ∧ ∀ k, N ≤ k → at' E' k = at' E k := by
  subst hjv
  have HQ := Lib.hid hq
  have HTH := Lib.hid h
  have HNL := Lib.hid hn
  have HU := Lib.hid hu
  rw [hval]
  clear hq h hn hu
  go_enter Try.func101, Try.ntmps101
  go_wp2_with fail
  go_loopw [1] (fun v wr => ∃ (i : Nat) (E' : List Ent), v = .int .i64 i ∧ i < N ∧ Hid (Moved w base (.slice A n c) E E' wr) ∧ Hid (UpI E' N i) ∧ Hid (∀ k, N ≤ k → at' E' k = at' E k)) (fun v _ => (intOf v).toNat)
  case atStart => exact ⟨j, E, rfl, hj, Lib.hid (Moved.refl HTH.out), HU, Lib.hid (fun _ _ => rfl)⟩
  case round =>
    clear hj HU
    obtain ⟨i, E', rfl, hi, hmv, hu, hk⟩ := hrel
    have hq' : Qb wr g (.slice A n c) m := HQ.out.moved HTH.out hmv.out
    have hm' := hmv.out.th
    have hl' : E'.length = n := by rw [hmv.out.perm.length_eq]; exact HNL.out
    by_cases hi0 : i = 0
    · subst hi0
      have hfin := up_done hu.out (.inl rfl)
      have HF := Lib.hid hfin
      clear hfin hq' hm' hl'
      go_wp2_with fail
      go_end0
      exact ⟨rfl, E', hmv.out, HF.out, hk.out⟩
    · have hless := run_less g wr A n c (Blk.cell hq' 0)
      have hcl := less_any A n c base i ((i - 1) / 2) (i : Int) (((i : Int) - 1) / 2) E' wr hm' hl' hn2 rfl (by omega) (by omega) (by omega)
      obtain ⟨b, hb⟩ : ∃ b, b = ltB (at' E' i) (at' E' ((i - 1) / 2)) := ⟨_, rfl⟩
      rw [← hb] at hcl
      have HB := Lib.hid hb
      have HCL := Lib.hid hcl
      have HQ' := Lib.hid hq'
      have HM' := Lib.hid hm'
      have HL' := Lib.hid hl'
      have hne : (((i : Int) - 1) / 2 == (i : Int)) = false := by rw [beq_eq_false_iff_ne]; omega
      clear hb hcl hq' hm' hl'
      go_wp2_with fail
      refine HCL.out.mono ?_
      rintro e w2 ⟨rfl, q, rfl⟩
      cases b with
      | false =>
        have hfin := up_done hu.out (.inr (of_decide_eq_false HB.out.symm))
        have HF := Lib.hid hfin
        clear hfin hless
        go_wp2_with fail
        go_end0
        exact ⟨rfl, E', hmv.out.drewN q, HF.out, hk.out⟩
      | true =>
        have hlt := of_decide_eq_true HB.out.symm
        have hq2 : Qb (wr.drewN q) g (.slice A n c) m := Blk.drewN HQ'.out q
        have hswap := run_swap g (wr.drewN q) A n c (Blk.cell hq2 0)
        have hsc := swap_any A n c base ((i - 1) / 2) i (((i : Int) - 1) / 2) (i : Int) E' (wr.drewN q) (HM'.out.nob ((Fr.refl _ _).drewN q)) HL'.out hn2 (by omega) rfl (by omega) (by omega) (by omega)
        have HSC := Lib.hid hsc
        have hu2 := Lib.hid (up_step hu.out (by omega) hi (by rw [HL'.out]; exact hN) hlt)
        have hsa := Lib.hid (fun k => swap_at (E := E') (i := (i - 1) / 2) (j := i) (by rw [HL'.out]; omega) (by rw [HL'.out]; omega) k)
        clear hless hq2 hsc hlt
        go_wp2_with fail
        refine HSC.out.mono ?_
        rintro e w3 ⟨rfl, hmv3⟩
        have HMV3 := Lib.hid ((hmv.out.drewN q).trans hmv3)
        clear hmv3 hswap
        go_wp2_with fail
        go_roundw
        case rel =>
          refine ⟨(i - 1) / 2, swapE E' ((i - 1) / 2) i, by congr 1; omega, by omega, HMV3, hu2, Lib.hid fun k hk2 => ?_⟩
          rw [hsa.out k, if_neg (by omega), if_neg (by omega)]
          exact hk.out k hk2
        case measure => simp [intOf]; omega

set_option maxHeartbeats 4000000 in
set_option maxRecDepth 100000 in
theorem down_any (A : Option Addr) (n N c base g i0 : Nat) (iv nv : Int) (m : Value) (E : List Ent) (w : World) (hq : Qb w g (.slice A n c) m) (h : TH w base (.slice A n c) E) (hn : E.length = n) (hn2 : n ≤ 1000000) (hN : N ≤ n) (hiv : iv = (i0 : Int)) (hnv : nv = (N : Int)) (hi0 : i0 < N) (hu : AllBut E N i0) :
    Calls Try.prog 100 #[hval g, .int .i64 iv, .int .i64 nv] w fun e w' => ∃ r E', e = .returned (.bool r) ∧ Moved w base (.slice A n c) E E' w' ∧ (if r then HeapN E' N else E' = E ∧ UpI E N i0) ∧ ∀ k, N ≤ k → at' E' k = at' E k := by
  subst hiv hnv
  have HQ := Lib.hid hq
  have HTH := Lib.hid h
  have HNL := Lib.hid hn
  have HU := Lib.hid hu
  rw [hval]
  clear hq h hn hu
  go_enter Try.func100, Try.ntmps100
  go_wp2_with fail
  go_loopw [7] (fun v wr => ∃ (i : Nat) (E' : List Ent), v = .int .i64 i ∧ i < N ∧ i0 ≤ i ∧ Hid (Moved w base (.slice A n c) E E' wr) ∧ Hid (AllBut E' N i ∧ (i ≠ i0 → okAt E' i) ∧ (i = i0 → E' = E)) ∧ Hid (∀ k, N ≤ k → at' E' k = at' E k)) (fun v _ => N - (intOf v).toNat)
  case atStart => exact ⟨i0, E, rfl, hi0, Nat.le_refl _, Lib.hid (Moved.refl HTH.out), Lib.hid ⟨HU.out, fun h => absurd rfl h, fun _ => rfl⟩, Lib.hid (fun _ _ => rfl)⟩
  case round =>
    clear hi0 HU
    obtain ⟨i, E', rfl, hi, hi0, hmv, hu, hk⟩ := hrel
    have hq' : Qb wr g (.slice A n c) m := HQ.out.moved HTH.out hmv.out
    have hm' := hmv.out.th
    have hl' : E'.length = n := by rw [hmv.out.perm.length_eq]; exact HNL.out
    -- what is told at the end
    have hend : (∀ k, 0 < k → k < N → (k - 1) / 2 = i → ¬ ltE (at' E' k) (at' E' i)) → ∀ w', Moved w base (.slice A n c) E E' w' → ∃ r E', Ending.returned (Value.bool (decide (i0 < i))) = .returned (.bool r) ∧ Moved w base (.slice A n c) E E' w' ∧ (if r then HeapN E' N else E' = E ∧ UpI E N i0) ∧ ∀ k, N ≤ k → at' E' k = at' E k := by
      intro hc w' hmv'
      have hd := down_done hu.out.1 hc
      refine ⟨_, E', rfl, hmv', ?_, hk.out⟩
      by_cases h : i = i0
      · subst h
        have he := hu.out.2.2 rfl
        rw [if_neg (by simp)]
        exact ⟨he, by rw [← he]; exact hd⟩
      · rw [if_pos (by simp; omega)]
        exact up_heap hd (hu.out.2.1 h)
    have HEND := Lib.hid hend
    have hw1 : IntKind.i64.wrap (2 * (i : Int)) = 2 * (i : Int) := IntWalk.i64_in _ (by omega)
    clear hend
    by_cases h1 : N ≤ 2 * i + 1
    · have hd1 : decide ((N : Int) ≤ 2 * (i : Int) + 1) = true := decide_eq_true (by omega)
      have hno := Lib.hid (show ∀ k, 0 < k → k < N → (k - 1) / 2 = i → ¬ ltE (at' E' k) (at' E' i) from fun k _ hk2 hk3 => by omega)
      clear hq' hm' hl'
      go_wp2_with fail
      go_ret
      exact HEND.out hno.out _ hmv.out
    · have hd1 : decide ((N : Int) ≤ 2 * (i : Int) + 1) = false := decide_eq_false (by omega)
      have hd2 : decide (2 * (i : Int) + 1 < 0) = false := decide_eq_false (by omega)
      have hless := run_less g wr A n c (Blk.cell hq' 0)
      have HQ' := Lib.hid hq'
      have HM' := Lib.hid hm'
      have HL' := Lib.hid hl'
      clear hq' hm' hl'
      by_cases h2 : 2 * i + 2 < N
      · have hd3 : decide (2 * (i : Int) + 2 < (N : Int)) = true := decide_eq_true (by omega)
        have hcl := fun iv kv h1 h2 => less_any A n c base (2 * i + 2) (2 * i + 1) iv kv E' wr HM'.out HL'.out hn2 h1 h2 (by omega) (by omega)
        obtain ⟨b, hb⟩ : ∃ b, b = ltB (at' E' (2 * i + 2)) (at' E' (2 * i + 1)) := ⟨_, rfl⟩
        rw [← hb] at hcl
        have HB := Lib.hid hb
        have HCL := Lib.hid hcl
        clear hb hcl
        go_wp2_with fail
        refine (HCL.out _ _ (by omega) (by omega)).mono ?_
        rintro e w2 ⟨rfl, q, rfl⟩
        cases b with
        | true =>
          have hlt1 := of_decide_eq_true HB.out.symm
          have hmin := Lib.hid (show ∀ k, 0 < k → k < N → (k - 1) / 2 = i → ¬ ltE (at' E' k) (at' E' (2 * i + 2)) from fun k hk1 hk2 hk3 => by
            have : k = 2 * i + 1 ∨ k = 2 * i + 2 := by omega
            rcases this with rfl | rfl
            · exact ltE_asymm hlt1
            · unfold ltE; omega)
          clear hlt1 hless
          have hmvq := hmv.out.drewN q
          have hqq : Qb (wr.drewN q) g (.slice A n c) m := Blk.drewN HQ'.out q
          have hless2 := run_less g (wr.drewN q) A n c (Blk.cell hqq 0)
          have hcl2 := fun iv kv h1 h2 => less_any A n c base (2 * i + 2) i iv kv E' (wr.drewN q) (HM'.out.nob ((Fr.refl _ _).drewN q)) HL'.out hn2 h1 h2 (by omega) (by omega)
          obtain ⟨b2, hb2⟩ : ∃ b, b = ltB (at' E' (2 * i + 2)) (at' E' i) := ⟨_, rfl⟩
          rw [← hb2] at hcl2
          have HB2 := Lib.hid hb2
          have HCL2 := Lib.hid hcl2
          have HMVQ := Lib.hid hmvq
          clear hb2 hcl2 hqq hmvq
          go_wp2_with fail
          refine (HCL2.out _ _ (by omega) (by omega)).mono ?_
          rintro e w3 ⟨rfl, q3, rfl⟩
          cases b2 with
          | false =>
            have hno := Lib.hid (show ∀ k, 0 < k → k < N → (k - 1) / 2 = i → ¬ ltE (at' E' k) (at' E' i) from fun k hk1 hk2 hk3 => ge_trans (hmin.out k hk1 hk2 hk3) (of_decide_eq_false HB2.out.symm))
            clear hless2
            go_wp2_with fail
            go_ret
            exact HEND.out hno.out _ (by have h := HMVQ.out.drewN q3; rwa [World.drewN_drewN] at h)
          | true =>
            have hlt := of_decide_eq_true HB2.out.symm
            have hq4 : Qb (wr.drewN (q + q3)) g (.slice A n c) m := Blk.drewN HQ'.out (q + q3)
            have hswap := run_swap g (wr.drewN (q + q3)) A n c (Blk.cell hq4 0)
            have hsc := fun iv kv h1 h2 => swap_any A n c base i (2 * i + 2) iv kv E' (wr.drewN (q + q3)) (HM'.out.nob ((Fr.refl _ _).drewN (q + q3))) HL'.out hn2 h1 h2 (by omega) (by omega) (by omega)
            have HSC := Lib.hid hsc
            have hds := Lib.hid (down_step (j := 2 * i + 2) hu.out.1 (by omega) (by omega) (by omega) (by rw [HL'.out]; exact hN) hlt hmin.out)
            have hsa := Lib.hid (fun k => swap_at (E := E') (i := i) (j := 2 * i + 2) (by rw [HL'.out]; omega) (by rw [HL'.out]; omega) k)
            clear hless2 hq4 hsc hlt
            go_wp2_with fail
            refine (HSC.out _ _ (by omega) (by omega)).mono ?_
            rintro e w5 ⟨rfl, hmv5⟩
            have HMV5 := Lib.hid ((by have h := HMVQ.out.drewN q3; rwa [World.drewN_drewN] at h : Moved w base (.slice A n c) E E' _).trans hmv5)
            clear hmv5 hswap
            go_wp2_with fail
            go_roundw
            case rel =>
              refine ⟨2 * i + 2, swapE E' i (2 * i + 2), by congr 1 <;> omega, by omega, by omega, HMV5, Lib.hid ⟨hds.out.1, fun _ => hds.out.2, fun h => by omega⟩, Lib.hid fun k hk2 => ?_⟩
              rw [hsa.out k, if_neg (by omega), if_neg (by omega)]
              exact hk.out k hk2
            case measure => simp [intOf]; omega
        | false =>
          have hge1 := of_decide_eq_false HB.out.symm
          have hmin := Lib.hid (show ∀ k, 0 < k → k < N → (k - 1) / 2 = i → ¬ ltE (at' E' k) (at' E' (2 * i + 1)) from fun k hk1 hk2 hk3 => by
            have : k = 2 * i + 1 ∨ k = 2 * i + 2 := by omega
            rcases this with rfl | rfl
            · unfold ltE; omega
            · exact hge1)
          clear hge1 hless
          have hmvq := hmv.out.drewN q
          have hqq : Qb (wr.drewN q) g (.slice A n c) m := Blk.drewN HQ'.out q
          have hless2 := run_less g (wr.drewN q) A n c (Blk.cell hqq 0)
          have hcl2 := fun iv kv h1 h2 => less_any A n c base (2 * i + 1) i iv kv E' (wr.drewN q) (HM'.out.nob ((Fr.refl _ _).drewN q)) HL'.out hn2 h1 h2 (by omega) (by omega)
          obtain ⟨b2, hb2⟩ : ∃ b, b = ltB (at' E' (2 * i + 1)) (at' E' i) := ⟨_, rfl⟩
          rw [← hb2] at hcl2
          have HB2 := Lib.hid hb2
          have HCL2 := Lib.hid hcl2
          have HMVQ := Lib.hid hmvq
          clear hb2 hcl2 hqq hmvq
          go_wp2_with fail
          refine (HCL2.out _ _ (by omega) (by omega)).mono ?_
          rintro e w3 ⟨rfl, q3, rfl⟩
          cases b2 with
          | false =>
            have hno := Lib.hid (show ∀ k, 0 < k → k < N → (k - 1) / 2 = i → ¬ ltE (at' E' k) (at' E' i) from fun k hk1 hk2 hk3 => ge_trans (hmin.out k hk1 hk2 hk3) (of_decide_eq_false HB2.out.symm))
            clear hless2
            go_wp2_with fail
            go_ret
            exact HEND.out hno.out _ (by have h := HMVQ.out.drewN q3; rwa [World.drewN_drewN] at h)
          | true =>
            have hlt := of_decide_eq_true HB2.out.symm
            have hq4 : Qb (wr.drewN (q + q3)) g (.slice A n c) m := Blk.drewN HQ'.out (q + q3)
            have hswap := run_swap g (wr.drewN (q + q3)) A n c (Blk.cell hq4 0)
            have hsc := fun iv kv h1 h2 => swap_any A n c base i (2 * i + 1) iv kv E' (wr.drewN (q + q3)) (HM'.out.nob ((Fr.refl _ _).drewN (q + q3))) HL'.out hn2 h1 h2 (by omega) (by omega) (by omega)
            have HSC := Lib.hid hsc
            have hds := Lib.hid (down_step (j := 2 * i + 1) hu.out.1 (by omega) (by omega) (by omega) (by rw [HL'.out]; exact hN) hlt hmin.out)
            have hsa := Lib.hid (fun k => swap_at (E := E') (i := i) (j := 2 * i + 1) (by rw [HL'.out]; omega) (by rw [HL'.out]; omega) k)
            clear hless2 hq4 hsc hlt
            go_wp2_with fail
            refine (HSC.out _ _ (by omega) (by omega)).mono ?_
            rintro e w5 ⟨rfl, hmv5⟩
            have HMV5 := Lib.hid ((by have h := HMVQ.out.drewN q3; rwa [World.drewN_drewN] at h : Moved w base (.slice A n c) E E' _).trans hmv5)
            clear hmv5 hswap
            go_wp2_with fail
            go_roundw
            case rel =>
              refine ⟨2 * i + 1, swapE E' i (2 * i + 1), by congr 1 <;> omega, by omega, by omega, HMV5, Lib.hid ⟨hds.out.1, fun _ => hds.out.2, fun h => by omega⟩, Lib.hid fun k hk2 => ?_⟩
              rw [hsa.out k, if_neg (by omega), if_neg (by omega)]
              exact hk.out k hk2
            case measure => simp [intOf]; omega
      · have hd3 : decide (2 * (i : Int) + 2 < (N : Int)) = false := decide_eq_false (by omega)
        have hmin := Lib.hid (show ∀ k, 0 < k → k < N → (k - 1) / 2 = i → ¬ ltE (at' E' k) (at' E' (2 * i + 1)) from fun k hk1 hk2 hk3 => by
          have : k = 2 * i + 1 := by omega
          subst this
          unfold ltE; omega)
        have hmvq := hmv.out
        have hqq : Qb wr g (.slice A n c) m := HQ'.out
        have hless2 := run_less g wr A n c (Blk.cell hqq 0)
        have hcl2 := fun iv kv h1 h2 => less_any A n c base (2 * i + 1) i iv kv E' wr HM'.out HL'.out hn2 h1 h2 (by omega) (by omega)
        obtain ⟨b2, hb2⟩ : ∃ b, b = ltB (at' E' (2 * i + 1)) (at' E' i) := ⟨_, rfl⟩
        rw [← hb2] at hcl2
        have HB2 := Lib.hid hb2
        have HCL2 := Lib.hid hcl2
        have HMVQ := Lib.hid hmvq
        clear hb2 hcl2 hqq hmvq
        go_wp2_with fail
        refine (HCL2.out _ _ (by omega) (by omega)).mono ?_
        rintro e w3 ⟨rfl, q3, rfl⟩
        cases b2 with
        | false =>
          have hno := Lib.hid (show ∀ k, 0 < k → k < N → (k - 1) / 2 = i → ¬ ltE (at' E' k) (at' E' i) from fun k hk1 hk2 hk3 => ge_trans (hmin.out k hk1 hk2 hk3) (of_decide_eq_false HB2.out.symm))
          clear hless2
          go_wp2_with fail
          go_ret
          exact HEND.out hno.out _ (HMVQ.out.drewN q3)
        | true =>
          have hlt := of_decide_eq_true HB2.out.symm
          have hq4 : Qb (wr.drewN q3) g (.slice A n c) m := Blk.drewN HQ'.out q3
          have hswap := run_swap g (wr.drewN q3) A n c (Blk.cell hq4 0)
          have hsc := fun iv kv h1 h2 => swap_any A n c base i (2 * i + 1) iv kv E' (wr.drewN q3) (HM'.out.nob ((Fr.refl _ _).drewN q3)) HL'.out hn2 h1 h2 (by omega) (by omega) (by omega)
          have HSC := Lib.hid hsc
          have hds := Lib.hid (down_step (j := 2 * i + 1) hu.out.1 (by omega) (by omega) (by omega) (by rw [HL'.out]; exact hN) hlt hmin.out)
          have hsa := Lib.hid (fun k => swap_at (E := E') (i := i) (j := 2 * i + 1) (by rw [HL'.out]; omega) (by rw [HL'.out]; omega) k)
          clear hless2 hq4 hsc hlt
          go_wp2_with fail
          refine (HSC.out _ _ (by omega) (by omega)).mono ?_
          rintro e w5 ⟨rfl, hmv5⟩
          have HMV5 := Lib.hid ((HMVQ.out.drewN q3).trans hmv5)
          clear hmv5 hswap
          go_wp2_with fail
          go_roundw
          case rel =>
            refine ⟨2 * i + 1, swapE E' i (2 * i + 1), by congr 1 <;> omega, by omega, by omega, HMV5, Lib.hid ⟨hds.out.1, fun _ => hds.out.2, fun h => by omega⟩, Lib.hid fun k hk2 => ?_⟩
            rw [hsa.out k, if_neg (by omega), if_neg (by omega)]
            exact hk.out k hk2
          case measure => simp [intOf]; omega
end Go.Proofs.Ythdenkmmiadeiaa
