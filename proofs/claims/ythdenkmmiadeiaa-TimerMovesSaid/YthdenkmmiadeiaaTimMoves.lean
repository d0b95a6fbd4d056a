/- Layer 6's law TimerMoves, walked. -/
import Derived.Test.YthdenkmmiadeiaaTimDoes
namespace Go.Proofs.Ythdenkmmiadeiaa
set_option linter.unusedSimpArgs false
set_option linter.unusedVariables false
open Go.RowKit

/-- Two queues apart. -/
def Two (w : World) (base g mb : Nat) (v : Value) (E : List Ent) (L : List Tm) (gc mc : Nat) (vc : Value) (Ec : List Ent) (M : List Tm) : Prop :=
  QS w base g mb v E L ∧ QS w base gc mc vc Ec M ∧ ∀ b, qfoot gc mc vc Ec b → ¬ qfoot g mb v E b
section
variable {w w' : World} {base g mb : Nat} {v : Value} {E : List Ent} {L L' : List Tm} {gc mc : Nat} {vc : Value} {Ec : List Ent} {M : List Tm}
theorem Two.start (h : QS w base g mb v E L) (hf : Fr nob w w') (hb : base ≤ w.heap.size) (k : QS w' w.heap.size gc mc vc Ec M) : Two w' base g mb v E L gc mc vc Ec M :=
  ⟨h.keep hf, k.base_le hb, fun b hb hb' => by
    have h1 := k.ge hb
    have h2 := h.lt hb'
    omega⟩
theorem Two.keep (h : Two w base g mb v E L gc mc vc Ec M) (hf : Fr nob w w') : Two w' base g mb v E L gc mc vc Ec M := ⟨h.1.keep hf, h.2.1.keep hf, h.2.2⟩
theorem Two.step (h : Two w base g mb v E L gc mc vc Ec M) (hs : QStep w base g mb v E L' w') : ∃ v' E', Two w' base g mb v' E' L' gc mc vc Ec M ∧ Fr (fun b => base ≤ b) w w' := by
  obtain ⟨v', E', hq, hf, hb⟩ := hs
  refine ⟨v', E', ⟨hq, h.2.1.fr hf h.2.2, fun b hc hb' => ?_⟩, foot_new h.1 hf⟩
  rcases hb b hb' with h1 | h1
  · exact h.2.2 b hc h1
  · have h2 := h.2.1.lt hc
    omega
end
theorem has_drop_same (L : List Tm) (id : Int) : hasS (dropS L id) id = false := by
  refine Bool.eq_false_iff.2 fun hh => ?_
  obtain ⟨x, hx, he⟩ := has_iff.1 hh
  exact (drop_mem.1 hx).2 he
/-- Setting a number. -/
theorem set_told (L : List Tm) (hg : Good L) (id a : Int) (hid : 0 ≤ id) (ha : 0 ≤ a ∧ a ≤ 65535) :
    (setErr L id a = 17 ∧ hasS L id = false ∧ 256 ≤ L.length) ∨
    (setErr L id a = 0 ∧ setS L id a = putS L id a ∧ hasS (putS L id a) id = true ∧ atS (putS L id a) id = a ∧ (hasS L id = true ∧ (putS L id a).length = L.length ∨ hasS L id = false ∧ (putS L id a).length = L.length + 1)) := by
  by_cases hfull : hasS L id = false ∧ 256 ≤ L.length
  · exact .inl ⟨by rw [setErr, if_neg (by omega), if_pos hfull], hfull.1, hfull.2⟩
  · have he : setErr L id a = 0 := by rw [setErr, if_neg (by omega), if_neg hfull]
    have hm : (id, a) ∈ putS L id a := put_mem.2 (.inl rfl)
    refine .inr ⟨he, by rw [setS, he]; rfl, has_iff.2 ⟨_, hm, rfl⟩, atS_some (put_good hg id a) hm, ?_⟩
    have hl := put_len hg (id := id) (a := a)
    cases hh : hasS L id with
    | true => exact .inl ⟨rfl, by rw [hl, hh]; rfl⟩
    | false => exact .inr ⟨rfl, by rw [hl, hh]; rfl⟩
theorem due_all {L : List Tm} (h : Legal L) : dueS L 1099511627776 = L ∧ restS L 1099511627776 = [] :=
  while_all L fun x hx => decide_eq_true (h x hx).2.2

set_option maxHeartbeats 8000000 in
set_option maxRecDepth 100000 in
theorem timerMoves_any (A : Option Addr) (n c : Nat) (lo : List (Int × Int × Int)) (id at_ : Int) (w : World) (ha : Rd w 3 A n (lo.flatMap opc)) (hw : ∀ x ∈ lo, W64 x.2.1) (hid : 0 ≤ id ∧ id ≤ 255) (hat : 0 ≤ at_ ∧ at_ ≤ 65535) (hnc : n ≤ 9223372036854775807) :
    Calls Try.prog 9 #[.slice A n c, .int .u8 id, .int .u16 at_] w fun e w' => e = .returned (.bool true) ∧ Fr nob w w' := by
  have hSure := timer_sure
  have HSU := Lib.hid hSure
  clear hSure
  by_cases hbig : 200 < n
  · go_enter Try.func9, Try.ntmps9
    go_wp2_with fail
    refine (HSU.out _).mono ?_
    rintro e w1 ⟨rfl, hf⟩
    go_wp2_with fail
    go_ret
    exact ⟨rfl, hf⟩
  have HW := Lib.hid hw
  have wi : IntKind.i64.wrap id = id := IntWalk.i64_in _ (by omega)
  have wa : IntKind.i64.wrap at_ = at_ := IntWalk.i64_in _ (by omega)
  have hidw : W64 id := w64_of (by omega)
  clear hw
  go_enter Try.func9, Try.ntmps9
  go_wp2_with fail
  refine (tnew_any w).mono ?_
  rintro e w1 ⟨rfl, hq1, hf1⟩
  obtain ⟨g, hg⟩ : ∃ g, g = w.heap.size + 1 := ⟨_, rfl⟩
  rw [← hg] at hq1 ⊢
  have HQ1 := Lib.hid hq1
  have HF1 := Lib.hid hf1
  clear hq1 hf1 hg
  go_wp2_with fail
  go_loopw [8] (fun iv wr => ∃ (k : Nat) (v1 : Value) (E1 : List Ent) (L : List Tm), iv = .int .i64 k ∧ k ≤ n ∧ Hid (QS wr w.heap.size g w.heap.size v1 E1 L) ∧ Hid (Legal L) ∧ Hid (Fr nob w wr)) (fun iv _ => n - (intOf iv).toNat)
  case atStart => exact ⟨0, _, [], [], rfl, by omega, HQ1, Lib.hid legal_nil, HF1⟩
  case round =>
    clear HQ1 HF1
    obtain ⟨k, v1, E1, L, rfl, hk, hq, hlg, hf⟩ := hrel
    by_cases hlt : k < n
    · obtain ⟨b, o, x, rfl, hb, hx, -, hc1, hc2⟩ := ops_at ha hlt
      have hi0 : (0 : Int) ≤ (k : Int) ∧ (k : Int) < (n : Int) := ⟨by omega, by omega⟩
      have hxw := HW.out x (List.mem_of_getElem? hx)
      obtain ⟨xk, xi, xa⟩ := x
      dsimp only at hc1 hc2 hxw
      have hcl : ∀ V, Fr nob w V → V.cell? ⟨b, o + k * 3 + 1, none⟩ = some (.int .i64 xi) ∧ V.cell? ⟨b, o + k * 3 + 2, none⟩ = some (.int .i64 xa) := fun V h =>
        ⟨(h.cell (p := ⟨b, _, none⟩) hb (fun h => h)).trans hc1, (h.cell (p := ⟨b, _, none⟩) hb (fun h => h)).trans hc2⟩
      have HCL := Lib.hid hcl
      have hst := Lib.hid (fun V (hV : Fr nob wr V) => qset_any V _ g _ v1 E1 L xi xa (hq.out.keep hV) hxw)
      clear hx hcl hc1 hc2
      go_wp2_with fail
      refine wp_region_held_drew (S := fun w' => w'.cell? ⟨b, o + k * 3 + 1, none⟩ = some (.int .i64 xi) ∧ w'.cell? ⟨b, o + k * 3 + 2, none⟩ = some (.int .i64 xa)) (by kernel_rfl) (HCL.out _ hf.out.drew) (fun hHeld => ?_)
      first
        | (refine mix_skip 0 rfl (by kernel_rfl) (by kernel_rfl) (by kernel_rfl) (by rfl) (by assumption) (fun _ _ _ h => h) ?_)
        | (refine mix_pure 0 (v := ?_) rfl (by kernel_rfl) (by kernel_rfl) (by kernel_rfl) (by rfl) (by assumption) (fun _ _ _ h => h) ?_ ?_; rotate_left; · (intro wS hSw; (try dsimp only at hSw); go_simp; try with_reducible rfl))
      simp only [Act.put, List.setIfInBounds_toArray, List.set_cons_zero, List.set_cons_succ]
      first
        | (refine mix_skip 1 rfl (by kernel_rfl) (by kernel_rfl) (by kernel_rfl) (by rfl) (by assumption) (fun _ _ _ h => h) ?_)
        | (refine mix_pure 1 (v := ?_) rfl (by kernel_rfl) (by kernel_rfl) (by kernel_rfl) (by rfl) (by assumption) (fun _ _ _ h => h) ?_ ?_; rotate_left; · (intro wS hSw; (try dsimp only at hSw); go_simp; try with_reducible rfl))
      simp only [Act.put, List.setIfInBounds_toArray, List.set_cons_zero, List.set_cons_succ]
      first
        | (refine mix_skip 2 rfl (by kernel_rfl) (by kernel_rfl) (by kernel_rfl) (by rfl) (by assumption) (fun _ _ _ h => h) ?_)
        | (refine mix_pure 2 (v := ?_) rfl (by kernel_rfl) (by kernel_rfl) (by kernel_rfl) (by rfl) (by assumption) (fun _ _ _ h => h) ?_ ?_; rotate_left; · (intro wS hSw; (try dsimp only at hSw); go_simp; try with_reducible rfl))
      simp only [Act.put, List.setIfInBounds_toArray, List.set_cons_zero, List.set_cons_succ]
      first
        | (refine mix_skip 3 rfl (by kernel_rfl) (by kernel_rfl) (by kernel_rfl) (by rfl) (by assumption) (fun _ _ _ h => h) ?_)
        | (refine mix_pure 3 (v := ?_) rfl (by kernel_rfl) (by kernel_rfl) (by kernel_rfl) (by rfl) (by assumption) (fun _ _ _ h => h) ?_ ?_; rotate_left; · (intro wS hSw; (try dsimp only at hSw); go_simp; try with_reducible rfl))
      simp only [Act.put, List.setIfInBounds_toArray, List.set_cons_zero, List.set_cons_succ]
      first
        | (refine mix_skip 4 rfl (by kernel_rfl) (by kernel_rfl) (by kernel_rfl) (by rfl) (by assumption) (fun _ _ _ h => h) ?_)
        | (refine mix_pure 4 (v := ?_) rfl (by kernel_rfl) (by kernel_rfl) (by kernel_rfl) (by rfl) (by assumption) (fun _ _ _ h => h) ?_ ?_; rotate_left; · (intro wS hSw; (try dsimp only at hSw); go_simp; try with_reducible rfl))
      simp only [Act.put, List.setIfInBounds_toArray, List.set_cons_zero, List.set_cons_succ]
      first
        | (refine mix_skip 5 rfl (by kernel_rfl) (by kernel_rfl) (by kernel_rfl) (by rfl) (by assumption) (fun _ _ _ h => h) ?_)
        | (refine mix_pure 5 (v := ?_) rfl (by kernel_rfl) (by kernel_rfl) (by kernel_rfl) (by rfl) (by assumption) (fun _ _ _ h => h) ?_ ?_; rotate_left; · (intro wS hSw; (try dsimp only at hSw); go_simp; try with_reducible rfl))
      simp only [Act.put, List.setIfInBounds_toArray, List.set_cons_zero, List.set_cons_succ]
      first
        | (refine mix_skip 6 rfl (by kernel_rfl) (by kernel_rfl) (by kernel_rfl) (by rfl) (by assumption) (fun _ _ _ h => h) ?_)
        | (refine mix_pure 6 (v := ?_) rfl (by kernel_rfl) (by kernel_rfl) (by kernel_rfl) (by rfl) (by assumption) (fun _ _ _ h => h) ?_ ?_; rotate_left; · (intro wS hSw; (try dsimp only at hSw); go_simp; try with_reducible rfl))
      simp only [Act.put, List.setIfInBounds_toArray, List.set_cons_zero, List.set_cons_succ]
      first
        | (refine mix_skip 7 rfl (by kernel_rfl) (by kernel_rfl) (by kernel_rfl) (by rfl) (by assumption) (fun _ _ _ h => h) ?_)
        | (refine mix_pure 7 (v := ?_) rfl (by kernel_rfl) (by kernel_rfl) (by kernel_rfl) (by rfl) (by assumption) (fun _ _ _ h => h) ?_ ?_; rotate_left; · (intro wS hSw; (try dsimp only at hSw); go_simp; try with_reducible rfl))
      simp only [Act.put, List.setIfInBounds_toArray, List.set_cons_zero, List.set_cons_succ]
      first
        | (refine mix_skip 8 rfl (by kernel_rfl) (by kernel_rfl) (by kernel_rfl) (by rfl) (by assumption) (fun _ _ _ h => h) ?_)
        | (refine mix_pure 8 (v := ?_) rfl (by kernel_rfl) (by kernel_rfl) (by kernel_rfl) (by rfl) (by assumption) (fun _ _ _ h => h) ?_ ?_; rotate_left; · (intro wS hSw; (try dsimp only at hSw); go_simp; try with_reducible rfl))
      simp only [Act.put, List.setIfInBounds_toArray, List.set_cons_zero, List.set_cons_succ]
      first
        | (refine mix_skip 9 rfl (by kernel_rfl) (by kernel_rfl) (by kernel_rfl) (by rfl) (by assumption) (fun _ _ _ h => h) ?_)
        | (refine mix_pure 9 (v := ?_) rfl (by kernel_rfl) (by kernel_rfl) (by kernel_rfl) (by rfl) (by assumption) (fun _ _ _ h => h) ?_ ?_; rotate_left; · (intro wS hSw; (try dsimp only at hSw); go_simp; try with_reducible rfl))
      simp only [Act.put, List.setIfInBounds_toArray, List.set_cons_zero, List.set_cons_succ]
      first
        | (refine mix_skip 10 rfl (by kernel_rfl) (by kernel_rfl) (by kernel_rfl) (by rfl) (by assumption) (fun _ _ _ h => h) ?_)
        | (refine mix_pure 10 (v := ?_) rfl (by kernel_rfl) (by kernel_rfl) (by kernel_rfl) (by rfl) (by assumption) (fun _ _ _ h => h) ?_ ?_; rotate_left; · (intro wS hSw; (try dsimp only at hSw); go_simp; try with_reducible rfl))
      simp only [Act.put, List.setIfInBounds_toArray, List.set_cons_zero, List.set_cons_succ]
      refine mix_one 11 rfl (by kernel_rfl) (fun K hK => ?_)
      go_simp
      refine (hst.out _ (Fr.refl nob wr).drew).mono ?_
      rintro e w2 ⟨rfl, hs2⟩
      obtain ⟨v2, E2, hq2, hf2⟩ := hs2.old hf.out.drew (hq.out.keep (Fr.refl nob wr).drew)
      have HQ2 := Lib.hid hq2
      have HF2 := Lib.hid hf2
      clear hq2 hf2 hs2
      refine hK.out _ _ (HCL.out _ HF2.out) (fun hHeld0 => ?_)
      clear hK K
      try simp only [Act.put, List.setIfInBounds_toArray, List.set_cons_zero, List.set_cons_succ]
      refine wpAnyH_done (by kernel_rfl) ?_ _
      go_wp2_with fail
      go_roundw
      case rel => exact ⟨k + 1, v2, E2, _, by go_num, by omega, HQ2, Lib.hid (legal_set hlg.out xi xa), HF2⟩
      case measure => simp [intOf]; omega
    · obtain rfl : k = n := by omega
      have hlen := Lib.hid (qlen_any wr _ g _ v1 E1 L hq.out)
      have hwh := Lib.hid (qwhen_any wr _ g _ v1 E1 L id hq.out hidw)
      have hll : L.length ≤ 256 := hq.out.le
      go_wp2_with fail
      refine hlen.out.mono ?_
      rintro e w2 ⟨rfl, rfl⟩
      go_wp2_with fail
      refine hwh.out.mono ?_
      rintro e w3 ⟨rfl, hf3⟩
      have hcln := Lib.hid (qclone_any w3 _ g _ v1 E1 L (hq.out.keep hf3) hlg.out)
      have HQ3 := Lib.hid (hq.out.keep hf3)
      have HF3 := Lib.hid (hf.out.trans hf3 (fun _ _ h => h))
      clear hf3
      go_wp2_with fail
      refine hcln.out.mono ?_
      rintro e w4 ⟨gc, mc, vc, Ec, rfl, hqc, hf4⟩
      have HT4 := Lib.hid (Two.start HQ3.out hf4 HF3.out.size hqc)
      have HF4 := Lib.hid (HF3.out.trans hf4 (fun _ _ h => h))
      have hset := Lib.hid (qset_any w4 _ g _ v1 E1 L id at_ HT4.out.1 hidw)
      have hstold := set_told L HT4.out.1.good id at_ hid.1 hat
      obtain ⟨er, her⟩ : ∃ er, er = setErr L id at_ := ⟨_, rfl⟩
      obtain ⟨hs, hhs⟩ : ∃ hs, hs = hasS L id := ⟨_, rfl⟩
      obtain ⟨ll, hll'⟩ : ∃ ll, ll = L.length := ⟨_, rfl⟩
      obtain ⟨t0, ht0⟩ : ∃ t, t = atS L id := ⟨_, rfl⟩
      rw [← her] at hset hstold
      rw [← hhs, ← hll'] at hstold
      rw [← hhs, ← hll', ← ht0]
      rw [← hll'] at hll
      have HLL := Lib.hid hll'
      clear hf4 hqc her hhs hll' ht0 hlen hwh hcln hq hf
      rcases hstold with ⟨rfl, rfl, h256⟩ | ⟨rfl, hss, hps, hpa, hpl⟩
      · have h256' : decide ((256 : Int) ≤ (ll : Int)) = true := decide_eq_true (by omega)
        go_wp2_with fail
        refine hset.out.mono ?_
        rintro e w5 ⟨rfl, hs5⟩
        obtain ⟨v5, E5, ht5, hf5⟩ := HT4.out.step hs5
        have HF5 := Lib.hid (HF4.out.newer hf5 (fun i hi => hi))
        clear hs5 ht5 hf5 hset
        go_wp2_with fail
        refine (HSU.out _).mono ?_
        rintro e w6 ⟨rfl, hf6⟩
        go_wp2_with fail
        go_ret
        exact ⟨rfl, HF5.out.trans hf6 (fun _ _ h => h)⟩
      · have hlg5 := Lib.hid (show Legal (putS L id at_) by rw [← hss]; exact legal_set hlg.out id at_)
        have hset5 : Hid (Calls Try.prog 35 #[.pointer (some ⟨g, 0, none⟩), .int .i64 id, .int .i64 at_] w4 fun e w' => e = .returned (.int .i64 0) ∧ QStep w4 w.heap.size g w.heap.size v1 E1 (putS L id at_) w') := Lib.hid (by
          have := hset.out
          rw [hss] at this
          exact this)
        obtain ⟨P, hP⟩ : ∃ P, P = putS L id at_ := ⟨_, rfl⟩
        rw [← hP] at hset5 hps hpa hpl hlg5
        clear hset hss hP
        go_wp2_with fail
        refine hset5.out.mono ?_
        rintro e w5 ⟨rfl, hs5⟩
        obtain ⟨v5, E5, ht5, hf5⟩ := HT4.out.step hs5
        have HF5 := Lib.hid (HF4.out.newer hf5 (fun i hi => hi))
        have HT5 := Lib.hid ht5
        have hw5 := qwhen_any w5 _ g _ v5 E5 P id ht5.1 hidw
        rw [hps, hpa] at hw5
        have HW5 := Lib.hid hw5
        clear hs5 ht5 hf5 hset5 hw5
        go_wp2_with fail
        refine HW5.out.mono ?_
        rintro e w6 ⟨rfl, hf6⟩
        have HT6 := Lib.hid (HT5.out.keep hf6)
        have HF6 := Lib.hid (HF5.out.trans hf6 (fun _ _ h => h))
        have hlen6 := Lib.hid (qlen_any w6 _ g _ v5 E5 P HT6.out.1)
        have hlc6 := qlen_any w6 _ gc mc vc Ec L HT6.out.2.1
        rw [← HLL.out] at hlc6
        have HLC6 := Lib.hid hlc6
        obtain ⟨pl, hpl'⟩ : ∃ pl, pl = P.length := ⟨_, rfl⟩
        rw [← hpl'] at hpl hlen6
        have hneq : (at_ == at_) = true := by simp
        have hllq : ((ll : Int) == (ll : Int)) = true := by simp
        clear hf6 hlc6 HW5
        have hdr := qdrop_any w6 _ g _ v5 E5 P id HT6.out.1 hidw
        rw [hps] at hdr
        obtain ⟨D, hD⟩ : ∃ D, D = dropS P id := ⟨_, rfl⟩
        have hDn : hasS D id = false := by rw [hD]; exact has_drop_same P id
        have HDL := Lib.hid (show Legal D by rw [hD]; exact legal_drop hlg5.out id)
        rw [← hD] at hdr
        have HDR := Lib.hid hdr
        have HDN := Lib.hid hDn
        have hneq1 : ((ll : Int) == (ll : Int) + 1) = false := by rw [beq_eq_false_iff_ne]; omega
        have hneq2 : ((ll : Int) + 1 == (ll : Int)) = false := by rw [beq_eq_false_iff_ne]; omega
        have hneq3 : ((ll : Int) + 1 == (ll : Int) + 1) = true := by simp
        clear hdr hD hDn hpl' hps hpa
        rcases hpl with ⟨rfl, rfl⟩ | ⟨rfl, rfl⟩
        all_goals
          go_wp2_with fail
          refine hlen6.out.mono ?_
          rintro e w7 ⟨rfl, rfl⟩
          go_wp2_with fail
          refine hlen6.out.mono ?_
          rintro e w7 ⟨rfl, rfl⟩
          go_wp2_with fail
          refine HLC6.out.mono ?_
          rintro e w7 ⟨rfl, rfl⟩
          go_wp2_with fail
          refine HDR.out.mono ?_
          rintro e w8 ⟨rfl, hs8⟩
          obtain ⟨v8, E8, ht8, hf8⟩ := HT6.out.step hs8
          have HF8 := Lib.hid (HF6.out.newer hf8 (fun i hi => hi))
          have HT8 := Lib.hid ht8
          have hdr2 := qdrop_any w8 _ g _ v8 E8 D id ht8.1 hidw
          rw [HDN.out, drop_none HDN.out] at hdr2
          have HDR2 := Lib.hid hdr2
          clear hs8 ht8 hf8 hdr2
          go_wp2_with fail
          refine HDR2.out.mono ?_
          rintro e w9 ⟨rfl, hs9⟩
          obtain ⟨v9, E9, ht9, hf9⟩ := HT8.out.step hs9
          have HF9 := Lib.hid (HF8.out.newer hf9 (fun i hi => hi))
          have HT9 := Lib.hid ht9
          have hdue := Lib.hid (qdue_any w9 _ g _ v9 E9 D 1099511627776 ht9.1)
          unfold duePost at hdue
          rw [(due_all HDL.out).1, (due_all HDL.out).2] at hdue
          clear hs9 ht9 hf9
          go_wp2_with fail
          refine hdue.out.mono ?_
          rintro e w10 ⟨A10, c10, rfl, hown, hs10⟩
          obtain ⟨v10, E10, ht10, hf10⟩ := HT9.out.step hs10
          have HF10 := Lib.hid (HF9.out.newer hf10 (fun i hi => hi))
          have HT10 := Lib.hid ht10
          have HO10 := Lib.hid hown
          have hDl : D.length ≤ 256 := HT8.out.1.le
          have hlen10 := qlen_any w10 _ g _ v10 E10 [] ht10.1
          have hlc10 := qlen_any w10 _ gc mc vc Ec L ht10.2.1
          rw [← HLL.out] at hlc10
          have HL10 := Lib.hid hlen10
          have HLC10 := Lib.hid hlc10
          obtain ⟨dn, hdn⟩ : ∃ dn, dn = D.length := ⟨_, rfl⟩
          rw [← hdn] at HO10 hDl ⊢
          clear hs10 ht10 hf10 hown hlen10 hlc10 hdn
          go_wp2_with fail
          go_loop [17] (fun iv => ∃ j : Nat, j ≤ dn ∧ iv = .int .i64 j) (fun iv => dn - (intOf iv).toNat)
          case atStart => exact ⟨0, by omega, rfl⟩
          case round =>
            obtain ⟨j, hj, rfl⟩ := hrel
            by_cases hjd : j < dn
            · obtain ⟨db, do', rfl, hdb, hdc⟩ := (Rd.of_own HO10.out).num (i := j) hjd
              have hdl := (Rd.of_own HO10.out).numlen
              obtain ⟨y, hy⟩ : ∃ y, y = (D.map (·.1)).getD j 0 := ⟨_, rfl⟩
              have hne : (y == id) = false := by
                rw [beq_eq_false_iff_ne]
                intro he
                have hm : y ∈ D.map (·.1) := by
                  rw [hy, List.getD_eq_getElem?_getD, List.getElem?_eq_getElem (by omega)]
                  exact List.getElem_mem _
                obtain ⟨x, hx, hxe⟩ := List.mem_map.1 hm
                have := has_iff.2 ⟨x, hx, hxe.trans he⟩
                rw [HDN.out] at this
                cases this
              rw [← hy] at hdc
              have hi0 : (0 : Int) ≤ (j : Int) ∧ (j : Int) < (dn : Int) := ⟨by omega, by omega⟩
              clear hy hdl
              go_wp2_with fail
              go_round
              case rel => exact ⟨j + 1, by omega, by go_num⟩
              case measure => simp [intOf]; omega
            · obtain rfl : j = dn := by omega
              go_wp2_with fail
              refine HL10.out.mono ?_
              rintro e w11 ⟨rfl, rfl⟩
              go_wp2_with fail
              refine HLC10.out.mono ?_
              rintro e w11 ⟨rfl, rfl⟩
              go_wp2_with fail
              refine (HSU.out _).mono ?_
              rintro e w12 ⟨rfl, hf12⟩
              go_wp2_with fail
              go_ret
              exact ⟨rfl, HF10.out.trans hf12 (fun _ _ h => h)⟩
end Go.Proofs.Ythdenkmmiadeiaa
