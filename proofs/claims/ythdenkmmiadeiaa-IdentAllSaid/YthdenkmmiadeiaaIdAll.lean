/- Layer 21's law IdentAll, walked. -/
import Derived.Test.YthdenkmmiadeiaaIdOne
namespace Go.Proofs.Ythdenkmmiadeiaa
set_option linter.unusedSimpArgs false
set_option linter.unusedVariables false
open Go.RowKit

set_option maxHeartbeats 8000000 in
set_option maxRecDepth 100000 in
theorem identAll_any (A : Option Addr) (n c : Nat) (L : List Ob) (sort : Int) (w : World) (hO : Obs w A n L) (hn : n ≤ c) (hc : c ≤ 9223372036854775807) (h8 : ∀ x ∈ L, bytes8 x.d) :
    Calls Try.prog 6 #[.slice A n c, .int .i64 sort] w fun e w' => e = .returned (.bool true) ∧ Fr nob w w' := by
  obtain ⟨S, hS⟩ : ∃ S, S = L.map Ob.s := ⟨_, rfl⟩
  have hS8 : ∀ x ∈ S, bytes8 x.2 := fun x hx => by
    rw [hS] at hx
    obtain ⟨y, hy, rfl⟩ := List.mem_map.1 hx
    exact h8 y hy
  have hSn : S.length = n := by rw [hS, List.length_map, hO.len]
  have HS8 := Lib.hid hS8
  have HS := Lib.hid hS
  have HSN := Lib.hid hSn
  clear hS8 hS hSn
  go_enter Try.func6, Try.ntmps6
  go_wp2_with fail
  refine (few_any A n c L _ hO hn hc).mono ?_
  rintro e w1 ⟨fb, rfl, hf1, hfew⟩
  cases fb with
  | false =>
    go_wp2_with (go_at_call 12; refine (ident_sure _).mono ?_; rintro e w' ⟨rfl, hf⟩)
    go_ret
    exact ⟨rfl, hf1.trans hf (fun _ _ h => h)⟩
  | true =>
    have hm140 := hfew rfl
    clear hfew
    have hans := fun (V : World) (hV : Fr nob w V) B d (hr : Rd V 1 B 3 (nums .u8 d)) (hd : bytes8 d) => ident_answer A n c L B 3 3 d V (hO.nob hV) hn hc hm140 hr hd (by omega) (by omega)
    rw [← HS.out] at hans
    have HANS := Lib.hid hans
    clear hans
    go_wp2_with fail
    have hall := ident_all A n c L sort w1 (hO.nob hf1) hn hc hm140 h8
    rw [← HS.out] at hall
    refine hall.mono ?_
    clear hall
    rintro e w2 ⟨Am, nm, cm, Lm, rfl, hLm, hOm, hnm, hcm, hf2⟩
    have hlm := hOm.len
    have HLM := Lib.hid hLm
    have HLMN := Lib.hid hlm
    clear hLm hlm
    have hf02 := hf1.trans hf2 (fun _ _ h => h)
    obtain ⟨cnt0, hcnt0⟩ : ∃ cnt0, cnt0 = pcs (allS S sort) := ⟨_, rfl⟩
    rw [← hcnt0]
    have HC0 := Lib.hid hcnt0
    clear hcnt0
    go_wp2_with fail
    refine (right_any A n c L _ (hO.nob hf02) hn hc).mono ?_
    rintro e w0 ⟨rfl, hf3⟩
    rw [← HS.out]
    have hf03 := hf02.trans hf3 (fun _ _ h => h)
    have hOm3 := hOm.nob hf3
    clear hf1 hf2 hf3 hOm
    by_cases hok : rightS S = true ∧ (sort = 1 ∨ sort = 2 ∨ sort = 3)
    rotate_left
    · have hz : allS S sort = [] := by
        rw [allS, if_neg]
        intro h
        simp only [allIs, Bool.and_eq_true, inB, decide_eq_true_eq] at h
        exact hok ⟨h.1, by omega⟩
      have hn0 : nm = 0 := by rw [← HLMN.out]; have := congrArg List.length HLM.out; rw [hz] at this; simpa using this
      have hc0 : cnt0 = 0 := by rw [HC0.out, hz, pcs_nil]
      subst hn0
      subst hc0
      cases hrt : rightS S with
      | false =>
        clear hz hok hrt
        go_wp2_with (go_at_call 12; refine (ident_sure _).mono ?_; rintro e w' ⟨rfl, hf⟩)
        go_ret
        exact ⟨rfl, hf03.trans hf (fun _ _ h => h)⟩
      | true =>
        have hs : sort < 1 ∨ (1 ≤ sort ∧ 3 < sort) := by
          rcases Int.lt_or_le sort 1 with h | h
          · exact .inl h
          · rcases Int.lt_or_le 3 sort with h' | h'
            · exact .inr ⟨h, h'⟩
            · exact absurd ⟨hrt, by omega⟩ hok
        clear hz hok hrt
        rcases hs with hs | ⟨hs, hs'⟩
        all_goals
          go_wp2_with (go_at_call 12; refine (ident_sure _).mono ?_; rintro e w' ⟨rfl, hf⟩)
          go_ret
          exact ⟨rfl, hf03.trans hf (fun _ _ h => h)⟩
    · obtain ⟨hrt, hs⟩ := hok
      rw [hrt]
      have HRT := Lib.hid hrt
      have hsb : 1 ≤ sort ∧ sort ≤ 3 := by omega
      obtain ⟨T, hT⟩ : ∃ T, T = ofS S sort := ⟨_, rfl⟩
      have hib : inB sort 1 3 = true := by simp only [inB, Bool.and_eq_true, decide_eq_true_eq]; exact hsb
      have hal : allS S sort = T := by rw [allS, allIs, HRT.out, hib, hT]; rfl
      have hpc : ∀ k, k < T.length → ∃ b q f, Piece S sort T k b q f := fun k hk => by rw [hT] at hk ⊢; exact piece_at HRT.out hs hk
      have hT3 : 3 ≤ T.length := by rw [hT]; exact sorts_three HRT.out hs
      have hTn : T.length ≤ n := by
        rw [hT, ofS, if_neg (by omega), ← HSN.out]
        exact List.length_filter_le _ _
      have hT0 : (T.getD 0 (0, [])).1 = 0 := by rw [hT]; exact of_first HRT.out hs
      have hTin : ∀ x ∈ T, x ∈ S := fun x hx => ((of_sub hs).1 (by rw [← hT]; exact hx)).1
      have hTp : T.Pairwise (fun a b => a.1 < b.1) := by
        have hr := HRT.out
        rw [rightS, Bool.and_eq_true] at hr
        rw [hT]
        exact of_pair (right_pair hr.1).1 sort
      have hTg : ∀ k, k < T.length → T.getD k (0, []) ∈ T := fun k hk => by
        have e : T.getD k (0, []) = T[k] := by simp [List.getD_eq_getElem?_getD, List.getElem?_eq_getElem hk]
        rw [e]
        exact List.getElem_mem hk
      have hTid : ∀ k, k < T.length → 0 ≤ (T.getD k (0, [])).1 ∧ (T.getD k (0, [])).1 ≤ 255 := fun k hk => by
        have := right_in HRT.out _ (hTin _ (hTg k hk))
        omega
      have hTf : ∀ k, k < T.length → findS S (T.getD k (0, [])).1 = some (T.getD k (0, [])) := fun k hk => sorts_find HRT.out hs (by rw [← hT]; exact hTg k hk)
      have hTlt : ∀ j k, j < k → k < T.length → (T.getD j (0, [])).1 < (T.getD k (0, [])).1 := fun j k hjk hk => by
        have e1 : T.getD k (0, []) = T[k] := by simp [List.getD_eq_getElem?_getD, List.getElem?_eq_getElem hk]
        have e2 : T.getD j (0, []) = T[j] := by simp [List.getD_eq_getElem?_getD, List.getElem?_eq_getElem (show j < T.length by omega)]
        rw [e1, e2]
        exact List.pairwise_iff_getElem.1 hTp j k (by omega) hk hjk
      have hxl : ∀ x ∈ L, x.n ≤ 240 := fun x hx => by
        have h1 := right_in HRT.out x.s (by rw [HS.out]; exact List.mem_map.2 ⟨x, hx, rfl⟩)
        have h2 := (hO.ok x hx).len
        simp only [Ob.s] at h1
        omega
      have HAL := Lib.hid hal
      have HPC := Lib.hid hpc
      have HT0 := Lib.hid hT0
      have HTID := Lib.hid hTid
      have HTF := Lib.hid hTf
      have HTLT := Lib.hid hTlt
      have HT := Lib.hid hT
      have hws : IntKind.u8.wrap sort = sort := by simp [IntKind.wrap, IntKind.bits, IntKind.signed]; omega
      have hws' : sort % 256 = sort := by omega
      have hss : (sort != sort) = false := by rw [bne_self_eq_false]
      clear hT hal hpc hT0 hTid hTin hTp hTg hTf hTlt hrt
      have HSORT := Lib.hid hs
      clear hs
      go_wp2_with fail
      go_loopw [7, 8, 9] (fun v iv mv wr => ∃ (k cnt : Nat) (Lk : List Ob) (id : Int), iv = .int .i64 id ∧ mv = .int .i64 cnt ∧ k < T.length ∧ id = (T.getD k (0, [])).1 ∧ OwnObs wr w0.heap.size v k Lk ∧ Hid (Lk.map Ob.s = T.take k) ∧ Hid (pcs T = cnt + pcs (T.drop k)) ∧ cnt ≤ k ∧ Fr nob w0 wr) (fun _ _ mv _ => T.length - (intOf mv).toNat)
      case atStart => exact ⟨0, 0, [], 0, rfl, rfl, by omega, HT0.out.symm, ⟨World.ownsRow_nil _ _ _ _, by simp⟩, Lib.hid rfl, Lib.hid (by simp), by omega, Fr.refl _ _⟩
      case round =>
        clear hf02
        obtain ⟨k, cnt, Lk, id, rfl, rfl, hk, hid, hown, hLk, hcnt, hck, hf0⟩ := hrel
        have hf := hf03.trans hf0 (fun _ _ h => h)
        have HID := Lib.hid hid
        obtain ⟨b, q, f, hP⟩ := HPC.out k hk
        have hnb : 0 ≤ id ∧ id ≤ 255 := by rw [hid]; exact HTID.out k hk
        have hans : answerS S [14, sort, id] = (b, 0) := by rw [hid]; exact hP.ans
        have HPX := Lib.hid hP
        have hwx : id % 256 = id := by omega
        have hbb := hP.bytes HS8.out
        have hbs := hP.short
        have ha := HANS.out (wr.alloc (.cells #[.int .u8 14, .int .u8 sort, .int .u8 id] 5)) (hf.alloc _) (some ⟨wr.heap.size, 0, none⟩) [14, sort, id] (rd3 wr 14 sort id) (three8 _ _ _ (by omega))
        rw [hans] at ha
        have HA := Lib.hid ha
        clear hans ha hid hP
        go_wp2_with fail
        refine HA.out.mono ?_
        rintro e w3 ⟨A3, k3, c3, rfl, hr3, hk3, hc3, hn3, hf3⟩
        have hk3l : b.length = k3 := hr3.numlen
        have HK3 := Lib.hid hk3l
        clear hk3l
        have hfw3 := (hf.alloc (.cells #[.int .u8 14, .int .u8 sort, .int .u8 id] 5)).trans hf3 (fun _ _ h => h)
        have hr3w : Fr nob wr w3 := ((Fr.refl nob wr).alloc (.cells #[.int .u8 14, .int .u8 sort, .int .u8 id] 5)).trans hf3 (fun _ _ h => h)
        go_wp2_with fail
        have hrd := ident_read A3 k3 c3 b w3 hr3 hbb hk3 hc3
        rw [readPost, HPX.out.read, show errR (some q) = 0 from rfl] at hrd
        refine hrd.mono ?_
        clear hrd
        rintro e w4 ⟨p, rfl, hpok, hps, hpx, hf4, hpo⟩
        obtain ⟨pc, pl, pm, px, pA, pn, pcp, pL⟩ := p
        rw [Pt.val, Pt.cells]
        dsimp only at hpo hpx ⊢
        have HPS := Lib.hid hps
        obtain rfl : pc = sort := (congrArg Ps.code hps).trans HPX.out.code
        obtain rfl : pl = levelS S := (congrArg Ps.level hps).trans HPX.out.level
        have hpl := hpo.obs.len
        have HPLN := Lib.hid hpl
        have hqS : pL.map Ob.s = q.S := congrArg Ps.S hps
        have hpnf : pn = f := by
          have h2 := congrArg List.length hqS
          rw [List.length_map, hpl, HPX.out.objs, List.length_take, List.length_drop] at h2
          have := HPX.out.fits
          omega
        have HQS := Lib.hid hqS
        have HPNF := Lib.hid hpnf
        have hf1' := HPX.out.one
        have hff := HPX.out.fits
        have hpn0 : ((pn : Int) == 0) = false := by rw [beq_eq_false_iff_ne]; omega
        have hpn140 : pn ≤ 140 := by omega
        clear hps hpl hqS hpnf hpok
        have hf5 := (Fr.refl nob w4).alloc (.cells #[.int .i64 pc, .int .i64 (levelS S), .bool pm, .int .i64 px, .slice pA pn pcp] 24)
        have hbp := Blk.new w4 24 #[.int .i64 pc, .int .i64 (levelS S), .bool pm, .int .i64 px, .slice pA pn pcp]
        have hfw5 := (hfw3.trans hf4 (fun _ _ h => h)).alloc (.cells #[.int .i64 pc, .int .i64 (levelS S), .bool pm, .int .i64 px, .slice pA pn pcp] 24)
        have hr5w : Fr nob wr (w4.alloc (.cells #[.int .i64 pc, .int .i64 (levelS S), .bool pm, .int .i64 px, .slice pA pn pcp] 24)) := (hr3w.trans hf4 (fun _ _ h => h)).alloc _
        obtain ⟨w5, hw5⟩ : ∃ w5, w5 = w4.alloc (.cells #[.int .i64 pc, .int .i64 (levelS S), .bool pm, .int .i64 px, .slice pA pn pcp] 24) := ⟨_, rfl⟩
        rw [← hw5] at hf5 hbp hfw5 hr5w
        have HW5 := Lib.hid hw5
        clear hw5
        have hS5 : ∀ V, Fr nob w5 V → V.cell? ⟨w4.heap.size, 0, none⟩ = some (.int .i64 pc) ∧ V.cell? ⟨w4.heap.size, 1, none⟩ = some (.int .i64 (levelS S)) ∧ V.cell? ⟨w4.heap.size, 4, none⟩ = some (.slice pA pn pcp) := fun V h => ⟨(hbp.fr h (fun h => h)).cell 0, (hbp.fr h (fun h => h)).cell 1, (hbp.fr h (fun h => h)).cell 4⟩
        have HS5 := Lib.hid hS5
        have hlev := level_any A n c L w5.drew (hO.nob hfw5.drew) hn hc
        rw [← HS.out] at hlev
        have HLEV := Lib.hid hlev
        have hll : (levelS S != levelS S) = false := by rw [bne_self_eq_false]
        clear hS5 hlev
        go_wp2_with fail
        rw [← HW5.out]
        refine wp_region_held_drew (S := fun w' => w'.cell? ⟨w4.heap.size, 0, none⟩ = some (.int .i64 pc) ∧ w'.cell? ⟨w4.heap.size, 1, none⟩ = some (.int .i64 (levelS S)) ∧ w'.cell? ⟨w4.heap.size, 4, none⟩ = some (.slice pA pn pcp)) (by kernel_rfl) (HS5.out _ (Fr.refl nob w5).drew) (fun hHeld => ?_)
        first
          | (refine mix_skip 0 rfl (by kernel_rfl) (by kernel_rfl) (by kernel_rfl) (by rfl) (by assumption) (fun _ _ _ h => h) ?_)
          | (refine mix_pure 0 (v := ?_) rfl (by kernel_rfl) (by kernel_rfl) (by kernel_rfl) (by rfl) (by assumption) (fun _ _ _ h => h) ?_ ?_; rotate_left; · (intro wS hSw; (try dsimp only at hSw); go_simp; try with_reducible rfl))
        simp only [Act.put, List.setIfInBounds_toArray, List.set_cons_zero, List.set_cons_succ]
        first
          | (refine mix_skip 1 rfl (by kernel_rfl) (by kernel_rfl) (by kernel_rfl) (by rfl) (by assumption) (fun _ _ _ h => h) ?_)
          | (refine mix_pure 1 (v := ?_) rfl (by kernel_rfl) (by kernel_rfl) (by kernel_rfl) (by rfl) (by assumption) (fun _ _ _ h => h) ?_ ?_; rotate_left; · (intro wS hSw; (try dsimp only at hSw); go_simp; try with_reducible rfl))
        simp only [Act.put, List.setIfInBounds_toArray, List.set_cons_zero, List.set_cons_succ]
        first
          | (refine mix_skip 2 rfl (by kernel_rfl) (by kernel_rfl) (by kernel_rfl) (by rfl) (by assumption) (fun _ _ _ h => h) ?_)
          | (refine mix_pure 2 (v := ?_) rfl (by kernel_rfl) (by kernel_rfl) (by kernel_rfl) (by rfl) (by assumption) (fun _ _ _ h => h) ?_ ?_; rotate_left; · (intro wS hSw; (try dsimp only at hSw); go_simp; try with_reducible rfl))
        simp only [Act.put, List.setIfInBounds_toArray, List.set_cons_zero, List.set_cons_succ]
        first
          | (refine mix_skip 3 rfl (by kernel_rfl) (by kernel_rfl) (by kernel_rfl) (by rfl) (by assumption) (fun _ _ _ h => h) ?_)
          | (refine mix_pure 3 (v := ?_) rfl (by kernel_rfl) (by kernel_rfl) (by kernel_rfl) (by rfl) (by assumption) (fun _ _ _ h => h) ?_ ?_; rotate_left; · (intro wS hSw; (try dsimp only at hSw); go_simp; try with_reducible rfl))
        simp only [Act.put, List.setIfInBounds_toArray, List.set_cons_zero, List.set_cons_succ]
        first
          | (refine mix_skip 4 rfl (by kernel_rfl) (by kernel_rfl) (by kernel_rfl) (by rfl) (by assumption) (fun _ _ _ h => h) ?_)
          | (refine mix_pure 4 (v := ?_) rfl (by kernel_rfl) (by kernel_rfl) (by kernel_rfl) (by rfl) (by assumption) (fun _ _ _ h => h) ?_ ?_; rotate_left; · (intro wS hSw; (try dsimp only at hSw); go_simp; try with_reducible rfl))
        simp only [Act.put, List.setIfInBounds_toArray, List.set_cons_zero, List.set_cons_succ]
        first
          | (refine mix_skip 5 rfl (by kernel_rfl) (by kernel_rfl) (by kernel_rfl) (by rfl) (by assumption) (fun _ _ _ h => h) ?_)
          | (refine mix_pure 5 (v := ?_) rfl (by kernel_rfl) (by kernel_rfl) (by kernel_rfl) (by rfl) (by assumption) (fun _ _ _ h => h) ?_ ?_; rotate_left; · (intro wS hSw; (try dsimp only at hSw); go_simp; try with_reducible rfl))
        simp only [Act.put, List.setIfInBounds_toArray, List.set_cons_zero, List.set_cons_succ]
        first
          | (refine mix_skip 6 rfl (by kernel_rfl) (by kernel_rfl) (by kernel_rfl) (by rfl) (by assumption) (fun _ _ _ h => h) ?_)
          | (refine mix_pure 6 (v := ?_) rfl (by kernel_rfl) (by kernel_rfl) (by kernel_rfl) (by rfl) (by assumption) (fun _ _ _ h => h) ?_ ?_; rotate_left; · (intro wS hSw; (try dsimp only at hSw); go_simp; try with_reducible rfl))
        simp only [Act.put, List.setIfInBounds_toArray, List.set_cons_zero, List.set_cons_succ]
        first
          | (refine mix_skip 7 rfl (by kernel_rfl) (by kernel_rfl) (by kernel_rfl) (by rfl) (by assumption) (fun _ _ _ h => h) ?_)
          | (refine mix_pure 7 (v := ?_) rfl (by kernel_rfl) (by kernel_rfl) (by kernel_rfl) (by rfl) (by assumption) (fun _ _ _ h => h) ?_ ?_; rotate_left; · (intro wS hSw; (try dsimp only at hSw); go_simp; try with_reducible rfl))
        simp only [Act.put, List.setIfInBounds_toArray, List.set_cons_zero, List.set_cons_succ]
        first
          | (refine mix_skip 8 rfl (by kernel_rfl) (by kernel_rfl) (by kernel_rfl) (by rfl) (by assumption) (fun _ _ _ h => h) ?_)
          | (refine mix_pure 8 (v := ?_) rfl (by kernel_rfl) (by kernel_rfl) (by kernel_rfl) (by rfl) (by assumption) (fun _ _ _ h => h) ?_ ?_; rotate_left; · (intro wS hSw; (try dsimp only at hSw); go_simp; try with_reducible rfl))
        simp only [Act.put, List.setIfInBounds_toArray, List.set_cons_zero, List.set_cons_succ]
        first
          | (refine mix_skip 9 rfl (by kernel_rfl) (by kernel_rfl) (by kernel_rfl) (by rfl) (by assumption) (fun _ _ _ h => h) ?_)
          | (refine mix_pure 9 (v := ?_) rfl (by kernel_rfl) (by kernel_rfl) (by kernel_rfl) (by rfl) (by assumption) (fun _ _ _ h => h) ?_ ?_; rotate_left; · (intro wS hSw; (try dsimp only at hSw); go_simp; try with_reducible rfl))
        simp only [Act.put, List.setIfInBounds_toArray, List.set_cons_zero, List.set_cons_succ]
        first
          | (refine mix_skip 10 rfl (by kernel_rfl) (by kernel_rfl) (by kernel_rfl) (by rfl) (by assumption) (fun _ _ _ h => h) ?_)
          | (refine mix_pure 10 (v := ?_) rfl (by kernel_rfl) (by kernel_rfl) (by kernel_rfl) (by rfl) (by assumption) (fun _ _ _ h => h) ?_ ?_; rotate_left; · (intro wS hSw; (try dsimp only at hSw); go_simp; try with_reducible rfl))
        simp only [Act.put, List.setIfInBounds_toArray, List.set_cons_zero, List.set_cons_succ]
        first
          | (refine mix_skip 11 rfl (by kernel_rfl) (by kernel_rfl) (by kernel_rfl) (by rfl) (by assumption) (fun _ _ _ h => h) ?_)
          | (refine mix_pure 11 (v := ?_) rfl (by kernel_rfl) (by kernel_rfl) (by kernel_rfl) (by rfl) (by assumption) (fun _ _ _ h => h) ?_ ?_; rotate_left; · (intro wS hSw; (try dsimp only at hSw); go_simp; try with_reducible rfl))
        simp only [Act.put, List.setIfInBounds_toArray, List.set_cons_zero, List.set_cons_succ]
        first
          | (refine mix_skip 12 rfl (by kernel_rfl) (by kernel_rfl) (by kernel_rfl) (by rfl) (by assumption) (fun _ _ _ h => h) ?_)
          | (refine mix_pure 12 (v := ?_) rfl (by kernel_rfl) (by kernel_rfl) (by kernel_rfl) (by rfl) (by assumption) (fun _ _ _ h => h) ?_ ?_; rotate_left; · (intro wS hSw; (try dsimp only at hSw); go_simp; try with_reducible rfl))
        simp only [Act.put, List.setIfInBounds_toArray, List.set_cons_zero, List.set_cons_succ]
        first
          | (refine mix_skip 13 rfl (by kernel_rfl) (by kernel_rfl) (by kernel_rfl) (by rfl) (by assumption) (fun _ _ _ h => h) ?_)
          | (refine mix_pure 13 (v := ?_) rfl (by kernel_rfl) (by kernel_rfl) (by kernel_rfl) (by rfl) (by assumption) (fun _ _ _ h => h) ?_ ?_; rotate_left; · (intro wS hSw; (try dsimp only at hSw); go_simp; try with_reducible rfl))
        simp only [Act.put, List.setIfInBounds_toArray, List.set_cons_zero, List.set_cons_succ]
        first
          | (refine mix_skip 14 rfl (by kernel_rfl) (by kernel_rfl) (by kernel_rfl) (by rfl) (by assumption) (fun _ _ _ h => h) ?_)
          | (refine mix_pure 14 (v := ?_) rfl (by kernel_rfl) (by kernel_rfl) (by kernel_rfl) (by rfl) (by assumption) (fun _ _ _ h => h) ?_ ?_; rotate_left; · (intro wS hSw; (try dsimp only at hSw); go_simp; try with_reducible rfl))
        simp only [Act.put, List.setIfInBounds_toArray, List.set_cons_zero, List.set_cons_succ]
        first
          | (refine mix_skip 15 rfl (by kernel_rfl) (by kernel_rfl) (by kernel_rfl) (by rfl) (by assumption) (fun _ _ _ h => h) ?_)
          | (refine mix_pure 15 (v := ?_) rfl (by kernel_rfl) (by kernel_rfl) (by kernel_rfl) (by rfl) (by assumption) (fun _ _ _ h => h) ?_ ?_; rotate_left; · (intro wS hSw; (try dsimp only at hSw); go_simp; try with_reducible rfl))
        simp only [Act.put, List.setIfInBounds_toArray, List.set_cons_zero, List.set_cons_succ]
        refine mix_one 16 rfl (by kernel_rfl) (fun K hK => ?_)
        go_simp
        refine HLEV.out.mono ?_
        rintro e w6 ⟨rfl, hf6⟩
        have hf56 : Fr nob w5 w6 := ((Fr.refl nob w5).drew).trans hf6 (fun _ _ h => h)
        refine hK.out _ _ (HS5.out _ hf56) (fun hHeld0 => ?_)
        clear hK K
        try simp only [Act.put, List.setIfInBounds_toArray, List.set_cons_zero, List.set_cons_succ]
        first
          | (refine mix_skip 17 rfl (by kernel_rfl) (by kernel_rfl) (by kernel_rfl) (by rfl) (by assumption) (fun _ _ _ h => h) ?_)
          | (refine mix_pure 17 (v := ?_) rfl (by kernel_rfl) (by kernel_rfl) (by kernel_rfl) (by rfl) (by assumption) (fun _ _ _ h => h) ?_ ?_; rotate_left; · (intro wS hSw; (try dsimp only at hSw); go_simp; try with_reducible rfl))
        simp only [Act.put, List.setIfInBounds_toArray, List.set_cons_zero, List.set_cons_succ]
        first
          | (refine mix_skip 18 rfl (by kernel_rfl) (by kernel_rfl) (by kernel_rfl) (by rfl) (by assumption) (fun _ _ _ h => h) ?_)
          | (refine mix_pure 18 (v := ?_) rfl (by kernel_rfl) (by kernel_rfl) (by kernel_rfl) (by rfl) (by assumption) (fun _ _ _ h => h) ?_ ?_; rotate_left; · (intro wS hSw; (try dsimp only at hSw); go_simp; try with_reducible rfl))
        simp only [Act.put, List.setIfInBounds_toArray, List.set_cons_zero, List.set_cons_succ]
        first
          | (refine mix_skip 19 rfl (by kernel_rfl) (by kernel_rfl) (by kernel_rfl) (by rfl) (by assumption) (fun _ _ _ h => h) ?_)
          | (refine mix_pure 19 (v := ?_) rfl (by kernel_rfl) (by kernel_rfl) (by kernel_rfl) (by rfl) (by assumption) (fun _ _ _ h => h) ?_ ?_; rotate_left; · (intro wS hSw; (try dsimp only at hSw); go_simp; try with_reducible rfl))
        simp only [Act.put, List.setIfInBounds_toArray, List.set_cons_zero, List.set_cons_succ]
        first
          | (refine mix_skip 20 rfl (by kernel_rfl) (by kernel_rfl) (by kernel_rfl) (by rfl) (by assumption) (fun _ _ _ h => h) ?_)
          | (refine mix_pure 20 (v := ?_) rfl (by kernel_rfl) (by kernel_rfl) (by kernel_rfl) (by rfl) (by assumption) (fun _ _ _ h => h) ?_ ?_; rotate_left; · (intro wS hSw; (try dsimp only at hSw); go_simp; try with_reducible rfl))
        simp only [Act.put, List.setIfInBounds_toArray, List.set_cons_zero, List.set_cons_succ]
        first
          | (refine mix_skip 21 rfl (by kernel_rfl) (by kernel_rfl) (by kernel_rfl) (by rfl) (by assumption) (fun _ _ _ h => h) ?_)
          | (refine mix_pure 21 (v := ?_) rfl (by kernel_rfl) (by kernel_rfl) (by kernel_rfl) (by rfl) (by assumption) (fun _ _ _ h => h) ?_ ?_; rotate_left; · (intro wS hSw; (try dsimp only at hSw); go_simp; try with_reducible rfl))
        simp only [Act.put, List.setIfInBounds_toArray, List.set_cons_zero, List.set_cons_succ]
        first
          | (refine mix_skip 22 rfl (by kernel_rfl) (by kernel_rfl) (by kernel_rfl) (by rfl) (by assumption) (fun _ _ _ h => h) ?_)
          | (refine mix_pure 22 (v := ?_) rfl (by kernel_rfl) (by kernel_rfl) (by kernel_rfl) (by rfl) (by assumption) (fun _ _ _ h => h) ?_ ?_; rotate_left; · (intro wS hSw; (try dsimp only at hSw); go_simp; try with_reducible rfl))
        simp only [Act.put, List.setIfInBounds_toArray, List.set_cons_zero, List.set_cons_succ]
        first
          | (refine mix_skip 23 rfl (by kernel_rfl) (by kernel_rfl) (by kernel_rfl) (by rfl) (by assumption) (fun _ _ _ h => h) ?_)
          | (refine mix_pure 23 (v := ?_) rfl (by kernel_rfl) (by kernel_rfl) (by kernel_rfl) (by rfl) (by assumption) (fun _ _ _ h => h) ?_ ?_; rotate_left; · (intro wS hSw; (try dsimp only at hSw); go_simp; try with_reducible rfl))
        simp only [Act.put, List.setIfInBounds_toArray, List.set_cons_zero, List.set_cons_succ]
        first
          | (refine mix_skip 24 rfl (by kernel_rfl) (by kernel_rfl) (by kernel_rfl) (by rfl) (by assumption) (fun _ _ _ h => h) ?_)
          | (refine mix_pure 24 (v := ?_) rfl (by kernel_rfl) (by kernel_rfl) (by kernel_rfl) (by rfl) (by assumption) (fun _ _ _ h => h) ?_ ?_; rotate_left; · (intro wS hSw; (try dsimp only at hSw); go_simp; try with_reducible rfl))
        simp only [Act.put, List.setIfInBounds_toArray, List.set_cons_zero, List.set_cons_succ]
        refine wpAnyH_done (by kernel_rfl) ?_ _
        clear hHeld hHeld0
        have hbp6 := hbp.fr hf56 (fun h => h)
        have qp6 := hbp6.cell
        have zp6 := hbp6.lt
        have hfw6 := hfw5.trans hf56 (fun _ _ h => h)
        have hr6w := hr5w.trans hf56 (fun _ _ h => h)
        have hf46 := hf5.trans hf56 (fun _ _ h => h)
        have hown6 : OwnObs w6 w0.heap.size u7 k Lk := ⟨own_fr hown.1 hr6w (fun _ _ h => h), fun y hy => ⟨own_fr (hown.2 y hy).1 hr6w (fun _ _ h => h), (hown.2 y hy).2⟩⟩
        have hpo6 : OwnObs w6 w3.heap.size (.slice pA pn pcp) pn pL := ⟨own_fr hpo.1 hf46 (fun _ _ h => h), fun y hy => ⟨own_fr (hpo.2 y hy).1 hf46 (fun _ _ h => h), (hpo.2 y hy).2⟩⟩
        have hz3w : w0.heap.size ≤ w3.heap.size := (hf0.trans hr3w (fun _ _ h => h)).size
        have hrd6 := hpo6.obs.rd
        have hz6 := (hf0.trans hr6w (fun _ _ h => h)).size
        have hob6 := own_block hown6.1
        have hmore : pm = decide (k + f < T.length) := (congrArg Ps.more HPS.out).trans HPX.out.more
        have hmnew : nm ≤ cm := hnm
        cases pm with
        | false =>
          have hend : k + f = T.length := by have := of_decide_eq_false hmore.symm; omega
          clear hmore
          go_wp2_with (at_builtin; (refine app_row (P := Try.prog) (W := w6) w0.heap.size rfl _ _ _ 49 (.agg #[.int .i64 0, .slice none 0 0]) 2 32 rfl Try.underlying22 info_object rfl (by omega) u7 k (Lk.flatMap Ob.cs) pA pn pcp (pL.flatMap Ob.cs) rfl rfl (obs_one _) hown6.1 hrd6 hz6 (by omega) (by omega) ?_); intro v8 w8 hown8 hg8 hat8; go_must ((have hbp8 := hbp6.grown hg8 (fun e => (by obtain ⟨cs, hcs⟩ := hob6 _ e.symm; have h2 := hbp6; unfold Blk at h2; rw [h2] at hcs; cases hcs))); (have hf8 : Fr nob w w8 := hfw6.grown hg8 (fun k hk => .inr (Nat.le_trans hf03.size (own_at hown6.1 k hk)))); (have hf08 : Fr nob w0 w8 := (hf0.trans hr6w (fun _ _ h => h)).grown hg8 (fun k hk => .inr (own_at hown6.1 k hk))); (have hd8 : ∀ y ∈ Lk, w8.ownsRow w0.heap.size 5 1 (.slice y.A y.n y.c) y.n (nums .u8 y.d) := fun y hy => own_other (hown6.2 y hy).1 hg8 hob6 (by decide)); (have he8 : ∀ y ∈ pL, w8.ownsRow w0.heap.size 5 1 (.slice y.A y.n y.c) y.n (nums .u8 y.d) := fun y hy => own_base (own_other (hpo6.2 y hy).1 hg8 hob6 (by decide)) hz3w); (have qp8 := hbp8.cell); (have zp8 := hbp8.lt)))
          obtain ⟨A8, c8, rfl, _⟩ := own_form hown8
          have hO8w : OwnObs w8 w0.heap.size (.slice A8 (k + pn) c8) (k + pn) (Lk ++ pL) := by
            refine ⟨by rw [List.flatMap_append]; exact hown8, fun y hy => ?_⟩
            rcases List.mem_append.1 hy with hy | hy
            · exact ⟨hd8 y hy, (hown6.2 y hy).2⟩
            · exact ⟨he8 y hy, (hpo6.2 y hy).2⟩
          have hmm : (Lk ++ pL).map Ob.s = T := by
            rw [List.map_append, hLk.out, HQS.out, HPX.out.objs, ← List.take_add, hend, List.take_length]
          have hce : ((cnt0 : Int) == (cnt : Int) + 1) = true := by
            have h1 := HC0.out
            rw [HAL.out, hcnt.out, HPX.out.count, hend, List.drop_length, pcs_nil] at h1
            rw [beq_iff_eq]
            omega
          have hof := of_any A n c L pc w8 (hO.nob hf8) hn hc (fun x hx => by have := hxl x hx; omega) (by omega)
          rw [← HS.out, ← HT.out] at hof
          have HOF := Lib.hid hof
          have HMM := Lib.hid hmm
          have hO8 := hO8w.obs.nob (Fr.refl nob w8)
          have hc8 := hO8w.caps
          have hOm8 : Obs w8 Am nm Lm := hOm3.nob hf08
          clear hof hmm hend
          refine HOF.out.mono ?_
          rintro e w9 ⟨hf9, A9, n9, c9, L9, rfl, hL9, hO9, hn9, hc9, -⟩
          have HL9 := Lib.hid hL9
          clear hL9
          go_wp2_with fail
          have hs1 := same_any A8 A9 (k + pn) n9 c8 c9 (Lk ++ pL) L9 w9 (hO8.nob hf9) hO9 hc8.1 hc8.2 hn9 hc9
          rw [HMM.out, HL9.out, decide_eq_true rfl] at hs1
          refine hs1.mono ?_
          clear hs1
          rintro e w10 ⟨rfl, hf10⟩
          go_wp2_with fail
          have hs2 := same_any Am A8 nm (k + pn) cm c8 Lm (Lk ++ pL) w10 ((hOm8.nob hf9).nob hf10) ((hO8.nob hf9).nob hf10) hnm hcm hc8.1 hc8.2
          rw [HMM.out, HLM.out, HAL.out, decide_eq_true rfl] at hs2
          refine hs2.mono ?_
          clear hs2
          rintro e w11 ⟨rfl, hf11⟩
          go_wp2_with (go_at_call 12; refine (ident_sure _).mono ?_; rintro e w' ⟨rfl, hf⟩)
          go_ret
          exact ⟨rfl, (((hf8.trans hf9 (fun _ _ h => h)).trans hf10 (fun _ _ h => h)).trans hf11 (fun _ _ h => h)).trans hf (fun _ _ h => h)⟩
        | true =>
          have hlt2 : k + f < T.length := of_decide_eq_true hmore.symm
          obtain ⟨hpx1, hpx2⟩ := HPX.out.next hlt2
          have hpxe : px = (T.getD (k + f) (0, [])).1 := (congrArg Ps.next HPS.out).trans hpx1
          have hidlt : id < px := by rw [hpxe, HID.out]; exact HTLT.out k (k + f) (by omega) hlt2
          have hfnd : findS S px = some (T.getD (k + f) (0, [])) := by rw [hpxe]; exact HTF.out (k + f) hlt2
          have HPXE := Lib.hid hpxe
          have HFND := Lib.hid hfnd
          clear hmore hpx1 hpxe hfnd
          go_wp2_with (at_builtin; (refine app_row (P := Try.prog) (W := w6) w0.heap.size rfl _ _ _ 49 (.agg #[.int .i64 0, .slice none 0 0]) 2 32 rfl Try.underlying22 info_object rfl (by omega) u7 k (Lk.flatMap Ob.cs) pA pn pcp (pL.flatMap Ob.cs) rfl rfl (obs_one _) hown6.1 hrd6 hz6 (by omega) (by omega) ?_); intro v8 w8 hown8 hg8 hat8; go_must ((have hbp8 := hbp6.grown hg8 (fun e => (by obtain ⟨cs, hcs⟩ := hob6 _ e.symm; have h2 := hbp6; unfold Blk at h2; rw [h2] at hcs; cases hcs))); (have hf8 : Fr nob w w8 := hfw6.grown hg8 (fun k hk => .inr (Nat.le_trans hf03.size (own_at hown6.1 k hk)))); (have hf08 : Fr nob w0 w8 := (hf0.trans hr6w (fun _ _ h => h)).grown hg8 (fun k hk => .inr (own_at hown6.1 k hk))); (have hd8 : ∀ y ∈ Lk, w8.ownsRow w0.heap.size 5 1 (.slice y.A y.n y.c) y.n (nums .u8 y.d) := fun y hy => own_other (hown6.2 y hy).1 hg8 hob6 (by decide)); (have he8 : ∀ y ∈ pL, w8.ownsRow w0.heap.size 5 1 (.slice y.A y.n y.c) y.n (nums .u8 y.d) := fun y hy => own_base (own_other (hpo6.2 y hy).1 hg8 hob6 (by decide)) hz3w); (have qp8 := hbp8.cell); (have zp8 := hbp8.lt)))
          have hOm8 : Obs w8 Am nm Lm := hOm3.nob hf08
          have hfi := find_any A n c L px w8 (hO.nob hf8) hn hc (fun x hx => by have := hxl x hx; omega)
          rw [← HS.out] at hfi
          refine hfi.mono ?_
          clear hfi
          rintro e w9 ⟨hf9, y, ok, rfl, hyok, hfs, -, -⟩
          rw [HFND.out] at hfs
          cases ok with
          | false => exact absurd hfs (by simp)
          | true =>
            rw [if_pos rfl] at hfs
            injection hfs with hfs
            have hyn : y.d.length = y.n := hyok.len
            obtain ⟨yi, yA, yn, yc, yd⟩ := y
            have hy2 : (T.getD (k + f) (0, [])).2.length = yn := by rw [hfs]; exact hyn
            have hy240 : yn ≤ 240 := by
              have h1 := find_in HFND.out
              have h2 := right_in HRT.out _ h1.1
              omega
            rw [hy2, HK3.out] at hpx2
            rw [Ob.val]
            dsimp only
            have hbp9 := hbp8.fr hf9 (fun h => h)
            have qp9 := hbp9.cell
            have zp9 := hbp9.lt
            have hk3b : k3 ≤ 252 := by rw [← HK3.out]; exact hbs
            have hsum : IntKind.i64.wrap ((k3 : Int) + ((yn : Int) + 2)) = (k3 : Int) + ((yn : Int) + 2) := IntWalk.i64_in _ (by omega)
            have hd252 : decide ((k3 : Int) + ((yn : Int) + 2) ≤ 252) = false := decide_eq_false (by omega)
            have hdn : decide ((n : Int) < (cnt : Int) + 1) = false := decide_eq_false (by omega)
            have hdp : decide (px ≤ id) = false := decide_eq_false (by omega)
            clear hfs hyn hy2 qp8
            go_wp2_with fail
            refine (size_any ⟨yi, yA, yn, yc, yd⟩ _ (by dsimp only; omega)).mono ?_
            rintro e w10 ⟨rfl, hf10⟩
            dsimp only
            have hf910 : Fr nob w9 w10 := ((Fr.refl nob w9).alloc (.cells #[.int .i64 yi, .slice yA yn yc] 49)).trans hf10 (fun _ _ h => h)
            have hf810 := hf9.trans hf910 (fun _ _ h => h)
            have hbp10 := hbp9.fr hf910 (fun h => h)
            have qp10 := hbp10.cell
            go_wp2_with fail
            go_roundw
            case rel =>
              refine ⟨k + f, cnt + 1, Lk ++ pL, px, rfl, by go_num, hlt2, HPXE.out, ⟨?_, fun y hy => ?_⟩, ?_, ?_, by omega, hf08.trans hf810 (fun _ _ h => h)⟩
              · have h6 := own_fr hown8 hf810 (fun _ _ h => h)
                rw [HPNF.out] at h6
                rw [List.flatMap_append, ← HPNF.out]
                rw [HPNF.out]
                exact h6
              · rcases List.mem_append.1 hy with hy | hy
                · exact ⟨own_fr (hd8 y hy) hf810 (fun _ _ h => h), (hown6.2 y hy).2⟩
                · exact ⟨own_fr (he8 y hy) hf810 (fun _ _ h => h), (hpo6.2 y hy).2⟩
              · refine Lib.hid ?_
                rw [List.map_append, hLk.out, HQS.out, HPX.out.objs, List.take_add]
              · refine Lib.hid ?_
                rw [hcnt.out, HPX.out.count]
                omega
            case measure => simp [intOf]; omega
end Go.Proofs.Ythdenkmmiadeiaa
