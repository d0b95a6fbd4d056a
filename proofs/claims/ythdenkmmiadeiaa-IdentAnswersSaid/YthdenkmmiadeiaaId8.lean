/- Contract of All (package ident). -/
import Derived.Test.YthdenkmmiadeiaaIdLaw
namespace Go.Proofs.Ythdenkmmiadeiaa
set_option linter.unusedSimpArgs false
set_option linter.unusedVariables false
open Go.RowKit

def allIs (S : List (Int × List Int)) (sort : Int) : Bool := rightS S && inB sort 1 3
def allS (S : List (Int × List Int)) (sort : Int) : List (Int × List Int) := if allIs S sort then ofS S sort else []
def allPost (S : List (Int × List Int)) (sort : Int) (w : World) (e : Ending) (w' : World) : Prop :=
  ∃ A n c L, e = .returned (.tuple #[.slice A n c, .int .i64 (pcs (allS S sort) : Int)]) ∧ L.map Ob.s = allS S sort ∧ Obs w' A n L ∧ n ≤ c ∧ c ≤ 9223372036854775807 ∧ Fr nob w w'
theorem allNil {S : List (Int × List Int)} {sort : Int} {w w' : World} (h : allS S sort = []) (hf : Fr nob w w') : allPost S sort w (.returned (.tuple #[.slice none 0 0, .int .i64 0])) w' :=
  ⟨none, 0, 0, [], by rw [h, pcs_nil]; rfl, by rw [h]; rfl, ⟨Rd.nil_ _ _ _, by simp⟩, Nat.le_refl _, Nat.zero_le _, hf⟩
theorem rd3 (w : World) (a b c : Int) : Rd (w.alloc (.cells #[.int .u8 a, .int .u8 b, .int .u8 c] 5)) 1 (some ⟨w.heap.size, 0, none⟩) 3 (nums .u8 [a, b, c]) :=
  Rd.of_blk (Blk.new w _ _) rfl (fun j u hu => by rw [Nat.zero_add]; simpa [nums] using hu)
theorem obs_one (L : List Ob) : ∀ u ∈ L.flatMap Ob.cs, u.oneCell' = true := by
  intro u hu
  obtain ⟨x, _, hx⟩ := List.mem_flatMap.1 hu
  simp only [Ob.cs, List.mem_cons, List.not_mem_nil, or_false] at hx
  rcases hx with rfl | rfl <;> rfl

theorem own_set5 {w : World} {base n g : Nat} {e t : TypeId} {x0 x1 x2 x3 x4 : Value} {size : Nat} {v : Value} {xs : List Value} (h : w.ownsRow base e size v n xs) (hb : Blk w g t #[x0, x1, x2, x3, x4]) (ht : e ≠ t) (d0 d1 d2 d3 d4 : Value) :
    (((((w.setCell ⟨g, 0, none⟩ d0).setCell ⟨g, 1, none⟩ d1).setCell ⟨g, 2, none⟩ d2).setCell ⟨g, 3, none⟩ d3).setCell ⟨g, 4, none⟩ d4).ownsRow base e size v n xs :=
  own_set (own_set (own_set (own_set (own_set h hb ht d0) (hb.set_ 0 d0) ht d1) ((hb.set_ 0 d0).set_ 1 d1) ht d2) (((hb.set_ 0 d0).set_ 1 d1).set_ 2 d2) ht d3) ((((hb.set_ 0 d0).set_ 1 d1).set_ 2 d2).set_ 3 d3) ht d4
theorem OwnObs.set5 {w : World} {base n g : Nat} {x0 x1 x2 x3 x4 : Value} {v : Value} {L : List Ob} (h : OwnObs w base v n L) (hb : Blk w g 24 #[x0, x1, x2, x3, x4]) (d0 d1 d2 d3 d4 : Value) :
    OwnObs (((((w.setCell ⟨g, 0, none⟩ d0).setCell ⟨g, 1, none⟩ d1).setCell ⟨g, 2, none⟩ d2).setCell ⟨g, 3, none⟩ d3).setCell ⟨g, 4, none⟩ d4) base v n L :=
  ⟨own_set5 h.1 hb (by decide) _ _ _ _ _, fun y hy => ⟨own_set5 (h.2 y hy).1 hb (by decide) _ _ _ _ _, (h.2 y hy).2⟩⟩
set_option maxHeartbeats 8000000 in
set_option maxRecDepth 100000 in
theorem ident_all (A : Option Addr) (n c : Nat) (L : List Ob) (sort : Int) (w : World) (hO : Obs w A n L) (hn : n ≤ c) (hc : c ≤ 9223372036854775807) (hm140 : n ≤ 140) (h8 : ∀ x ∈ L, bytes8 x.d) :
    Calls Try.prog 21 #[.slice A n c, .int .i64 sort] w (allPost (L.map Ob.s) sort w) := by
  obtain ⟨S, hS⟩ : ∃ S, S = L.map Ob.s := ⟨_, rfl⟩
  have hS8 : ∀ x ∈ S, bytes8 x.2 := fun x hx => by
    rw [hS] at hx
    obtain ⟨y, hy, rfl⟩ := List.mem_map.1 hx
    exact h8 y hy
  have hSn : S.length = n := by rw [hS, List.length_map, hO.len]
  have hright := right_any A n c L w hO hn hc
  have hans := fun (V : World) (hV : Fr nob w V) B d (hr : Rd V 1 B 3 (nums .u8 d)) (hd : bytes8 d) => ident_answer A n c L B 3 3 d V (hO.nob hV) hn hc hm140 hr hd (by omega) (by omega)
  rw [← hS] at hright hans ⊢
  have HS8 := Lib.hid hS8
  have HSN := Lib.hid hSn
  have HANS := Lib.hid hans
  clear hS hS8 hSn hans
  go_enter Try.func21, Try.ntmps21
  go_wp2_with fail
  refine hright.mono ?_
  rintro e w1 ⟨rfl, hf1⟩
  cases hrt : rightS S with
  | false =>
    have hz : allS S sort = [] := by rw [allS, allIs, hrt]; rfl
    have HZ := Lib.hid hz
    clear hz hrt
    go_wp2_with fail
    go_ret2
    exact allNil HZ.out hf1
  | true =>
    have HRT := Lib.hid hrt
    clear hrt
    go_wp2_with fail
    refine (ident_in _ _ _ _).mono ?_
    rintro e w2 ⟨rfl, rfl⟩
    cases hin : inB sort 1 3 with
    | false =>
      have hz : allS S sort = [] := by rw [allS, allIs, hin, Bool.and_false]; rfl
      have HZ := Lib.hid hz
      clear hz hin
      go_wp2_with fail
      go_ret2
      exact allNil HZ.out hf1
    | true =>
      have hs : sort = 1 ∨ sort = 2 ∨ sort = 3 := by
        simp only [inB, Bool.and_eq_true, decide_eq_true_eq] at hin
        omega
      obtain ⟨T, hT⟩ : ∃ T, T = ofS S sort := ⟨_, rfl⟩
      have hal : allS S sort = T := by rw [allS, allIs, HRT.out, hin, hT]; rfl
      have hpc : ∀ k, k < T.length → ∃ b q f, Piece S sort T k b q f := fun k hk => by rw [hT] at hk ⊢; exact piece_at HRT.out hs hk
      have hT3 : 3 ≤ T.length := by rw [hT]; exact sorts_three HRT.out hs
      have hTn : T.length ≤ n := by
        rw [hT, ofS, if_neg (by omega), ← HSN.out]
        exact List.length_filter_le _ _
      have hT0 : (T.getD 0 (0, [])).1 = 0 := by
        obtain ⟨x, y, z, r, hx, h0, _, _⟩ := right_three HRT.out
        rw [hT, ofS, if_neg (by omega), hx, List.filter_cons, if_pos]
        · exact h0
        · rw [h0]; rcases hs with rfl | rfl | rfl <;> rfl
      have hTsub : ∀ x ∈ T, 0 ≤ x.1 ∧ x.1 ≤ 255 := fun x hx => by
        have := right_in HRT.out x ((of_sub hs).1 (by rw [← hT]; exact hx)).1
        omega
      have hTid : ∀ k, k < T.length → 0 ≤ (T.getD k (0, [])).1 ∧ (T.getD k (0, [])).1 ≤ 255 := fun k hk => by
        have e : T.getD k (0, []) = T[k] := by simp [List.getD_eq_getElem?_getD, List.getElem?_eq_getElem hk]
        rw [e]
        exact hTsub _ (List.getElem_mem hk)
      have HAL := Lib.hid hal
      have HPC := Lib.hid hpc
      have HT0 := Lib.hid hT0
      have HTID := Lib.hid hTid
      have hws : IntKind.u8.wrap sort = sort := by simp [IntKind.wrap, IntKind.bits, IntKind.signed]; omega
      have hws' : sort % 256 = sort := by omega
      clear hT hal hpc hT0 hTid hTsub hin hs
      have hbp := Blk.new w2 24 #[.int .i64 0, .int .i64 0, .bool true, .int .i64 0, .slice none 0 0]
      have hf2 := hf1.alloc (.cells #[.int .i64 0, .int .i64 0, .bool true, .int .i64 0, .slice none 0 0] 24)
      have hz1 := hf1.size
      go_wp2_with fail
      go_loopw [4, 5, 6] (fun v nv pv wr => ∃ (k cnt gp : Nat) (Lk : List Ob) (mo : Bool) (nx pcode plevel : Int) (ps : Value), nv = .int .i64 cnt ∧ pv = .pointer (some ⟨gp, 0, none⟩) ∧ Blk wr gp 24 #[.int .i64 pcode, .int .i64 plevel, .bool mo, .int .i64 nx, ps] ∧ w.heap.size ≤ gp ∧ OwnObs wr w.heap.size v k Lk ∧ Hid (Lk.map Ob.s = T.take k) ∧ Hid (pcs T = cnt + pcs (T.drop k)) ∧ Hid (mo = decide (k < T.length)) ∧ Hid (k < T.length → nx = (T.getD k (0, [])).1) ∧ cnt ≤ k ∧ k ≤ T.length ∧ Fr nob w wr) (fun _ nv _ _ => T.length - (intOf nv).toNat)
      case atStart =>
        exact ⟨0, 0, w2.heap.size, [], true, 0, 0, 0, _, rfl, rfl, hbp, hz1, ⟨World.ownsRow_nil _ _ _ _, by simp⟩, Lib.hid rfl, Lib.hid (by simp), Lib.hid (by symm; rw [decide_eq_true_iff]; omega), Lib.hid (fun _ => HT0.out.symm), by omega, by omega, hf2⟩
      case round =>
        clear hbp hf2 hf1 hz1 hright
        obtain ⟨k, cnt, gp, Lk, mo, nx, pcode, plevel, ps, rfl, rfl, hbp, hgp, hown, hLk, hcnt, hmo, hnx, hck, hkT, hf⟩ := hrel
        have qp := hbp.cell
        have zp := hbp.lt
        cases mo with
        | false =>
          have hk : k = T.length := by have := hmo.out; have := of_decide_eq_false this.symm; omega
          have h1 : Lk.map Ob.s = allS S sort := by rw [hLk.out, HAL.out, List.take_of_length_le (by omega)]
          have h2 : pcs (allS S sort) = cnt := by rw [HAL.out, hcnt.out, List.drop_eq_nil_of_le (by omega), pcs_nil]; omega
          have H1 := Lib.hid h1
          have H2 := Lib.hid h2
          obtain ⟨Av, cv, rfl, _⟩ := own_form hown.1
          have hcaps := hown.caps
          clear h1 h2 hk
          go_wp2_with fail
          go_ret2
          exact ⟨Av, k, cv, Lk, by rw [H2.out]; rfl, H1.out, hown.obs, hcaps.1, hcaps.2, hf⟩
        | true =>
          have hk : k < T.length := by have := hmo.out; exact of_decide_eq_true this.symm
          obtain ⟨b, q, f, hP⟩ := HPC.out k hk
          have hnxv := hnx.out hk
          have hnb : 0 ≤ nx ∧ nx ≤ 255 := by rw [hnxv]; exact HTID.out k hk
          have hans : answerS S [14, sort, nx] = (b, 0) := by rw [hnxv]; exact hP.ans
          have HPX := Lib.hid hP
          have hwx : nx % 256 = nx := by omega
          have hbb := hP.bytes HS8.out
          have hbs := hP.short
          have ha := HANS.out (wr.alloc (.cells #[.int .u8 14, .int .u8 sort, .int .u8 nx] 5)) (hf.alloc _) (some ⟨wr.heap.size, 0, none⟩) [14, sort, nx] (rd3 wr 14 sort nx) (by intro z hz; simp at hz; rcases hz with rfl | rfl | rfl <;> omega)
          rw [hans] at ha
          have HA := Lib.hid ha
          clear hans ha hnxv hP
          go_wp2_with fail
          refine HA.out.mono ?_
          rintro e w3 ⟨A3, k3, c3, rfl, hr3, hk3, hc3, hn3, hf3⟩
          have hbp3 := (hbp.alloc (.cells #[.int .u8 14, .int .u8 sort, .int .u8 nx] 5)).fr hf3 (fun h => h)
          have hfw3 := (hf.alloc (.cells #[.int .u8 14, .int .u8 sort, .int .u8 nx] 5)).trans hf3 (fun _ _ h => h)
          have hr3w : Fr nob wr w3 := ((Fr.refl nob wr).alloc (.cells #[.int .u8 14, .int .u8 sort, .int .u8 nx] 5)).trans hf3 (fun _ _ h => h)
          go_wp2_with fail
          have hrd := ident_read A3 k3 c3 b w3 hr3 hbb hk3 hc3
          rw [readPost, HPX.out.read, show errR (some q) = 0 from rfl] at hrd
          refine hrd.mono ?_
          clear hrd
          rintro e w4 ⟨p, rfl, hpok, hps, hpx, hf4, hpo⟩
          obtain ⟨pc, pl, pm, px, pA, pn, pcp, pL⟩ := p
          rw [Pt.val, Pt.cells]
          dsimp only at hpo hpx ⊢
          have hbp4 := hbp3.fr hf4 (fun h => h)
          have qp4 := hbp4.cell
          have qpf4 := hbp4.frozen
          have zp4 := hbp4.lt
          have hfw4 : Fr nob w w4 := hfw3.trans hf4 (fun _ _ h => h)
          have hr4w : Fr nob wr w4 := hr3w.trans hf4 (fun _ _ h => h)
          have HPS := Lib.hid hps
          have hpl := hpo.obs.len
          have HPLN := Lib.hid hpl
          have hpcap := hpo.caps
          have hS5 := (Fr.refl (fun i => i = gp) w4).set5 (g := gp) (.inl rfl) (.int .i64 pc) (.int .i64 pl) (.bool pm) (.int .i64 px) (.slice pA pn pcp)
          have hbp5 := hbp4.set5 (.int .i64 pc) (.int .i64 pl) (.bool pm) (.int .i64 px) (.slice pA pn pcp)
          have hfw5 := hfw4.newer hS5 (fun i hi => by omega)
          have hown4 : OwnObs w4 w.heap.size u4 k Lk := ⟨own_fr hown.1 hr4w (fun _ _ h => h), fun y hy => ⟨own_fr (hown.2 y hy).1 hr4w (fun _ _ h => h), (hown.2 y hy).2⟩⟩
          have hown5 := hown4.set5 hbp4 (.int .i64 pc) (.int .i64 pl) (.bool pm) (.int .i64 px) (.slice pA pn pcp)
          have hpo5 := hpo.set5 hbp4 (.int .i64 pc) (.int .i64 pl) (.bool pm) (.int .i64 px) (.slice pA pn pcp)
          have hz3w : w.heap.size ≤ w3.heap.size := hfw3.size
          have hpn : pn ≤ 140 := by
            have h1 : pL.map Ob.s = q.S := by
              have := congrArg Ps.S hps
              simpa [Pt.s] using this
            have h2 := congrArg List.length h1
            rw [List.length_map, hpl, HPX.out.objs, List.length_take, List.length_drop] at h2
            omega
          clear hps hpl hown hown4 hpo hbp hbp3 hbp4 qp hpok
          have hrd5 := hpo5.obs.rd
          have hz5 := hfw5.size
          have hob5 := own_block hown5.1
          go_wp2_with (at_builtin; (refine app_row (P := Try.prog) (W := (((((w4.setCell ⟨gp, 0, none⟩ (.int .i64 pc)).setCell ⟨gp, 1, none⟩ (.int .i64 pl)).setCell ⟨gp, 2, none⟩ (.bool pm)).setCell ⟨gp, 3, none⟩ (.int .i64 px)).setCell ⟨gp, 4, none⟩ (.slice pA pn pcp))) w.heap.size rfl _ _ _ 49 (.agg #[.int .i64 0, .slice none 0 0]) 2 32 rfl Try.underlying22 info_object rfl (by omega) u4 k (Lk.flatMap Ob.cs) pA pn pcp (pL.flatMap Ob.cs) rfl rfl (obs_one _) hown5.1 hrd5 hz5 (by omega) (by omega) ?_); intro v6 w6 hown6 hg6 hat6; go_must ((have hbp6 := hbp5.grown hg6 (fun e => (by obtain ⟨cs, hcs⟩ := hob5 _ e.symm; have h2 := hbp5; unfold Blk at h2; rw [h2] at hcs; cases hcs))); (have hf6 : Fr nob w w6 := hfw5.grown hg6 (fun k hk => .inr (own_at hown5.1 k hk))); (have hd6 : ∀ y ∈ Lk, w6.ownsRow w.heap.size 5 1 (.slice y.A y.n y.c) y.n (nums .u8 y.d) := fun y hy => own_other (hown5.2 y hy).1 hg6 hob5 (by decide)); (have he6 : ∀ y ∈ pL, w6.ownsRow w.heap.size 5 1 (.slice y.A y.n y.c) y.n (nums .u8 y.d) := fun y hy => own_base (own_other (hpo5.2 y hy).1 hg6 hob5 (by decide)) hz3w); (have qp6 := hbp6.cell)))
          have hP := HPX.out
          go_roundw
          case rel =>
            have hqS : pL.map Ob.s = q.S := congrArg Ps.S HPS.out
            have hpnf : pn = f := by
              have h2 := congrArg List.length hqS
              rw [List.length_map, HPLN.out, hP.objs, List.length_take, List.length_drop] at h2
              have := hP.fits
              omega
            refine ⟨k + f, cnt + 1, w6.heap.size, Lk ++ pL, pm, px, pc, pl, .slice pA pn pcp, by go_num, rfl, Blk.new w6 _ _, hf6.size, ⟨?_, ?_⟩, ?_, ?_, ?_, ?_, by have := hP.one; omega, hP.fits, hf6.alloc _⟩
            · have h6 := hown6
              rw [hpnf] at h6
              rw [List.flatMap_append]
              exact h6.alloc (.cells #[.int .i64 pc, .int .i64 pl, .bool pm, .int .i64 px, .slice pA pn pcp] 24)
            · intro y hy
              rcases List.mem_append.1 hy with hy | hy
              · exact ⟨(hd6 y hy).alloc _, (hown5.2 y hy).2⟩
              · exact ⟨(he6 y hy).alloc _, (hpo5.2 y hy).2⟩
            · refine Lib.hid ?_
              rw [List.map_append, hLk.out, hqS, hP.objs, List.take_add]
            · refine Lib.hid ?_
              rw [hcnt.out, hP.count]
              omega
            · exact Lib.hid (by rw [← hP.more]; exact congrArg Ps.more HPS.out)
            · exact Lib.hid (fun h => by rw [← (hP.next h).1]; exact congrArg Ps.next HPS.out)
          case measure => simp [intOf]; omega
end Go.Proofs.Ythdenkmmiadeiaa
