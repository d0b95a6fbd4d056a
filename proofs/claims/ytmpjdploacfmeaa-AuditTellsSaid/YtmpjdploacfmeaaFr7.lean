/- Contract of audit.Asked. -/
import Derived.Test.YtmpjdploacfmeaaFr6
namespace Go.Proofs.Ytmpjdploacfmeaa
set_option linter.unusedSimpArgs false
set_option linter.unusedVariables false
open Go.RowKit

theorem inwR {P : Program} {f : FuncId} {args : Array Value} {w : World} {R Q : Ending → World → Prop} {n m l : Nat} (h : Calls P f args w R) (k : ∀ e w', R e w' → Q e w') :
    ((Fence.wide.inRound l).depth.isSome = true → 1 ≤ m) ∧ CallsIn (Fence.wide.inRound l) n P f args w Q := ⟨fun h => (by cases h), ((callsIn_wide (n := n)).2 h).mono k⟩
/-- The blocks that Asked makes first. -/
theorem as_start (w : World) (H : Option Addr) (nh ch : Nat) (tc ts tl tt : Int) {w1 : World} (h : Fr nob (((w.alloc (.cells #[.slice H nh ch] 61)).alloc (.cells #[.int .i64 tc, .int .i64 ts, .int .i64 tl, .int .i64 tt] 63)).alloc (.cells #[.int .i64 0] 28)) w1) :
    Fr nob w w1 ∧ Blk w1 w.heap.size 61 #[.slice H nh ch] ∧ Blk w1 (w.heap.size + 1) 63 #[.int .i64 tc, .int .i64 ts, .int .i64 tl, .int .i64 tt] ∧ Blk w1 (w.heap.size + 2) 28 #[.int .i64 0] := by
  have b0 := Blk.new w 61 #[.slice H nh ch]
  have b1 := Blk.new (w.alloc (.cells #[.slice H nh ch] 61)) 63 #[.int .i64 tc, .int .i64 ts, .int .i64 tl, .int .i64 tt]
  have b2 := Blk.new ((w.alloc (.cells #[.slice H nh ch] 61)).alloc (.cells #[.int .i64 tc, .int .i64 ts, .int .i64 tl, .int .i64 tt] 63)) 28 #[.int .i64 0]
  simp only [World.size_alloc] at b1 b2
  exact ⟨((((Fr.refl nob w).alloc _).alloc _).alloc _).trans h (fun _ _ h => h), ((b0.alloc _).alloc _).fr h id, (b1.alloc _).fr h id, b2.fr h id⟩
/-- The result is put. -/
theorem as_put {w w1 : World} {v0 : Value} (v : Int) (hf : Fr nob w w1) (h2 : Blk w1 (w.heap.size + 2) 28 #[v0]) :
    Fr nob w (w1.setCell ⟨w.heap.size + 2, 0, none⟩ (.int .i64 v)) ∧ Blk (w1.setCell ⟨w.heap.size + 2, 0, none⟩ (.int .i64 v)) (w.heap.size + 2) 28 #[.int .i64 v] := by
  refine ⟨hf.set_ (p := ⟨w.heap.size + 2, 0, none⟩) (.inr (by simp)) _, ?_⟩
  have := h2.set_ 0 (.int .i64 v)
  simpa using this

set_option maxHeartbeats 4000000 in
set_option maxRecDepth 100000 in
theorem asked_early (A : Option Addr) (n c : Nat) (lo : List (Int × Int)) (H : Option Addr) (nh ch : Nat) (lh : List Hd) (st tc ts tl tt : Int) (w : World) (h : Rd w 2 A n (lo.flatMap outc)) (h8 : ∀ y ∈ lo, 0 ≤ y.2 ∧ y.2 ≤ 255) (hn : n ≤ 400) (hnc : n ≤ c) (hh : Rd w 3 H nh (lh.flatMap hdc)) (hnh : nh ≤ 400)
    (hz : checkF (rightT tc ts tl tt) tc lo st ≠ 0 ∨ rightH 0 lh = false) :
    Calls Try.prog 38 #[.slice A n c, .slice H nh ch, .int .i64 st, .agg #[.int .i64 tc, .int .i64 ts, .int .i64 tl, .int .i64 tt]] w fun e w' => e = .returned (.int .i64 (askF (rightT tc ts tl tt) tc tl tt lo lh st)) ∧ Fr nob w w' := by
  have hf0 := (((Fr.refl nob w).alloc (.cells #[.slice H nh ch] 61)).alloc (.cells #[.int .i64 tc, .int .i64 ts, .int .i64 tl, .int .i64 tt] 63)).alloc (.cells #[.int .i64 0] 28)
  have hck := Lib.hid (audit_check A n c lo st tc ts tl tt _ (h.nob hf0) h8 hn hnc)
  have hrg := Lib.hid (fun V (hV : Fr nob w V) => split_right H nh ch lh 0 V (hh.nob hV) (by omega) (by omega))
  obtain ⟨v, hv⟩ : ∃ v, v = askF (rightT tc ts tl tt) tc tl tt lo lh st := ⟨_, rfl⟩
  rw [← hv]
  have HV := Lib.hid hv
  obtain ⟨ck, hck2⟩ : ∃ x, x = checkF (rightT tc ts tl tt) tc lo st := ⟨_, rfl⟩
  rw [← hck2] at hck hz
  have HCK := Lib.hid hck2
  have HZ := Lib.hid hz
  clear h hv hf0 h8 hh hck2 hz
  go_enter Try.func38, Try.ntmps38
  go_wp2_with fail
  refine hck.out.mono ?_
  rintro e w1 ⟨rfl, hf1⟩
  obtain ⟨hfw, b0, b1, b2⟩ := as_start w H nh ch tc ts tl tt hf1
  have q0 := b0.cell
  have q1 := b0.lt
  have q2 := b2.cell
  have q3 := b2.frozen
  have q4 := b2.lt
  have HFW := Lib.hid hfw
  have HB2 := Lib.hid b2
  clear hf1 hck b0 b1 b2 hfw
  by_cases hz : ck = 0
  · have hz1 : (ck == 0) = true := beq_iff_eq.2 hz
    have hrr : rightH 0 lh = false := HZ.out.resolve_left (fun h => h hz)
    have hrg1 := hrg.out w1 HFW.out
    rw [hrr] at hrg1
    have HV2 := Lib.hid (show v = 11 by rw [HV.out, askF, if_neg (by rw [← HCK.out, hz]; simp), if_pos hrr])
    have HRG := Lib.hid hrg1
    clear hrr hrg1 HV HCK
    subst hz
    go_wp2_with fail
    refine HRG.out.mono ?_
    rintro e w2 ⟨rfl, hf2⟩
    have B22 := HB2.out.fr hf2 id
    obtain ⟨p1, p2⟩ := as_put 11 (HFW.out.trans hf2 (fun _ _ h => h)) B22
    have HP := Lib.hid p1
    have q7 := p2.cell
    have q9 := B22.cell
    have q10 := B22.frozen
    have q11 := B22.lt
    clear p1 p2 q2 q3 q4 B22
    go_wp2_with fail
    refine bodyPost_ret (v := .int .i64 11) (by simp [results, Try.results38, go_sem, q7]) rfl ?_
    exact ⟨by rw [HV2.out], HP.out⟩
  · have hz1 : (ck == 0) = false := beq_eq_false_iff_ne.2 hz
    have HVN := Lib.hid (show v = ck by rw [HV.out, askF, ← HCK.out, if_pos hz])
    obtain ⟨p1, p2⟩ := as_put ck HFW.out HB2.out
    have HP := Lib.hid p1
    have q7 := p2.cell
    clear hz HV HCK p1 p2
    go_wp2_with fail
    refine bodyPost_ret (v := .int .i64 ck) (by simp [results, Try.results38, go_sem, q7]) rfl ?_
    exact ⟨by rw [HVN.out], HP.out⟩

attribute [local go_sem] Oper.semAt_some
set_option maxHeartbeats 4000000 in
set_option maxRecDepth 100000 in
theorem asked_late (A : Option Addr) (n c : Nat) (lo : List (Int × Int)) (H : Option Addr) (nh ch : Nat) (lh : List Hd) (st tc ts tl tt : Int) (w : World) (h : Rd w 2 A n (lo.flatMap outc)) (h8 : ∀ y ∈ lo, 0 ≤ y.2 ∧ y.2 ≤ 255) (hn : n ≤ 400) (hnc : n ≤ c) (hh : Rd w 3 H nh (lh.flatMap hdc)) (hnh : nh ≤ 400)
    (hz : checkF (rightT tc ts tl tt) tc lo st = 0) (hrh : rightH 0 lh = true) :
    Calls Try.prog 38 #[.slice A n c, .slice H nh ch, .int .i64 st, .agg #[.int .i64 tc, .int .i64 ts, .int .i64 tl, .int .i64 tt]] w fun e w' => e = .returned (.int .i64 (askF (rightT tc ts tl tt) tc tl tt lo lh st)) ∧ Fr nob w w' := by
  have hf0 := (((Fr.refl nob w).alloc (.cells #[.slice H nh ch] 61)).alloc (.cells #[.int .i64 tc, .int .i64 ts, .int .i64 tl, .int .i64 tt] 63)).alloc (.cells #[.int .i64 0] 28)
  have hck0 := audit_check A n c lo st tc ts tl tt _ (h.nob hf0) h8 hn hnc
  rw [hz] at hck0
  have hck := Lib.hid hck0
  have hrg0 := fun V (hV : Fr nob w V) => split_right H nh ch lh 0 V (hh.nob hV) (by omega) (by omega)
  rw [hrh] at hrg0
  have hrg := Lib.hid hrg0
  obtain ⟨v, hv⟩ : ∃ v, v = askF (rightT tc ts tl tt) tc tl tt lo lh st := ⟨_, rfl⟩
  obtain ⟨hrt, fs, ats, hfs⟩ := checkF_zero hz
  have hbt := of_decide_eq_true hrt
  have HV := Lib.hid (show v = askS tl tt lh ats by rw [hv, askF, if_neg (by rw [hz]; simp), if_neg (by rw [hrh]; simp), hfs])
  rw [← hv]
  have HFS := Lib.hid hfs
  have HR := Lib.hid h
  have HH := Lib.hid hh
  have HRNG := Lib.hid (rightH_range hrh)
  have hbt1 : 1 ≤ tc ∧ tc ≤ 16777216 := by omega
  have HBT2 : Hid (0 ≤ tl ∧ tl ≤ 16777216 ∧ 0 ≤ tt ∧ tt ≤ 16777216) := Lib.hid (by omega)
  have hfn : ∀ f, Fence.wide.fn f := fun _ => trivial
  clear h hv hf0 h8 hh hz hrh hck0 hrg0 hrt hfs hbt
  refine (callsIn_wide (n := 3)).1 (callsIn_marksN Try.func38 rfl trivial ?_ rfl)
  simp only [Try.ntmps38, List.size_toArray, List.length_cons, List.length_nil, Nat.reduceAdd, Nat.reduceSub, Array.replicate_succ, Array.replicate_zero, List.push_toArray, List.append_toArray, List.nil_append, List.cons_append]
  gi_wp2_with fail
  refine (inwM hck.out).mono ?_
  rintro e w1 ⟨rfl, hf1⟩
  obtain ⟨hfw, b0, b1, b2⟩ := as_start w H nh ch tc ts tl tt hf1
  have q0 := b0.cell
  have q1 := b0.lt
  have q2 := b1.cell
  have q3 := b1.lt
  have hb2z := b2.lt
  clear hf1 hck
  gi_wp2_with fail
  refine (inwM (hrg.out w1 hfw)).mono ?_
  rintro e w1' ⟨rfl, hf1'⟩
  have b0' := b0.fr hf1' id
  have b1' := b1.fr hf1' id
  have b2' := b2.fr hf1' id
  have hfw' := hfw.trans hf1' (fun _ _ h => h)
  have q0' := b0'.cell
  have q2' := b1'.cell
  have hb2z' := b2'.lt
  clear q0 q1 q2 q3 b0 b1 b2 hfw hf1' hb2z hrg
  have q3 := b1'.lt
  gi_wp2_with fail
  refine (inwM (each_any A n c tc _)).mono ?_
  rintro e w2 ⟨rfl, hw2⟩
  have hzr := hfw'.size
  have hz2 : w2.heap.size = w1'.heap.size + 2 := by rw [hw2]; simp
  have hf2 : Fr nob w1' w2 := by rw [hw2]; exact ((Fr.refl nob w1').alloc _).alloc _
  have c0 : Blk w2 w1'.heap.size 60 #[.slice A n c] := by
    rw [hw2]
    exact (Blk.new w1' 60 #[.slice A n c]).alloc _
  have c1 : Blk w2 (w1'.heap.size + 1) 3 #[.int .i64 tc] := by
    rw [hw2]
    have := Blk.new (w1'.alloc (.cells #[.slice A n c] 60)) 3 #[.int .i64 tc]
    simpa using this
  have d0 := b0'.fr hf2 id
  have d1 := b1'.fr hf2 id
  have d2 := b2'.fr hf2 id
  have hfw2 := hfw'.trans hf2 (fun _ _ h => h)
  clear hw2 q0' q2' q3 b0' b1' b2'
  gi_wp2_with fail
  have hseq := each1_seq 2 A n c lo tc fs ats w1'.heap.size (w1'.heap.size + 1) (fun b => b = w.heap.size + 2 ∨ w2.heap.size ≤ b) w w2 HR.out hn hnc HFS.out hbt1 hfw2 (fun b hb => by omega) (c0.cell 0) (c1.cell 0) (by omega) (by omega)
  refine range_t rfl (by omega) rfl trivial (enters_of Try.func75 (by kernel_rfl) rfl) hseq rfl (fun b hb => by omega)
    (fun k W => v = askS tl tt lh (ats.drop k) ∧ Blk W (w.heap.size + 2) 28 #[.int .i64 0] ∧ Blk W w.heap.size 61 #[.slice H nh ch] ∧ Blk W (w.heap.size + 1) 63 #[.int .i64 tc, .int .i64 ts, .int .i64 tl, .int .i64 tt] ∧ Fr nob w W)
    (fun c _ W => c = .ret ∧ v = 18 ∧ Blk W (w.heap.size + 2) 28 #[.int .i64 18] ∧ Fr nob w W)
    ?hI ?hIx ?h0 ?hIT ?hround ?hdone ?hstop
  case hI =>
    rintro k' W W' ⟨e1, e2, e3, e4, e5⟩ hk'
    exact ⟨e1, hk'.blk e2, hk'.blk e3, hk'.blk e4, hk'.frn (by omega) e5⟩
  case hIx =>
    rintro c' k' W W' ⟨e0, e1, e2, e3⟩ hk'
    exact ⟨e0, e1, hk'.blk e2, hk'.frn (by omega) e3⟩
  case h0 => exact ⟨HV.out, d2, d0, d1, hfw2⟩
  case hIT =>
    rintro k' W W' ⟨e1, e2, e3, e4, e5⟩ hk'
    exact ⟨e1, e2.fr hk' (by omega), e3.fr hk' (by omega), e4.fr hk' (by omega), e5.newer hk' (fun i hi => by omega)⟩
  case hround =>
    rintro l k' ⟨xa, xf⟩ v' W hl hx ⟨Ay, ny, cy, rfl, hin, hyb⟩ ⟨e1, e2, e3, e4, e5⟩ hsz
    rw [List.getElem?_zip_eq_some] at hx
    obtain ⟨hxa, hxf⟩ := hx
    dsimp only at hxa
    have hd : ats.drop k' = xa :: ats.drop (k' + 1) := by
      obtain ⟨h1, h2⟩ := List.getElem?_eq_some_iff.1 hxa
      rw [List.drop_eq_getElem_cons h1, h2]
    have HVK := Lib.hid (show v = if lh.any (hits tl tt xa) then askS tl tt lh (ats.drop (k' + 1)) else 18 by rw [e1, hd, askS])
    have g0 := (Fr.refl nob W).alloc (.cells #[.int .i64 xa, .slice Ay ny cy] 117)
    have h0 := Blk.new W 117 #[.int .i64 xa, .slice Ay ny cy]
    clear hxa hxf hin hyb hd e1
    gi_wp2_with fail
    refine ⟨g0, fun w₃ hkc hz3 => ?_⟩
    have f2 := hkc.blk (e2.alloc _)
    have f3 := hkc.blk (e3.alloc _)
    have f4 := hkc.blk (e4.alloc _)
    have f0 := hkc.blk h0
    have hfw3 := hkc.frn (by omega) (e5.alloc _)
    have hca := contains_any H nh ch lh tc ts tl tt xa (w.heap.size + 1) W.heap.size w₃ (HH.out.nob hfw3) hnh f4 ((f0.cell 0).trans rfl) f0.lt HRNG.out HBT2.out
    have p0 := f3.cell
    have p1 := f3.lt
    obtain ⟨p, hp⟩ : ∃ p, p = lh.any (hits tl tt xa) := ⟨_, rfl⟩
    rw [← hp] at hca HVK
    have HCA := Lib.hid hca
    clear hca hp e2 e3 e4 e5 h0
    gi_wp2_with fail
    refine ((callsIn_wide (n := 0)).2 HCA.out).mono ?_
    rintro e w4 ⟨rfl, hf4⟩
    have m2 := f2.fr hf4 id
    have m3 := f3.fr hf4 id
    have m4 := f4.fr hf4 id
    have hfw4 := hfw3.trans hf4 (fun _ _ h => h)
    have r1 := m2.cell
    have r2 := m2.frozen
    have r3 := m2.lt
    clear p0 p1 HCA
    cases p with
    | true =>
      have HVN := Lib.hid (show v = askS tl tt lh (ats.drop (k' + 1)) by rw [HVK.out, if_pos rfl])
      gi_wp2_with fail
      exact ⟨hf4.of_nob, Kt.of_nob hf4, HVN.out, m2, m3, m4, hfw4⟩
    | false =>
      have HVN := Lib.hid (show v = 18 by rw [HVK.out, if_neg (by simp)])
      obtain ⟨p1, p2⟩ := as_put 18 hfw4 m2
      have HP := Lib.hid p1
      have HP2 := Lib.hid p2
      have HFS4 : Hid (Fr (fun b => (b = w.heap.size + 2 ∨ w2.heap.size ≤ b) ∧ b ≠ w2.heap.size ∧ b ≠ w2.heap.size + 1) w₃ (w4.setCell ⟨w.heap.size + 2, 0, none⟩ (.int .i64 18))) :=
        Lib.hid (hf4.of_nob.set_ (p := ⟨w.heap.size + 2, 0, none⟩) (.inl (by simp; omega)) _)
      have HKT : Hid (Kt (fun t => t = 117 ∨ t = 110) w₃ (w4.setCell ⟨w.heap.size + 2, 0, none⟩ (.int .i64 18))) := Lib.hid <| fun g t cs ht hb => by
        refine (hb.fr hf4 id).far (p := ⟨w.heap.size + 2, 0, none⟩) (fun e => ?_) _
        dsimp only at e
        subst e
        have := hb.fr hf4 id
        unfold Blk at this m2
        rw [m2] at this
        cases this
        rcases ht with h | h <;> exact absurd h (by decide)
      clear p1 p2
      gi_wp2_with fail
      exact ⟨HFS4.out, HKT.out, rfl, HVN.out, HP2.out, HP.out⟩
  case hdone =>
    rintro W ⟨e1, e2, e3, e4, e5⟩ hD
    have hlen := framesF_len HFS.out
    have hzl : (ats.zip fs).length = ats.length := by rw [List.length_zip]; omega
    have HVN := Lib.hid (show v = 0 by rw [e1, hzl, List.drop_eq_nil_of_le (Nat.le_refl _)]; rfl)
    obtain ⟨p1, p2⟩ := as_put 0 e5 e2
    have HP := Lib.hid p1
    have HP2 := Lib.hid p2
    have HDV : Hid ((W.setCell ⟨w.heap.size + 2, 0, none⟩ (.int .i64 0)).heap[w2.heap.size]? = some (Obj.deferred (some []))) := Lib.hid ((Below.heap_setCell _ _ _ _ (by simp; omega)).trans hD)
    have r1 := e2.cell
    have r2 := e2.frozen
    have r3 := e2.lt
    clear hlen hzl e1 e2 e3 e4 e5 hD p1 p2
    gi_wp2_with fail
    generalize hV : World.setCell _ _ _ = V
    have hV2 : V = (W.setCell ⟨w.heap.size + 2, 0, none⟩ (.int .i64 0)) := hV.symm
    have hDV : V.heap[w2.heap.size]? = some (Obj.deferred (some [])) := by rw [hV2]; exact HDV.out
    have g7 : Blk V (w.heap.size + 2) 28 #[.int .i64 0] := by rw [hV2]; exact HP2.out
    have hfV : Fr nob w V := by rw [hV2]; exact HP.out
    have hk5 : Kc w2.heap.size V (V.putObj w2.heap.size (.deferred none)) := Kc.putObj V _ hDV (fun _ _ _ h => by cases h) (Nat.le_refl _)
    refine ⟨by simp, .inl ⟨_, _, rfl, run_takeDeferred hDV, ?_⟩⟩
    have q7 := (hk5.blk g7).cell
    refine ⟨.int .i64 0, by simp [results, Try.results38, go_sem, q7], ?_⟩
    exact ⟨by rw [HVN.out], hk5.frn (by omega) hfV⟩
  case hstop =>
    rintro c' k' W ⟨rfl, e1, e2, e3⟩ hD
    have HVN := Lib.hid e1
    gi_wp2_with fail
    have hk5 : Kc w2.heap.size W (W.putObj w2.heap.size (.deferred none)) := Kc.putObj W _ hD (fun _ _ _ h => by cases h) (Nat.le_refl _)
    refine ⟨by simp, .inl ⟨_, _, rfl, run_takeDeferred hD, ?_⟩⟩
    have q7 := (hk5.blk e2).cell
    refine ⟨.int .i64 18, by simp [results, Try.results38, go_sem, q7], ?_⟩
    exact ⟨by rw [HVN.out], hk5.frn (by omega) e3⟩

theorem audit_asked (A : Option Addr) (n c : Nat) (lo : List (Int × Int)) (H : Option Addr) (nh ch : Nat) (lh : List Hd) (st tc ts tl tt : Int) (w : World) (h : Rd w 2 A n (lo.flatMap outc)) (h8 : ∀ y ∈ lo, 0 ≤ y.2 ∧ y.2 ≤ 255) (hn : n ≤ 400) (hnc : n ≤ c) (hh : Rd w 3 H nh (lh.flatMap hdc)) (hnh : nh ≤ 400) :
    Calls Try.prog 38 #[.slice A n c, .slice H nh ch, .int .i64 st, .agg #[.int .i64 tc, .int .i64 ts, .int .i64 tl, .int .i64 tt]] w fun e w' => e = .returned (.int .i64 (askF (rightT tc ts tl tt) tc tl tt lo lh st)) ∧ Fr nob w w' := by
  by_cases hz : checkF (rightT tc ts tl tt) tc lo st = 0
  · cases hr : rightH 0 lh with
    | false => exact asked_early A n c lo H nh ch lh st tc ts tl tt w h h8 hn hnc hh hnh (.inr hr)
    | true => exact asked_late A n c lo H nh ch lh st tc ts tl tt w h h8 hn hnc hh hnh hz hr
  · exact asked_early A n c lo H nh ch lh st tc ts tl tt w h h8 hn hnc hh hnh (.inl hz)
end Go.Proofs.Ytmpjdploacfmeaa
