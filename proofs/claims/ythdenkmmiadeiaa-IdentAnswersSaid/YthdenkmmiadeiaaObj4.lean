/- Contracts: objects of a sort (a range over a function), from one on. -/
import Derived.Test.YthdenkmmiadeiaaObj3
import Derived.Test.YthdenkmmiadeiaaRange
import Derived.Shelf.Abstract
namespace Go.Proofs.Ythdenkmmiadeiaa
set_option linter.unusedSimpArgs false
set_option linter.unusedVariables false
open Go.RowKit

attribute [local go_sem] Oper.semAt_some

/-- Which IDs a sort has. -/
def below (sort : Int) : Int := if sort = 1 then 3 else if sort = 2 then 7 else 256
def keepS (sort id : Int) : Bool := decide (sort = 3) || (decide (0 ≤ id) && decide (id < below sort))
def ofS (S : List (Int × List Int)) (sort : Int) : List (Int × List Int) := if sort < 1 ∨ 4 ≤ sort then [] else S.filter (fun x => keepS sort x.1)

theorem mem_nil_ {α : Type} {P : α → Prop} : ∀ x ∈ ([] : List α), P x := by simp

set_option maxHeartbeats 1000000 in
/-- Of's own test of an ID. -/
theorem of1_any (sort id : Int) (b0 b1 : Nat) (w : World) (h0 : w.cell? ⟨b0, 0, none⟩ = some (.int .i64 sort)) (h1 : Blk w b1 116 #[.int .i64 0, .int .i64 3, .int .i64 7, .int .i64 256]) (hs : sort = 1 ∨ sort = 2 ∨ sort = 3) :
    Calls Try.prog 67 #[.int .i64 id, .pointer (some ⟨b0, 0, none⟩), .pointer (some ⟨b1, 0, none⟩)] w fun e w' => e = .returned (.bool (keepS sort id)) ∧ w' = w := by
  have q : ∀ i, w.cell? ⟨b1, i, none⟩ = #[Value.int .i64 0, .int .i64 3, .int .i64 7, .int .i64 256][i]? := fun i => h1.cell i
  rcases hs with rfl | rfl | rfl
  all_goals
    go_enter Try.func67, Try.ntmps67
    go_wp2
  all_goals
    go_ret
    refine ⟨congrArg Ending.returned (congrArg Value.bool ?_), rfl⟩
    simp [keepS, below]
    try omega

/-- Calls in the fence that lets all in. -/
theorem inw {P : Program} {f : FuncId} {args : Array Value} {w : World} {R : Ending → World → Prop} {n : Nat} (h : Calls P f args w R) : CallsIn Fence.wide n P f args w R := callsIn_wide.2 h

theorem inw2 {P : Program} {f : FuncId} {args : Array Value} {w : World} {R Q : Ending → World → Prop} {n m : Nat} (h : Calls P f args w R) (k : ∀ e w', R e w' → Q e w') :
    (Fence.wide.depth.isSome = true → 1 ≤ m) ∧ CallsIn Fence.wide n P f args w Q := ⟨fun h => (by cases h), (inw h).mono k⟩

/-- What a yielded object lies in. -/
def EncO (B : Nat) (x : Ob) (v : Value) (W : World) : Prop := ∃ y : Ob, v = y.val ∧ y.s = x.s ∧ y.n = x.n ∧ W.ownsRow B 5 1 (.slice y.A y.n y.c) y.n (nums .u8 y.d)

/-- How many of the first k are taken. -/
def cntS (sort : Int) (L : List Ob) (k : Nat) : Nat := ((L.take k).filter (fun x => keepS sort x.id)).length
theorem cnt_hit {sort : Int} {L : List Ob} {k : Nat} {x : Ob} (hx : L[k]? = some x) (h : keepS sort x.id = true) : (L.filter (fun x => keepS sort x.id))[cntS sort L k]? = some x ∧ cntS sort L (k + 1) = cntS sort L k + 1 := by
  obtain ⟨hk, e⟩ := List.getElem?_eq_some_iff.1 hx
  constructor
  · conv => lhs; arg 1; rw [← List.take_append_drop k L]
    rw [List.filter_append, cntS, List.getElem?_append_right (Nat.le_refl _), Nat.sub_self, List.drop_eq_getElem_cons hk, e, List.filter_cons_of_pos (by simpa using h)]
    rfl
  · rw [cntS, List.take_add_one, hx, List.filter_append, List.length_append]
    simp [cntS, h]
theorem cnt_miss {sort : Int} {L : List Ob} {k : Nat} {x : Ob} (hx : L[k]? = some x) (h : keepS sort x.id = false) : cntS sort L (k + 1) = cntS sort L k := by
  rw [cntS, List.take_add_one, hx, List.filter_append, List.length_append]
  simp [cntS, h]
theorem cnt_all {sort : Int} {L : List Ob} : cntS sort L L.length = (L.filter (fun x => keepS sort x.id)).length := by
  rw [cntS, List.take_length]

set_option maxHeartbeats 2000000 in
set_option maxRecDepth 100000 in
/-- The iterator: each object that is taken, in new memory. -/
theorem taken1_seq (n : Nat) (A : Option Addr) (m c : Nat) (L : List Ob) (sort : Int) (bl bt b0 b1 : Nat) (S : Nat → Prop) (w₀ w : World) (h : Obs w₀ A m L) (hn : m ≤ c) (hc : c ≤ 9223372036854775807) (hL : ∀ x ∈ L, x.n ≤ 100000)
    (hw : Fr nob w₀ w) (hS : ∀ b, S b → w₀.heap.size ≤ b)
    (hbl : w.cell? ⟨bl, 0, none⟩ = some (.slice A m c)) (hbt : w.cell? ⟨bt, 0, none⟩ = some (.func (.func 67) #[] #[.pointer (some ⟨b0, 0, none⟩), .pointer (some ⟨b1, 0, none⟩)]))
    (h0 : w.cell? ⟨b0, 0, none⟩ = some (.int .i64 sort)) (h1 : Blk w b1 116 #[.int .i64 0, .int .i64 3, .int .i64 7, .int .i64 256]) (hs : sort = 1 ∨ sort = 2 ∨ sort = 3)
    (nt : ¬ S bt ∧ bt < w.heap.size) (n0 : ¬ S b0 ∧ b0 < w.heap.size) (n1 : ¬ S b1) (nl : bl < w.heap.size) :
    SeqV Fence.wide n Try.prog 98 #[.pointer (some ⟨bl, 0, none⟩), .pointer (some ⟨bt, 0, none⟩)] (L.filter (fun x => keepS sort x.id)) (EncO w₀.heap.size) S w := by
  intro l J Jx W hW hJ hJx hY hJ0
  have hLl := h.len
  have hfn : ∀ f, Fence.wide.fn f := fun _ => trivial
  refine callsIn_of_wp Try.func98 rfl trivial ?_ rfl
  simp only [Try.ntmps98, List.size_toArray, List.length_cons, List.length_nil, Nat.reduceAdd, Nat.reduceSub, Array.replicate_succ, Array.replicate_zero, List.push_toArray, List.append_toArray, List.nil_append, List.cons_append]
  have hbl' : W.cell? ⟨bl, 0, none⟩ = some (.slice A m c) := (hW.cell (p := ⟨bl, 0, none⟩) nl id).trans hbl
  gi_wp2
  gi_loopw [8] (fun i wr => ∃ k : Nat, k ≤ m ∧ i = .int .i64 k ∧ J (cntS sort L k) wr ∧ Fr S w wr) (fun i _ => m - (intOf i).toNat)
  case atStart => exact ⟨0, by omega, rfl, hJ0, hW.of_nob⟩
  case round =>
    obtain ⟨k, hk, rfl, hJk, hf⟩ := hrel
    by_cases hlt : k < m
    · have hfr := hw.newer hf hS
      obtain ⟨b, o, x, rfl, hb, hx, hc0, hc1, hok⟩ := (h.nob hfr).at_ hlt
      have hxs := hL x (List.mem_of_getElem? hx)
      have hi0 : (0 : Int) ≤ (k : Int) ∧ (k : Int) < (m : Int) := ⟨by omega, by omega⟩
      have hbt' : wr.cell? ⟨bt, 0, none⟩ = _ := (hf.cell (p := ⟨bt, 0, none⟩) nt.2 nt.1).trans hbt
      have h0' : wr.cell? ⟨b0, 0, none⟩ = _ := (hf.cell (p := ⟨b0, 0, none⟩) n0.2 n0.1).trans h0
      have h1' := h1.fr hf n1
      have hbtz : bt < wr.heap.size := Nat.lt_of_lt_of_le nt.2 hf.size
      have h0z : b0 < wr.heap.size := Nat.lt_of_lt_of_le n0.2 hf.size
      have hfa := (Fr.refl nob wr).alloc (.cells #[.int .i64 x.id, .slice x.A x.n x.c] 49)
      gi_wp2_with fail
      refine inw2 (of1_any sort x.id b0 b1 _ ((hfa.cell (p := ⟨b0, 0, none⟩) h0z id).trans h0') (h1'.alloc _) hs) ?_
      rintro e w2 ⟨rfl, rfl⟩
      obtain ⟨kp, hkp⟩ : ∃ kp, kp = keepS sort x.id := ⟨_, rfl⟩
      rw [← hkp]
      have HX := Lib.hid hx
      have HKP := Lib.hid hkp
      clear hx hkp
      cases kp with
      | false =>
        gi_wp2_with fail
        go_roundw
        case rel => exact ⟨k + 1, by omega, by go_num, by rw [cnt_miss HX.out HKP.out.symm]; exact hJ _ _ _ hJk hfa, hf.trans hfa (fun _ _ h => False.elim h)⟩
        case measure => simp [intOf]; omega
      | true =>
        gi_wp2_with fail
        refine inw2 (copied_any x _ (hok.alloc _) hxs) ?_
        rintro e w3 ⟨y, rfl, hys, hyn, hnew, hf3⟩
        obtain ⟨hit1, hit2⟩ := cnt_hit HX.out HKP.out.symm
        obtain ⟨fn, tmps, assign, body, hy, hR⟩ := hY _ x y.val w3 hit1 ⟨y, rfl, hys, hyn, own_base hnew (Nat.le_trans hfr.size (by simp))⟩ (hJ _ _ _ hJk (hfa.trans hf3 (fun _ _ h => h)))
        have H1 := Lib.hid hys
        have H2 := Lib.hid hyn
        clear hys hyn
        gi_wp2_with fail
        refine ⟨fun h => (by cases h), hR.mono ?_⟩
        rintro e w4 (⟨rfl, hJ4, hf4⟩ | ⟨rfl, hJx4⟩)
        · gi_wp2_with fail
          go_roundw
          case rel => exact ⟨k + 1, by omega, by go_num, by rw [hit2]; exact hJ4, ((hf.trans hfa (fun _ _ h => False.elim h)).trans hf3 (fun _ _ h => False.elim h)).trans hf4 (fun _ _ h => h)⟩
          case measure => simp [intOf]; omega
        · gi_wp2_with fail
          refine bodyPost_ret (results_none rfl _ _ _) rfl ?_
          exact ⟨⟨_, rfl⟩, .inr ⟨_, hJx4⟩⟩
    · obtain rfl : k = m := by omega
      gi_wp2
      go_end0
      refine ⟨⟨_, rfl⟩, .inl ?_⟩
      rw [← cnt_all, hLl]
      exact hJk

set_option maxHeartbeats 1000000 in
theorem taken_any (A : Option Addr) (n c : Nat) (g : FuncId) (lb : Array Value) (w : World) :
    Calls Try.prog 68 #[.slice A n c, .func (.func g) #[] lb] w fun e w' => e = .returned (.func (.func 98) #[] #[.pointer (some ⟨w.heap.size, 0, none⟩), .pointer (some ⟨w.heap.size + 1, 0, none⟩)]) ∧ w' = (w.alloc (.cells #[.slice A n c] 22)).alloc (.cells #[.func (.func g) #[] lb] 76) := by
  go_enter Try.func68, Try.ntmps68
  go_wp2
  go_ret
  exact ⟨rfl, rfl⟩

/-- Objects in new memory. -/
def Newer (B : Nat) (A : Option Addr) (L : List Ob) : Prop := (∀ ad, A = some ad → B ≤ ad.block) ∧ ∀ x ∈ L, ∀ ad, x.A = some ad → B ≤ ad.block
theorem Newer.nil_ (B : Nat) : Newer B none [] := ⟨fun ad h => (by cases h), by simp⟩
/-- What Of tells. -/
def objsPost (S : List (Int × List Int)) (w : World) (e : Ending) (w' : World) : Prop :=
  Fr nob w w' ∧ ∃ A n c L, e = .returned (.slice A n c) ∧ L.map Ob.s = S ∧ Obs w' A n L ∧ n ≤ c ∧ c ≤ 9223372036854775807 ∧ (∀ x ∈ L, x.n ≤ 100000) ∧ Newer w.heap.size A L

theorem of_none_end (sort : Int) (w : World) :
    Fr nob w (((w.alloc (.cells #[.int .i64 sort] 3)).alloc (.cells #[.slice none 0 0] 22)).alloc (.cells #[.int .i64 0, .int .i64 3, .int .i64 7, .int .i64 256] 116)) ∧
    Blk (((w.alloc (.cells #[.int .i64 sort] 3)).alloc (.cells #[.slice none 0 0] 22)).alloc (.cells #[.int .i64 0, .int .i64 3, .int .i64 7, .int .i64 256] 116)) (w.heap.size + 1) 22 #[.slice none 0 0] := by
  have hb := Blk.new (w.alloc (.cells #[.int .i64 sort] 3)) 22 #[.slice none 0 0]
  rw [World.size_alloc] at hb
  exact ⟨(((Fr.refl nob w).alloc _).alloc _).alloc _, hb.alloc _⟩

set_option maxHeartbeats 1000000 in
theorem of_none (A : Option Addr) (n c : Nat) (sort : Int) (S : List (Int × List Int)) (w : World) (hs : sort < 1 ∨ 4 ≤ sort) :
    Calls Try.prog 27 #[.slice A n c, .int .i64 sort] w (objsPost (ofS S sort) w) := by
  have h0 : ofS S sort = [] := by rw [ofS, if_pos hs]
  obtain ⟨hf, hb⟩ := of_none_end sort w
  rw [h0]
  have hd : (decide (sort < 1) = true) ∨ (decide (sort < 1) = false ∧ decide (4 ≤ sort) = true) := by
    rcases hs with hs | hs
    · exact .inl (decide_eq_true hs)
    · exact .inr ⟨decide_eq_false (by omega), decide_eq_true hs⟩
  rcases hd with hd | ⟨hd, hd'⟩
  all_goals
    go_enter Try.func27, Try.ntmps27
    go_wp2_with fail
    generalize hw4 : World.alloc (World.alloc (World.alloc _ _) _) _ = w4 at hf hb ⊢
    have q4 : ∀ i, w4.cell? ⟨w.heap.size + 1, i, none⟩ = #[Value.slice none 0 0][i]? := fun i => hb.cell i
    refine bodyPost_ret (v := .slice none 0 0) (by simp [results, Try.results27, go_sem, q4]) rfl ?_
    exact ⟨hf, none, 0, 0, [], rfl, rfl, ⟨Rd.nil_ _ _ _, by simp⟩, by omega, by omega, by simp, Newer.nil_ _⟩

/-- Between two rounds of Of. -/
def OfI (w : World) (L : List Ob) (sort : Int) (k : Nat) (W : World) : Prop :=
  ∃ (v : Value) (Lk : List Ob), Blk W (w.heap.size + 1) 22 #[v] ∧ W.ownsRow (w.heap.size + 7) 49 2 v k (Lk.flatMap Ob.cs) ∧ Lk.map Ob.s = ((L.filter (fun x => keepS sort x.id)).take k).map Ob.s ∧
    (∀ y ∈ Lk, W.ownsRow w.heap.size 5 1 (.slice y.A y.n y.c) y.n (nums .u8 y.d) ∧ y.n ≤ 100000) ∧ Fr nob w W

theorem info_object : (Try.prog.info? 49).map (fun i => (i.zero, i.size, i.bytes)) = some (some (.agg #[.int .i64 0, .slice none 0 0]), 2, 32) := by kernel_rfl
/-- Objects that are owned are read. -/
theorem obs_of_own {w : World} {base base' : Nat} {A : Option Addr} {n c : Nat} {L : List Ob} (h : w.ownsRow base 49 2 (.slice A n c) n (L.flatMap Ob.cs)) (hd : ∀ y ∈ L, w.ownsRow base' 5 1 (.slice y.A y.n y.c) y.n (nums .u8 y.d) ∧ y.n ≤ 100000) : Obs w A n L :=
  ⟨Rd.of_own h, fun y hy => by
    have h1 := (hd y hy).1
    obtain ⟨A', c', e, hc, _⟩ := own_form h1
    have := own_cap h1
    injection e with _ _ e
    exact ⟨Rd.of_own h1, by omega, by omega⟩⟩

set_option maxHeartbeats 4000000 in
set_option maxRecDepth 100000 in
theorem of_some (A : Option Addr) (n c : Nat) (L : List Ob) (sort : Int) (w : World) (h : Obs w A n L) (hn : n ≤ c) (hc : c ≤ 9223372036854775807) (hL : ∀ x ∈ L, x.n ≤ 100000) (hm : n ≤ 100000) (hs : sort = 1 ∨ sort = 2 ∨ sort = 3) :
    Calls Try.prog 27 #[.slice A n c, .int .i64 sort] w (objsPost (ofS (L.map Ob.s) sort) w) := by
  have hLl := h.len
  have hfn : ∀ f, Fence.wide.fn f := fun _ => trivial
  have hd : decide (sort < 1) = false := decide_eq_false (by omega)
  have hd' : decide (4 ≤ sort) = false := decide_eq_false (by omega)
  refine (callsIn_wide (n := 3)).1 (callsIn_of_wp_marks Try.func27 rfl trivial ?_ rfl)
  simp only [Try.ntmps27, List.size_toArray, List.length_cons, List.length_nil, Nat.reduceAdd, Nat.reduceSub, Array.replicate_succ, Array.replicate_zero, List.push_toArray, List.append_toArray, List.nil_append, List.cons_append]
  gi_wp2_with fail
  refine (inw (taken_any A n c _ _ _)).mono ?_
  rintro e w1 ⟨rfl, hw1⟩
  have hz1 : w1.heap.size = w.heap.size + 5 := by rw [hw1]; simp
  have hf1 : Fr nob w w1 := by rw [hw1]; exact (((((Fr.refl nob w).alloc _).alloc _).alloc _).alloc _).alloc _
  have b0 : Blk w1 w.heap.size 3 #[.int .i64 sort] := by rw [hw1]; exact ((((Blk.new w _ _).alloc _).alloc _).alloc _).alloc _
  have b1 : Blk w1 (w.heap.size + 1) 22 #[.slice none 0 0] := by
    rw [hw1]
    have hb := Blk.new (w.alloc (.cells #[.int .i64 sort] 3)) 22 #[.slice none 0 0]
    rw [World.size_alloc] at hb
    exact ((hb.alloc _).alloc _).alloc _
  have b2 : Blk w1 (w.heap.size + 1 + 1) 116 #[.int .i64 0, .int .i64 3, .int .i64 7, .int .i64 256] := by
    rw [hw1]
    have hb := Blk.new ((w.alloc (.cells #[.int .i64 sort] 3)).alloc (.cells #[.slice none 0 0] 22)) 116 #[.int .i64 0, .int .i64 3, .int .i64 7, .int .i64 256]
    simp only [World.size_alloc] at hb
    exact (hb.alloc _).alloc _
  obtain ⟨fv, hfv⟩ : ∃ fv, fv = Value.func (.func 67) #[] #[.pointer (some ⟨w.heap.size, 0, none⟩), .pointer (some ⟨w.heap.size + 1 + 1, 0, none⟩)] := ⟨_, rfl⟩
  rw [← hfv] at hw1
  have b3 : Blk w1 (w.heap.size + 1 + 1 + 1) 22 #[.slice A n c] := by
    rw [hw1]
    have hb := Blk.new (((w.alloc (.cells #[.int .i64 sort] 3)).alloc (.cells #[.slice none 0 0] 22)).alloc (.cells #[.int .i64 0, .int .i64 3, .int .i64 7, .int .i64 256] 116)) 22 #[.slice A n c]
    simp only [World.size_alloc] at hb
    exact hb.alloc _
  have b4 : Blk w1 (w.heap.size + 1 + 1 + 1 + 1) 76 #[fv] := by
    rw [hw1]
    have hb := Blk.new ((((w.alloc (.cells #[.int .i64 sort] 3)).alloc (.cells #[.slice none 0 0] 22)).alloc (.cells #[.int .i64 0, .int .i64 3, .int .i64 7, .int .i64 256] 116)).alloc (.cells #[.slice A n c] 22)) 76 #[fv]
    simp only [World.size_alloc] at hb
    exact hb
  rw [hfv] at b4
  clear hw1 hfv
  gi_wp2_with fail
  have hseq := taken1_seq 2 A n c L sort (w.heap.size + 1 + 1 + 1) (w.heap.size + 1 + 1 + 1 + 1) w.heap.size (w.heap.size + 1 + 1) (fun b => b = w.heap.size + 1 ∨ w.heap.size + 5 ≤ b) w w1 h hn hc hL hf1
    (fun b hb => by omega) (b3.cell 0) (b4.cell 0) (b0.cell 0) b2 hs (by omega) (by omega) (by omega) (by omega)
  refine range_v rfl (by omega) rfl trivial (enters_of Try.func98 (by kernel_rfl) rfl) hseq rfl (fun b hb => by omega) (OfI w L sort) (fun _ _ _ => False)
    ?hI (fun _ _ _ _ h _ => h) ?h0 ?hround ?hdone (fun _ _ _ h _ => h.elim)
  case hI =>
    rintro k W W' ⟨v, Lk, hb, ho, hm, hd, hf⟩ hk
    exact ⟨v, Lk, hk.blk hb, hk.own ho, hm, fun y hy => ⟨hk.own (hd y hy).1, (hd y hy).2⟩, hk.frn (by omega) hf⟩
  case h0 => exact ⟨_, [], b1, World.ownsRow_nil _ _ _ _, rfl, by simp, hf1⟩
  case hdone =>
    rintro W ⟨v, Lk, hb, ho, hmm, hd, hf⟩ hD
    obtain ⟨A', c', rfl, hcc, _⟩ := own_form ho
    have hcap := own_cap ho
    have q0 : ∀ i, W.cell? ⟨w.heap.size + 1, i, none⟩ = #[Value.slice A' (L.filter (fun x => keepS sort x.id)).length c'][i]? := fun i => hb.cell i
    have q1 : ∀ i, W.frozen? ⟨w.heap.size + 1, i, none⟩ = false := fun i => hb.frozen i
    gi_wp2_with fail
    have hb4 : Blk (W.setCell ⟨w.heap.size + 1, 0, none⟩ (.slice A' (L.filter (fun x => keepS sort x.id)).length c')) (w.heap.size + 1) 22 #[.slice A' (L.filter (fun x => keepS sort x.id)).length c'] := by
      simpa using hb.set_ 0 (.slice A' (L.filter (fun x => keepS sort x.id)).length c')
    have ho4 := own_set (i := 0) ho hb (by decide) (.slice A' (L.filter (fun x => keepS sort x.id)).length c')
    have hd4 : ∀ y ∈ Lk, _ ∧ y.n ≤ 100000 := fun y hy => ⟨own_set (i := 0) (hd y hy).1 hb (by decide) (.slice A' (L.filter (fun x => keepS sort x.id)).length c'), (hd y hy).2⟩
    have hf4 : Fr nob w (W.setCell ⟨w.heap.size + 1, 0, none⟩ (.slice A' (L.filter (fun x => keepS sort x.id)).length c')) := hf.set_ (.inr (by simp)) _
    have hD4 : (W.setCell ⟨w.heap.size + 1, 0, none⟩ (.slice A' (L.filter (fun x => keepS sort x.id)).length c')).heap[w1.heap.size]? = some (Obj.deferred (some [])) := (Below.heap_setCell _ _ _ _ (by simp; omega)).trans hD
    generalize hw4 : World.setCell _ _ _ = w4 at hb4 ho4 hd4 hf4 hD4 ⊢
    refine ⟨by simp, .inl ⟨_, _, rfl, run_takeDeferred hD4, ?_⟩⟩
    have hk5 : Kc (w.heap.size + 5) w4 (w4.putObj w1.heap.size (.deferred none)) := Kc.putObj w4 _ hD4 (fun _ _ _ h => by cases h) (by omega)
    have q5 : ∀ i, (w4.putObj w1.heap.size (.deferred none)).cell? ⟨w.heap.size + 1, i, none⟩ = #[Value.slice A' (L.filter (fun x => keepS sort x.id)).length c'][i]? := fun i => (hk5.blk hb4).cell i
    refine ⟨.slice A' (L.filter (fun x => keepS sort x.id)).length c', by simp [results, Try.results27, go_sem, q5], ?_⟩
    refine ⟨hk5.frn (by omega) hf4, A', _, c', Lk, rfl, ?_, obs_of_own (hk5.own ho4) (fun y hy => ⟨hk5.own (hd4 y hy).1, (hd4 y hy).2⟩), hcc, hcap, fun y hy => (hd4 y hy).2, fun ad h => by have := own_ge ho4 ad h; omega, fun y hy => own_ge (hd4 y hy).1⟩
    rw [hmm, List.take_of_length_le (Nat.le_refl _), ofS, if_neg (by omega), List.filter_map]
    rfl
  case hround =>
    rintro l k x v W hl hx ⟨y, rfl, hys, hyn, hyo⟩ ⟨v0, Lk, hb, ho, hmm, hd, hf⟩ hsz
    obtain ⟨yi, yA, yn, yc, yd⟩ := y
    have hkl : k < n := by
      have h1 := (List.getElem?_eq_some_iff.1 hx).1
      have h2 := List.length_filter_le (fun x : Ob => keepS sort x.id) L
      omega
    have hxn : x.n ≤ 100000 := hL x (List.mem_filter.1 (List.mem_of_getElem? hx)).1
    have H1 := Lib.hid hys
    have H2 := Lib.hid hyn
    clear hys hyn
    have k0 := Blk.new W 49 #[.int .i64 yi, .slice yA yn yc]
    have f0 := (Fr.refl nob W).alloc (.cells #[.int .i64 yi, .slice yA yn yc] 49)
    have s0 := World.size_alloc W (.cells #[.int .i64 yi, .slice yA yn yc] 49)
    have hb' := hb.alloc (.cells #[.int .i64 yi, .slice yA yn yc] 49)
    have ho' := ho.alloc (.cells #[.int .i64 yi, .slice yA yn yc] 49)
    have hyo' := hyo.alloc (.cells #[.int .i64 yi, .slice yA yn yc] 49)
    have hd' : ∀ y ∈ Lk, (W.alloc (.cells #[.int .i64 yi, .slice yA yn yc] 49)).ownsRow w.heap.size 5 1 (.slice y.A y.n y.c) y.n (nums .u8 y.d) ∧ y.n ≤ 100000 := fun y hy => ⟨(hd y hy).1.alloc _, (hd y hy).2⟩
    have hf' := hf.alloc (.cells #[.int .i64 yi, .slice yA yn yc] 49)
    simp only [Ob.val]
    gi_wp2_with fail
    rintro w2 hkc hz2
    obtain ⟨A0, c0, rfl, _⟩ := own_form ho
    have k2 := hkc.blk k0
    have hb2 := hkc.blk hb'
    have ho2 := hkc.own ho'
    have hyo2 := hkc.own hyo'
    have hd2 : ∀ y ∈ Lk, w2.ownsRow w.heap.size 5 1 (.slice y.A y.n y.c) y.n (nums .u8 y.d) ∧ y.n ≤ 100000 := fun y hy => ⟨hkc.own (hd' y hy).1, (hd' y hy).2⟩
    have hf2 := hkc.frn (by omega) hf'
    have q0 : ∀ i, w2.cell? ⟨W.heap.size, i, none⟩ = #[Value.int .i64 yi, .slice yA yn yc][i]? := fun i => k2.cell i
    have q1 : ∀ i, w2.cell? ⟨w.heap.size + 1, i, none⟩ = #[Value.slice A0 k c0][i]? := fun i => hb2.cell i
    have hsz2 : w.heap.size + 7 ≤ w2.heap.size := by omega
    have hlt2 : W.heap.size < w2.heap.size := by omega
    have hlt3 : w.heap.size + 1 < w2.heap.size := by omega
    clear hz2
    gi_wp2_with (gi_at_builtin; (refine app_oneIn (P := Try.prog) (W := w2) (w.heap.size + 7) rfl _ _ _ 49 (.agg #[.int .i64 0, .slice none 0 0]) 2 32 rfl Try.underlying22 info_object rfl (by omega) (.slice A0 k c0) k _ _ rfl rfl rfl (by simp [Value.oneCell']) ho2 hsz2 (by omega) (by omega) ?_); intro v1 w3 hown3 hg3 hat3; obtain ⟨A1, c1, rfl, _⟩ := own_form hown3; have hb3 := hb2.grown hg3 (fun e => by have := own_at ho2 _ e.symm; omega); have q2 : ∀ i, w3.cell? ⟨w.heap.size + 1, i, none⟩ = #[Value.slice A0 k c0][i]? := fun i => hb3.cell i; have q3 : ∀ i, w3.frozen? ⟨w.heap.size + 1, i, none⟩ = false := fun i => hb3.frozen i)
    have hd3 : ∀ y ∈ Lk, w3.ownsRow w.heap.size 5 1 (.slice y.A y.n y.c) y.n (nums .u8 y.d) ∧ y.n ≤ 100000 := fun y hy => ⟨own_other (hd2 y hy).1 hg3 (own_block ho2) (by decide), (hd2 y hy).2⟩
    have hy3 := own_other hyo2 hg3 (own_block ho2) (by decide)
    have f23 : Fr (fun b => w.heap.size + 7 ≤ b) w2 w3 := (Fr.refl _ _).grown hg3 (fun g hg => .inl (own_at ho2 g hg))
    have hf3 : Fr nob w w3 := hf2.newer f23 (fun i hi => by omega)
    have hb4 : Blk (w3.setCell ⟨w.heap.size + 1, 0, none⟩ (.slice A1 (k + 1) c1)) (w.heap.size + 1) 22 #[.slice A1 (k + 1) c1] := by
      simpa using hb3.set_ 0 (.slice A1 (k + 1) c1)
    have ho4 := own_set (i := 0) hown3 hb3 (by decide) (.slice A1 (k + 1) c1)
    have hy4 := own_set (i := 0) hy3 hb3 (by decide) (.slice A1 (k + 1) c1)
    have hd4 : ∀ y ∈ Lk, _ ∧ y.n ≤ 100000 := fun y hy => ⟨own_set (i := 0) (hd3 y hy).1 hb3 (by decide) (.slice A1 (k + 1) c1), (hd3 y hy).2⟩
    have f24 := (f23.more (T := fun b => (b = w.heap.size + 1 ∨ w.heap.size + 5 ≤ b) ∧ b ≠ w.heap.size + 5 ∧ b ≠ w.heap.size + 5 + 1) (fun i hi => by omega)).set_ (p := ⟨w.heap.size + 1, 0, none⟩) (.inl (by simp)) (.slice A1 (k + 1) c1)
    refine ⟨f24, .slice A1 (k + 1) c1, Lk ++ [⟨yi, yA, yn, yc, yd⟩], hb4, ?_, ?_, ?_, hf3.set_ (.inr (by simp)) _⟩
    · rw [List.flatMap_append]
      simpa [Ob.cs] using ho4
    · rw [List.map_append, hmm, List.take_add_one, hx, List.map_append]
      simp [H1.out]
    · intro y hy
      rcases List.mem_append.1 hy with hy | hy
      · exact hd4 y hy
      · simp at hy
        subst hy
        exact ⟨hy4, (show yn ≤ 100000 from (show yn = x.n from H2.out) ▸ hxn)⟩

theorem of_any (A : Option Addr) (n c : Nat) (L : List Ob) (sort : Int) (w : World) (h : Obs w A n L) (hn : n ≤ c) (hc : c ≤ 9223372036854775807) (hL : ∀ x ∈ L, x.n ≤ 100000) (hm : n ≤ 100000) :
    Calls Try.prog 27 #[.slice A n c, .int .i64 sort] w (objsPost (ofS (L.map Ob.s) sort) w) := by
  by_cases hs : sort < 1 ∨ 4 ≤ sort
  · exact of_none A n c sort _ w hs
  · exact of_some A n c L sort w h hn hc hL hm (by omega)
end Go.Proofs.Ythdenkmmiadeiaa
