/- Layer 21's law IdentOne, walked. -/
import Derived.Test.YthdenkmmiadeiaaId9
namespace Go.Proofs.Ythdenkmmiadeiaa
set_option linter.unusedSimpArgs false
set_option linter.unusedVariables false
open Go.RowKit

theorem find_in {S : List (Int × List Int)} {id : Int} {x : Int × List Int} (h : findS S id = some x) : x ∈ S ∧ x.1 = id := by
  rw [findS] at h
  exact ⟨List.mem_of_find?_eq_some h, by have := List.find?_some h; simpa using this⟩
theorem ans_of {S : List (Int × List Int)} (h : rightS S = true) (a b : Int) : answerS S [14, a, b] = if a = 1 ∨ a = 2 ∨ a = 3 then told (writeS (streamP S a b)) else if a = 4 then (match findS S b with | none => ([], 2) | some x => told (writeS (oneP S x))) else ([], 3) := by
  rw [answerS, if_neg (by rw [h]; simp), if_neg (by simp), if_neg (by simp)]
  rfl
theorem one_ans {S : List (Int × List Int)} (h : rightS S = true) {x : Int × List Int} {id : Int} (hx : findS S id = some x) : ∃ b, answerS S [14, 4, id] = (b, 0) ∧ readS b = some (oneP S x) ∧ ((∀ x ∈ S, bytes8 x.2) → bytes8 b) ∧ b.length ≤ 252 := by
  obtain ⟨hm, hid⟩ := find_in hx
  have hin := right_in h x hm
  have hlv := sorts_level h
  have hmay : ptMay (oneP S x) = true := by
    simp only [oneP, ptMay, Bool.and_eq_true, Bool.or_eq_true, decide_eq_true_eq, inB, List.all_eq_true, obMay]
    refine ⟨⟨⟨⟨.inl trivial, fun y hy => ?_⟩, by simp⟩, ⟨decide_eq_true hlv.1, decide_eq_true hlv.2⟩⟩, by simp⟩
    simp at hy
    subst hy
    omega
  have hw : writeS (oneP S x) = some (headB (oneP S x) ++ objsB [x]) := by
    have hl : 6 + (objsB (oneP S x).S).length ≤ 252 := by
      show 6 + (objsB [x]).length ≤ 252
      simp [objsB, obB]
      omega
    rw [writeS, if_pos ⟨hmay, hl⟩]
    rfl
  refine ⟨headB (oneP S x) ++ objsB [x], ?_, (read_write hw).1, fun h8 => bytes_write hw (fun y hy => ?_), (read_write hw).2⟩
  · rw [ans_of h, if_neg (by decide), if_pos rfl, hx]
    show told (writeS (oneP S x)) = _
    rw [hw]
    rfl
  · simp [oneP] at hy
    subst hy
    exact h8 _ hm
theorem one_none {S : List (Int × List Int)} (h : rightS S = true) {id : Int} (hx : findS S id = none) : answerS S [14, 4, id] = ([], 2) := by
  rw [ans_of h, if_neg (by decide), if_pos rfl, hx]
theorem of_first {S : List (Int × List Int)} (h : rightS S = true) {sort : Int} (hs : sort = 1 ∨ sort = 2 ∨ sort = 3) : ((ofS S sort).getD 0 (0, [])).1 = 0 := by
  obtain ⟨x, y, z, r, hx, h0, _, _⟩ := right_three h
  rw [ofS, if_neg (by omega), hx, List.filter_cons, if_pos]
  · exact h0
  · rw [h0]; rcases hs with rfl | rfl | rfl <;> rfl
theorem stream_none {S : List (Int × List Int)} (h : rightS S = true) {kind id : Int} (hs : kind = 1 ∨ kind = 2 ∨ kind = 3) (hx : findS S id = none) : ∃ b, answerS S [14, kind, id] = (b, 0) ∧ answerS S [14, kind, 0] = (b, 0) ∧ b.length ≤ 252 := by
  have hT3 := sorts_three h hs
  obtain ⟨b, q, f, hP⟩ := piece_at h hs (k := 0) (by omega)
  have ha := hP.ans
  rw [of_first h hs] at ha
  refine ⟨b, ?_, ha, hP.short⟩
  rw [← ha]
  have hn : idxS (ofS S kind) id = none := by
    rw [idxS, List.findIdx?_eq_none_iff]
    intro y hy
    have hyS := ((of_sub hs).1 hy).1
    rw [findS] at hx
    exact List.find?_eq_none.1 hx y hyS |> fun h => by simpa using h
  have h0 : idxS (ofS S kind) 0 = some 0 := by
    have hr := h
    rw [rightS, Bool.and_eq_true] at hr
    have hp := of_pair (right_pair hr.1).1 kind
    have := idx_at hp (k := 0) (by omega)
    have e := of_first h hs
    rw [List.getD_eq_getElem?_getD, List.getElem?_eq_getElem (by omega)] at e
    simp only [Option.getD_some] at e
    rwa [e] at this
  have hf : fromS S kind id = fromS S kind 0 := by rw [fromS, fromS, hn, h0]; rfl
  rw [ans_of h, ans_of h, if_pos hs, if_pos hs, streamP, streamP, hf]
theorem rd_of_nil {w : World} {A : Option Addr} {k : Nat} (h : Rd w 1 A k (nums .u8 [])) : k = 0 := by have := h.numlen; simpa using this.symm

set_option maxHeartbeats 4000000 in
set_option maxRecDepth 100000 in
theorem identOne_any (A : Option Addr) (n c : Nat) (L : List Ob) (id sort : Int) (w : World) (hO : Obs w A n L) (hn : n ≤ c) (hc : c ≤ 9223372036854775807) (h8 : ∀ x ∈ L, bytes8 x.d) (hid : 0 ≤ id ∧ id ≤ 255) (hsort : 0 ≤ sort ∧ sort ≤ 255) :
    Calls Try.prog 7 #[.slice A n c, .int .u8 id, .int .u8 sort] w fun e w' => e = .returned (.bool true) ∧ Fr nob w w' := by
  obtain ⟨S, hS⟩ : ∃ S, S = L.map Ob.s := ⟨_, rfl⟩
  have hS8 : ∀ x ∈ S, bytes8 x.2 := fun x hx => by
    rw [hS] at hx
    obtain ⟨y, hy, rfl⟩ := List.mem_map.1 hx
    exact h8 y hy
  have HS8 := Lib.hid hS8
  have HS := Lib.hid hS
  clear hS8 hS
  go_enter Try.func7, Try.ntmps7
  go_wp2_with fail
  refine (few_any A n c L _ hO hn hc).mono ?_
  rintro e w1 ⟨fb, rfl, hf1, hfew⟩
  cases fb with
  | false =>
    go_wp2_with (go_at_call 12; refine (ident_sure _).mono ?_; rintro e w' ⟨rfl, hf⟩)
    go_ret
    exact ⟨rfl, hf1.trans hf (fun _ _ h => h)⟩
  | true =>
    have hm140 := hfew rfl
    clear hfew
    have hO1 := hO.nob hf1
    go_wp2_with fail
    refine (right_any A n c L _ hO1 hn hc).mono ?_
    rintro e w2 ⟨rfl, hf2⟩
    rw [← HS.out]
    have hf02 := hf1.trans hf2 (fun _ _ h => h)
    cases hrt : rightS S with
    | false =>
      have HRT := Lib.hid hrt
      clear hrt
      go_wp2_with (go_at_call 12; refine (ident_sure _).mono ?_; rintro e w' ⟨rfl, hf⟩)
      go_ret
      exact ⟨rfl, hf02.trans hf (fun _ _ h => h)⟩
    | true =>
      have HRT := Lib.hid hrt
      clear hrt
      have hxl : ∀ x ∈ L, x.n ≤ 100000 := fun x hx => by
        have h1 := right_in HRT.out x.s (by rw [HS.out]; exact List.mem_map.2 ⟨x, hx, rfl⟩)
        have h2 := (hO.ok x hx).len
        simp only [Ob.s] at h1
        omega
      have hans := fun (V : World) (hV : Fr nob w V) B d (hr : Rd V 1 B 3 (nums .u8 d)) (hd : bytes8 d) => ident_answer A n c L B 3 3 d V (hO.nob hV) hn hc hm140 hr hd (by omega) (by omega)
      rw [← HS.out] at hans
      have HANS := Lib.hid hans
      have hw1 : IntKind.i64.wrap id = id := IntWalk.i64_in _ (by omega)
      clear hans hf1 hf2 hO1
      have hfi := find_any A n c L id w2 (hO.nob hf02) hn hc hxl
      rw [← HS.out] at hfi
      have HFI := Lib.hid hfi
      clear hfi
      go_wp2_with fail
      refine HFI.out.mono ?_
      rintro e w3 ⟨hf3, y, ok, rfl, hyok, hfs, -, -⟩
      obtain ⟨yi, yA, yn, yc, yd⟩ := y
      rw [Ob.val]
      dsimp only
      have HFS := Lib.hid hfs
      clear hfs
      have hf03 := hf02.trans hf3 (fun _ _ h => h)
      have hby := Blk.new w3 49 #[.int .i64 yi, .slice yA yn yc]
      have hf04 := hf03.alloc (.cells #[.int .i64 yi, .slice yA yn yc] 49)
      have hyok4 := Ob.ok.nob (x := ⟨yi, yA, yn, yc, yd⟩) hyok ((Fr.refl nob w3).alloc (.cells #[.int .i64 yi, .slice yA yn yc] 49))
      obtain ⟨w4, hw4⟩ : ∃ w4, w4 = w3.alloc (.cells #[.int .i64 yi, .slice yA yn yc] 49) := ⟨_, rfl⟩
      have hr4 := rd3 w4 14 4 id
      have hz4 : w4.heap.size = w3.heap.size + 1 := by rw [hw4]; simp
      rw [hz4] at hr4
      rw [← hw4] at hby hf04 hyok4
      have HW4 := Lib.hid hw4
      clear hw4 hz4 hf3 hf03 hyok
      have ha := HANS.out (w4.alloc (.cells #[.int .u8 14, .int .u8 4, .int .u8 id] 5)) (hf04.alloc _) _ _ hr4 (three8 _ _ _ (by omega))
      cases ok with
      | false =>
        have hnone : findS S id = none := by have := HFS.out; rwa [if_neg (by simp)] at this
        rw [one_none HRT.out hnone] at ha
        obtain ⟨kind, hkind⟩ : ∃ kind, kind = 1 + sort % 3 := ⟨_, rfl⟩
        obtain ⟨b, ha1, ha2, hbl⟩ := stream_none HRT.out (kind := kind) (by omega) hnone
        have HA := Lib.hid ha
        have HA1 := Lib.hid ha1
        have HA2 := Lib.hid ha2
        have hkb : 0 ≤ kind ∧ kind ≤ 255 := by omega
        have hw2 : IntKind.u8.wrap (sort.tmod 3) = sort % 3 := by
          rw [Int.tmod_eq_emod_of_nonneg hsort.1]
          simp [IntKind.wrap, IntKind.bits, IntKind.signed]; omega
        have hw3 : IntKind.u8.wrap (1 + sort % 3) = kind := by
          rw [hkind]
          simp [IntKind.wrap, IntKind.bits, IntKind.signed]; omega
        clear hkind ha ha1 ha2 hnone
        go_wp2_with fail
        rw [← HW4.out]
        refine HA.out.mono ?_
        rintro e w5 ⟨A5, k5, c5, rfl, hr5, hk5, hc5, -, hf5⟩
        dsimp only at hr5 ⊢
        have hk0 := rd_of_nil hr5
        subst hk0
        have hf05 : Fr nob w w5 := (hf04.alloc (.cells #[.int .u8 14, .int .u8 4, .int .u8 id] 5)).trans hf5 (fun _ _ h => h)
        go_wp2_with fail
        have hb1 := HANS.out (w5.alloc (.cells #[.int .u8 14, .int .u8 kind, .int .u8 id] 5)) (hf05.alloc _) _ _ (rd3 w5 14 kind id) (three8 _ _ _ (by omega))
        rw [HA1.out] at hb1
        refine hb1.mono ?_
        clear hb1
        rintro e w6 ⟨A6, k6, c6, rfl, hr6, hk6, hc6, -, hf6⟩
        dsimp only at hr6 ⊢
        have hf06 : Fr nob w w6 := (hf05.alloc (.cells #[.int .u8 14, .int .u8 kind, .int .u8 id] 5)).trans hf6 (fun _ _ h => h)
        go_wp2_with fail
        have hb2 := HANS.out (w6.alloc (.cells #[.int .u8 14, .int .u8 kind, .int .u8 0] 5)) (hf06.alloc _) _ _ (rd3 w6 14 kind 0) (three8 _ _ _ (by omega))
        rw [HA2.out] at hb2
        refine hb2.mono ?_
        clear hb2
        rintro e w7 ⟨A7, k7, c7, rfl, hr7, hk7, hc7, -, hf7⟩
        dsimp only at hr7 ⊢
        have hf67 : Fr nob w6 w7 := ((Fr.refl nob w6).alloc (.cells #[.int .u8 14, .int .u8 kind, .int .u8 0] 5)).trans hf7 (fun _ _ h => h)
        have hf07 := hf06.trans hf67 (fun _ _ h => h)
        go_wp2_with fail
        refine (bytes_any A6 A7 k6 k7 c6 c7 b b _ (hr6.nob hf67) hr7 (by omega) (by omega)).mono ?_
        rintro e w8 ⟨rfl, k8, rfl⟩
        rw [show sameInts b b = true by simp [sameInts]]
        go_wp2_with (go_at_call 12; refine (ident_sure _).mono ?_; rintro e w' ⟨rfl, hf⟩)
        go_ret
        exact ⟨rfl, (hf07.drewN _).trans hf (fun _ _ h => h)⟩
      | true =>
        have hsome : findS S id = some (yi, yd) := by have := HFS.out; rwa [if_pos rfl] at this
        obtain ⟨b, ha1, hrb, hb8, hbl⟩ := one_ans HRT.out hsome
        rw [ha1] at ha
        have HA := Lib.hid ha
        have HRB := Lib.hid hrb
        have hbb := hb8 HS8.out
        clear ha ha1 hrb hb8 hsome
        go_wp2_with fail
        rw [← HW4.out]
        refine HA.out.mono ?_
        rintro e w5 ⟨A5, k5, c5, rfl, hr5, hk5, hc5, -, hf5⟩
        dsimp only at hr5 ⊢
        have hf45 : Fr nob w4 w5 := ((Fr.refl nob w4).alloc (.cells #[.int .u8 14, .int .u8 4, .int .u8 id] 5)).trans hf5 (fun _ _ h => h)
        go_wp2_with fail
        have hrd := ident_read A5 k5 c5 b w5 hr5 hbb hk5 hc5
        rw [readPost, HRB.out, show errR (some (oneP S (yi, yd))) = 0 from rfl] at hrd
        refine hrd.mono ?_
        clear hrd
        rintro e w6 ⟨p, rfl, hpok, hps, -, hf6, -⟩
        obtain ⟨pc, pl, pm, px, pA, pn, pcp, pL⟩ := p
        rw [Pt.val, Pt.cells]
        dsimp only
        obtain rfl : pc = 4 := congrArg Ps.code hps
        obtain rfl : pm = false := congrArg Ps.more hps
        have hpS : pL.map Ob.s = [(yi, yd)] := congrArg Ps.S hps
        have HPSS := Lib.hid hpS
        have hbp := Blk.new w6 24 #[.int .i64 4, .int .i64 pl, .bool false, .int .i64 px, .slice pA pn pcp]
        have hf46 := hf45.trans hf6 (fun _ _ h => h)
        have hf47 := hf46.alloc (.cells #[.int .i64 4, .int .i64 pl, .bool false, .int .i64 px, .slice pA pn pcp] 24)
        have hpO := hpok.1.nob ((Fr.refl nob w6).alloc (.cells #[.int .i64 4, .int .i64 pl, .bool false, .int .i64 px, .slice pA pn pcp] 24))
        have hpc := hpok.2
        dsimp only at hpO hpc
        have hby7 := hby.fr hf47 (fun h => h)
        have hyok7 := hyok4.nob hf47
        have hf07 := hf04.trans hf47 (fun _ _ h => h)
        have hbo := Blk.new (w6.alloc (.cells #[.int .i64 4, .int .i64 pl, .bool false, .int .i64 px, .slice pA pn pcp] 24)) 49 #[.int .i64 yi, .slice yA yn yc]
        rw [World.size_alloc] at hbo
        have hO8 : Obs ((w6.alloc (.cells #[.int .i64 4, .int .i64 pl, .bool false, .int .i64 px, .slice pA pn pcp] 24)).alloc (.cells #[.int .i64 yi, .slice yA yn yc] 49)) (some ⟨w6.heap.size + 1, 0, none⟩) 1 [⟨yi, yA, yn, yc, yd⟩] := by
          refine ⟨Rd.of_blk hbo rfl (fun j u hu => ?_), fun x hx => ?_⟩
          · rw [Nat.zero_add]
            simpa [Ob.cs] using hu
          · simp at hx
            subst hx
            exact Ob.ok.alloc hyok7 _
        have hpO8 := hpO.alloc (.cells #[.int .i64 yi, .slice yA yn yc] 49)
        have hf08 := hf07.alloc (.cells #[.int .i64 yi, .slice yA yn yc] 49)
        have hsm := same_any pA (some ⟨w6.heap.size + 1, 0, none⟩) pn 1 pcp 1 pL [⟨yi, yA, yn, yc, yd⟩] ((w6.alloc (.cells #[.int .i64 4, .int .i64 pl, .bool false, .int .i64 px, .slice pA pn pcp] 24)).alloc (.cells #[.int .i64 yi, .slice yA yn yc] 49)) hpO8 hO8 hpc.1 hpc.2 (by omega) (by omega)
        rw [HPSS.out, show [(⟨yi, yA, yn, yc, yd⟩ : Ob)].map Ob.s = [(yi, yd)] from rfl, decide_eq_true rfl] at hsm
        have HSM := Lib.hid hsm
        have hby6 := hby.fr hf46 (fun h => h)
        have qy := hby6.cell
        have zy := hby6.lt
        clear hps hpS hpok hsm hbo hbp
        go_wp2_with fail
        refine HSM.out.mono ?_
        rintro e w9 ⟨rfl, hf9⟩
        go_wp2_with (go_at_call 12; refine (ident_sure _).mono ?_; rintro e w' ⟨rfl, hf⟩)
        go_ret
        exact ⟨rfl, (hf08.trans hf9 (fun _ _ h => h)).trans hf (fun _ _ h => h)⟩
end Go.Proofs.Ythdenkmmiadeiaa
