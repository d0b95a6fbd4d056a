/- Contract of Write (package ident). -/
import Derived.Test.YthdenkmmiadeiaaId2
namespace Go.Proofs.Ythdenkmmiadeiaa
set_option linter.unusedSimpArgs false
set_option linter.unusedVariables false
open Go.RowKit

def headB (p : Ps) : List Int := [14, p.code, 128 + p.level, if p.more then 255 else 0, p.next, (p.S.length : Int)]
def objsB (S : List (Int × List Int)) : List Int := S.flatMap obB
/-- What is said by a part. -/
def writeS (p : Ps) : Option (List Int) := if ptMay p = true ∧ 6 + (objsB p.S).length ≤ 252 then some (headB p ++ objsB p.S) else none
def errW (o : Option (List Int)) : Int := if o.isSome then 0 else 11
def bytesPost (l : List Int) (e' : Int) (w : World) (e : Ending) (w' : World) : Prop :=
  ∃ A k c, e = .returned (.tuple #[.slice A k c, .int .i64 e']) ∧ Rd w' 1 A k (nums .u8 l) ∧ k ≤ c ∧ c ≤ 9223372036854775807 ∧ (∀ ad, A = some ad → w.heap.size ≤ ad.block) ∧ Fr nob w w'
def writePost (p : Ps) (w : World) : Ending → World → Prop := bytesPost ((writeS p).getD []) (errW (writeS p)) w

theorem objsB_snoc {S : List (Int × List Int)} {k : Nat} {x : Int × List Int} (h : S[k]? = some x) : objsB (S.take (k + 1)) = objsB (S.take k) ++ obB x := by
  rw [List.take_add_one, h, objsB, List.flatMap_append, ← objsB]
  simp
theorem objsB_part {S : List (Int × List Int)} {k : Nat} {x : Int × List Int} (h : S[k]? = some x) : (objsB (S.take k)).length + (x.2.length + 2) ≤ (objsB S).length := by
  have h1 : objsB S = objsB (S.take (k + 1)) ++ objsB (S.drop (k + 1)) := by
    rw [objsB, objsB, objsB, ← List.flatMap_append, List.take_append_drop]
  rw [h1, List.length_append, objsB_snoc h, List.length_append, obB_len]
  omega
/-- A row that is written out. -/
theorem own_new (w : World) (e : TypeId) (cs : Array Value) (n : Nat) (h : cs.size = n) (hn : n ≤ 1000000) : (w.alloc (.cells cs e)).ownsRow w.heap.size e 1 (.slice (some ⟨w.heap.size, 0, none⟩) n n) n cs.toList :=
  ⟨by simp [h], .inr ⟨w.heap.size, n, cs, rfl, Nat.le_refl _, heap_alloc_new w _, Nat.le_refl _, by unfold maxLen; omega, by simp [h], by simp only [Nat.mul_one]; rw [← h]; exact List.take_of_length_le (by simp)⟩⟩
/-- What may be said is in its bounds. -/
theorem may_parts {p : Ps} (h : ptMay p = true) : (0 ≤ p.next ∧ p.next ≤ 255) ∧ (∀ x ∈ p.S, (0 ≤ x.1 ∧ x.1 ≤ 255) ∧ x.2.length ≤ 240) ∧ (1 ≤ p.code ∧ p.code ≤ 4) ∧ (1 ≤ p.level ∧ p.level ≤ 3) ∧ p.S.length ≤ 255 := by
  simp only [ptMay, Bool.and_eq_true, Bool.or_eq_true, decide_eq_true_eq, inB, List.all_eq_true, obMay] at h
  obtain ⟨⟨⟨⟨h1, h2⟩, h3⟩, h4⟩, h5⟩ := h
  refine ⟨by omega, fun x hx => ?_, h3, h4, h5⟩
  have := h2 x hx
  exact ⟨this.1, this.2⟩

set_option maxHeartbeats 2000000 in
set_option maxRecDepth 100000 in
theorem ident_write (p : Pt) (w : World) (hp : p.ok w) : Calls Try.prog 13 #[p.val] w (writePost p.s w) := by
  have hmay := fun V h => ident_may p V (hp.nob (w' := V) h)
  obtain ⟨code, level, more, next, A, n, c, L⟩ := p
  obtain ⟨hO, hn, hc⟩ := hp
  dsimp only at hO hn hc
  have hl := hO.len
  have HLN := Lib.hid hl
  obtain ⟨ps, hps⟩ : ∃ ps, ps = (⟨code, level, more, next, A, n, c, L⟩ : Pt).s := ⟨_, rfl⟩
  rw [← hps] at hmay ⊢
  have HPS := Lib.hid hps
  clear hps hl
  have hb0 := Blk.new w 24 #[.int .i64 code, .int .i64 level, .bool more, .int .i64 next, .slice A n c]
  have hf0 := (Fr.refl nob w).alloc (.cells #[.int .i64 code, .int .i64 level, .bool more, .int .i64 next, .slice A n c] 24)
  rw [Pt.val, Pt.cells] at *
  dsimp only at *
  have HM := Lib.hid hmay
  clear hmay
  go_enter Try.func13, Try.ntmps13
  go_wp2_with fail
  refine (HM.out _ hf0).mono ?_
  rintro e w1 ⟨rfl, hf1⟩
  have hb1 := hb0.fr hf1 (fun h => h)
  have hfw1 := hf0.trans hf1 (fun _ _ h => h)
  have q1 := hb1.cell
  clear hb0 hf0 hf1
  cases hm : ptMay ps with
  | false =>
    have HM0 := Lib.hid hm
    clear hm
    go_wp2_with fail
    go_ret2
    have hw : writeS ps = none := by rw [writeS, if_neg (by rw [HM0.out]; simp)]
    rw [writePost, hw]
    exact ⟨none, 0, 0, rfl, Rd.nil_ _ _ _, Nat.le_refl _, Nat.zero_le _, (fun ad h => by cases h), hfw1⟩
  | true =>
    have HM0 := Lib.hid hm
    clear hm
    obtain ⟨hnx, hxs, hcd, hlv, hln⟩ := may_parts HM0.out
    rw [HPS.out] at hnx hxs hcd hlv hln
    dsimp only [Pt.s] at hnx hcd hlv
    have hln' : n ≤ 255 := by rw [← HLN.out]; simpa [Pt.s] using hln
    have HXS := Lib.hid hxs
    clear hxs hln
    have w1a : IntKind.u8.wrap code = code := by simp [IntKind.wrap, IntKind.bits, IntKind.signed]; omega
    have w1b : code % 256 = code := by omega
    have w2a : (128 + level) % 256 = 128 + level := by omega
    have w3b : next % 256 = next := by omega
    have w4b : (n : Int) % 256 = (n : Int) := by omega
    have hz1 : w.heap.size < w1.heap.size := hb1.lt
    cases more
    · have hown := own_new w1 5 #[.int .u8 14, .int .u8 code, .int .u8 (128 + level), .int .u8 0, .int .u8 next, .int .u8 (n : Int)] 6 rfl (by omega)
      have hown2 := own_base (hown.alloc (.cells #[.slice (some ⟨w1.heap.size, 0, none⟩) 6 6] 104)) (Nat.le_of_lt hz1)
      have hsd0 := Blk.new (w1.alloc (.cells #[.int .u8 14, .int .u8 code, .int .u8 (128 + level), .int .u8 0, .int .u8 next, .int .u8 (n : Int)] 5)) 104 #[.slice (some ⟨w1.heap.size, 0, none⟩) 6 6]
      rw [World.size_alloc] at hsd0
      have hsd : Sd ((w1.alloc (.cells #[.int .u8 14, .int .u8 code, .int .u8 (128 + level), .int .u8 0, .int .u8 next, .int .u8 (n : Int)] 5)).alloc (.cells #[.slice (some ⟨w1.heap.size, 0, none⟩) 6 6] 104)) (w1.heap.size + 1) w.heap.size (6 + (objsB (ps.S.take 0)).length) (headB ps ++ objsB (ps.S.take 0)) := by
        refine ⟨_, hsd0, ?_⟩
        rw [HPS.out]
        simpa [headB, objsB, Pt.s, nums, HLN.out] using hown2
      have hfs : Fr nob w ((w1.alloc (.cells #[.int .u8 14, .int .u8 code, .int .u8 (128 + level), .int .u8 0, .int .u8 next, .int .u8 (n : Int)] 5)).alloc (.cells #[.slice (some ⟨w1.heap.size, 0, none⟩) 6 6] 104)) := (hfw1.alloc _).alloc _
      clear hown hown2 hsd0 hfw1 hb1
      go_wp2_with fail
      go_loopw [40] (fun i wr => ∃ k : Nat, k ≤ n ∧ i = .int .i64 k ∧ Fr nob w wr ∧ Sd wr (w1.heap.size + 1) w.heap.size (6 + (objsB (ps.S.take k)).length) (headB ps ++ objsB (ps.S.take k)) ∧ Hid (6 + (objsB (ps.S.take k)).length ≤ 252) ∧ w1.heap.size + 2 ≤ wr.heap.size) (fun i _ => n - (intOf i).toNat)
      case atStart => exact ⟨0, by omega, rfl, hfs, hsd, Lib.hid (by simp [objsB]), by simp⟩
      case round =>
        clear hfs hsd q1
        obtain ⟨k, hk, rfl, hf, hsd, hle, hz⟩ := hrel
        by_cases hlt : k < n
        · obtain ⟨b, o, x, rfl, hb, hx, hc0, hc1, hok⟩ := (hO.nob hf).at_ hlt
          have hpx : ps.S[k]? = some x.s := by
            rw [HPS.out]
            simp [Pt.s, hx]
          have hxb := HXS.out x.s (by have := List.mem_of_getElem? hpx; rwa [HPS.out] at this)
          have hxl : x.d.length = x.n := hok.len
          have hsn := Lib.hid (objsB_snoc hpx)
          have hpt := Lib.hid (objsB_part hpx)
          have hokw := hO.ok x (List.mem_of_getElem? hx)
          have hxbi : 0 ≤ x.id ∧ x.id ≤ 255 := hxb.1
          have hxbn : x.n ≤ 240 := by rw [← hxl]; exact hxb.2
          have HXL := Lib.hid hxl
          clear hx hpx hxb hxl hok
          obtain ⟨m, hm⟩ : ∃ m, m = 6 + (objsB (ps.S.take k)).length := ⟨_, rfl⟩
          obtain ⟨bs, hbs⟩ : ∃ bs, bs = headB ps ++ objsB (ps.S.take k) := ⟨_, rfl⟩
          rw [← hm, ← hbs] at hsd
          have hm252 : m ≤ 252 := by rw [hm]; exact hle.out
          have HMM := Lib.hid hm
          have HBS := Lib.hid hbs
          clear hm hbs
          obtain ⟨xi, xA, xn, xc, xd⟩ := x
          dsimp only at hc0 hc1 hxbi hxbn HXL
          have hi0 : (0 : Int) ≤ (k : Int) ∧ (k : Int) < (n : Int) := ⟨by omega, by omega⟩
          obtain ⟨sv, hsb, hso⟩ := hsd
          have hsd1 : Sd (wr.alloc (.cells #[.int .i64 xi, .slice xA xn xc] 49)) (w1.heap.size + 1) w.heap.size m bs := ⟨sv, hsb.alloc _, hso.alloc _⟩
          have hfo := hf.alloc (.cells #[.int .i64 xi, .slice xA xn xc] 49)
          clear hsb hso
          go_wp2_with fail
          refine (said_object (w1.heap.size + 1) w.heap.size m bs ⟨xi, xA, xn, xc, xd⟩ _ hsd1 hm252 (by simp; omega) (by omega) (by dsimp only; omega) hxbi (fun V h => hokw.nob (hfo.newer h (fun i hi => hi))) (fun _ => by dsimp only; omega)).mono ?_
          rintro e w5 ⟨rfl, hf5, hsd5, -⟩
          dsimp only at hsd5 ⊢
          have hf5w := hfo.newer hf5 (fun i hi => hi)
          have hz5 := hf5.size
          by_cases hfit : m + (xn + 2) ≤ 252
          · rw [if_pos hfit] at hsd5
            rw [decide_eq_true hfit]
            go_wp2_with fail
            go_roundw
            case rel =>
              refine ⟨k + 1, by omega, by go_num, hf5w, ?_, ?_, by simp at hz5; omega⟩
              · rw [hsn.out, ← List.append_assoc, ← HBS.out, List.length_append, obB_len]
                have e2 : 6 + ((objsB (ps.S.take k)).length + ((Ob.s ⟨xi, xA, xn, xc, xd⟩).2.length + 2)) = m + (xn + 2) := by rw [HMM.out, ← HXL.out]; simp [Ob.s]; omega
                rw [e2]
                exact hsd5
              · refine Lib.hid ?_
                rw [hsn.out, List.length_append, obB_len]
                have := HMM.out
                have := HXL.out
                simp [Ob.s]
                omega
            case measure => simp [intOf]; omega
          · rw [decide_eq_false hfit]
            go_wp2_with fail
            go_ret2
            have hw : writeS ps = none := by
              rw [writeS, if_neg]
              intro h
              have h1 := hpt.out
              have h2 := HMM.out
              have h3 := HXL.out
              simp [Ob.s] at h1
              omega
            rw [writePost, hw]
            exact ⟨none, 0, 0, rfl, Rd.nil_ _ _ _, Nat.le_refl _, Nat.zero_le _, (fun ad h => by cases h), hf5w⟩
        · obtain rfl : k = n := by omega
          have htk : ps.S.take k = ps.S := List.take_of_length_le (by rw [HPS.out]; simp [Pt.s, HLN.out])
          rw [htk] at hsd hle
          have hw : writeS ps = some (headB ps ++ objsB ps.S) := by rw [writeS, if_pos ⟨HM0.out, hle.out⟩]
          have HWR := Lib.hid hw
          clear htk hw
          obtain ⟨sv, hsb, hso⟩ := hsd
          obtain ⟨As, cs, rfl, hcs, _⟩ := own_form hso
          have hcap := own_cap hso
          have hge := own_ge hso
          have hrd := Rd.of_own hso
          have qs := hsb.cell
          obtain ⟨m, hm⟩ : ∃ m, m = 6 + (objsB ps.S).length := ⟨_, rfl⟩
          rw [← hm] at hrd hcs qs hsb hso
          have HMM := Lib.hid hm
          clear hm hso
          go_wp2_with fail
          go_ret2
          rw [writePost, HWR.out]
          exact ⟨As, m, cs, rfl, hrd, hcs, hcap, hge, hf⟩
    · have hown := own_new w1 5 #[.int .u8 14, .int .u8 code, .int .u8 (128 + level), .int .u8 255, .int .u8 next, .int .u8 (n : Int)] 6 rfl (by omega)
      have hown2 := own_base (hown.alloc (.cells #[.slice (some ⟨w1.heap.size, 0, none⟩) 6 6] 104)) (Nat.le_of_lt hz1)
      have hsd0 := Blk.new (w1.alloc (.cells #[.int .u8 14, .int .u8 code, .int .u8 (128 + level), .int .u8 255, .int .u8 next, .int .u8 (n : Int)] 5)) 104 #[.slice (some ⟨w1.heap.size, 0, none⟩) 6 6]
      rw [World.size_alloc] at hsd0
      have hsd : Sd ((w1.alloc (.cells #[.int .u8 14, .int .u8 code, .int .u8 (128 + level), .int .u8 255, .int .u8 next, .int .u8 (n : Int)] 5)).alloc (.cells #[.slice (some ⟨w1.heap.size, 0, none⟩) 6 6] 104)) (w1.heap.size + 1) w.heap.size (6 + (objsB (ps.S.take 0)).length) (headB ps ++ objsB (ps.S.take 0)) := by
        refine ⟨_, hsd0, ?_⟩
        rw [HPS.out]
        simpa [headB, objsB, Pt.s, nums, HLN.out] using hown2
      have hfs : Fr nob w ((w1.alloc (.cells #[.int .u8 14, .int .u8 code, .int .u8 (128 + level), .int .u8 255, .int .u8 next, .int .u8 (n : Int)] 5)).alloc (.cells #[.slice (some ⟨w1.heap.size, 0, none⟩) 6 6] 104)) := (hfw1.alloc _).alloc _
      clear hown hown2 hsd0 hfw1 hb1
      go_wp2_with fail
      go_loopw [40] (fun i wr => ∃ k : Nat, k ≤ n ∧ i = .int .i64 k ∧ Fr nob w wr ∧ Sd wr (w1.heap.size + 1) w.heap.size (6 + (objsB (ps.S.take k)).length) (headB ps ++ objsB (ps.S.take k)) ∧ Hid (6 + (objsB (ps.S.take k)).length ≤ 252) ∧ w1.heap.size + 2 ≤ wr.heap.size) (fun i _ => n - (intOf i).toNat)
      case atStart => exact ⟨0, by omega, rfl, hfs, hsd, Lib.hid (by simp [objsB]), by simp⟩
      case round =>
        clear hfs hsd q1
        obtain ⟨k, hk, rfl, hf, hsd, hle, hz⟩ := hrel
        by_cases hlt : k < n
        · obtain ⟨b, o, x, rfl, hb, hx, hc0, hc1, hok⟩ := (hO.nob hf).at_ hlt
          have hpx : ps.S[k]? = some x.s := by
            rw [HPS.out]
            simp [Pt.s, hx]
          have hxb := HXS.out x.s (by have := List.mem_of_getElem? hpx; rwa [HPS.out] at this)
          have hxl : x.d.length = x.n := hok.len
          have hsn := Lib.hid (objsB_snoc hpx)
          have hpt := Lib.hid (objsB_part hpx)
          have hokw := hO.ok x (List.mem_of_getElem? hx)
          have hxbi : 0 ≤ x.id ∧ x.id ≤ 255 := hxb.1
          have hxbn : x.n ≤ 240 := by rw [← hxl]; exact hxb.2
          have HXL := Lib.hid hxl
          clear hx hpx hxb hxl hok
          obtain ⟨m, hm⟩ : ∃ m, m = 6 + (objsB (ps.S.take k)).length := ⟨_, rfl⟩
          obtain ⟨bs, hbs⟩ : ∃ bs, bs = headB ps ++ objsB (ps.S.take k) := ⟨_, rfl⟩
          rw [← hm, ← hbs] at hsd
          have hm252 : m ≤ 252 := by rw [hm]; exact hle.out
          have HMM := Lib.hid hm
          have HBS := Lib.hid hbs
          clear hm hbs
          obtain ⟨xi, xA, xn, xc, xd⟩ := x
          dsimp only at hc0 hc1 hxbi hxbn HXL
          have hi0 : (0 : Int) ≤ (k : Int) ∧ (k : Int) < (n : Int) := ⟨by omega, by omega⟩
          obtain ⟨sv, hsb, hso⟩ := hsd
          have hsd1 : Sd (wr.alloc (.cells #[.int .i64 xi, .slice xA xn xc] 49)) (w1.heap.size + 1) w.heap.size m bs := ⟨sv, hsb.alloc _, hso.alloc _⟩
          have hfo := hf.alloc (.cells #[.int .i64 xi, .slice xA xn xc] 49)
          clear hsb hso
          go_wp2_with fail
          refine (said_object (w1.heap.size + 1) w.heap.size m bs ⟨xi, xA, xn, xc, xd⟩ _ hsd1 hm252 (by simp; omega) (by omega) (by dsimp only; omega) hxbi (fun V h => hokw.nob (hfo.newer h (fun i hi => hi))) (fun _ => by dsimp only; omega)).mono ?_
          rintro e w5 ⟨rfl, hf5, hsd5, -⟩
          dsimp only at hsd5 ⊢
          have hf5w := hfo.newer hf5 (fun i hi => hi)
          have hz5 := hf5.size
          by_cases hfit : m + (xn + 2) ≤ 252
          · rw [if_pos hfit] at hsd5
            rw [decide_eq_true hfit]
            go_wp2_with fail
            go_roundw
            case rel =>
              refine ⟨k + 1, by omega, by go_num, hf5w, ?_, ?_, by simp at hz5; omega⟩
              · rw [hsn.out, ← List.append_assoc, ← HBS.out, List.length_append, obB_len]
                have e2 : 6 + ((objsB (ps.S.take k)).length + ((Ob.s ⟨xi, xA, xn, xc, xd⟩).2.length + 2)) = m + (xn + 2) := by rw [HMM.out, ← HXL.out]; simp [Ob.s]; omega
                rw [e2]
                exact hsd5
              · refine Lib.hid ?_
                rw [hsn.out, List.length_append, obB_len]
                have := HMM.out
                have := HXL.out
                simp [Ob.s]
                omega
            case measure => simp [intOf]; omega
          · rw [decide_eq_false hfit]
            go_wp2_with fail
            go_ret2
            have hw : writeS ps = none := by
              rw [writeS, if_neg]
              intro h
              have h1 := hpt.out
              have h2 := HMM.out
              have h3 := HXL.out
              simp [Ob.s] at h1
              omega
            rw [writePost, hw]
            exact ⟨none, 0, 0, rfl, Rd.nil_ _ _ _, Nat.le_refl _, Nat.zero_le _, (fun ad h => by cases h), hf5w⟩
        · obtain rfl : k = n := by omega
          have htk : ps.S.take k = ps.S := List.take_of_length_le (by rw [HPS.out]; simp [Pt.s, HLN.out])
          rw [htk] at hsd hle
          have hw : writeS ps = some (headB ps ++ objsB ps.S) := by rw [writeS, if_pos ⟨HM0.out, hle.out⟩]
          have HWR := Lib.hid hw
          clear htk hw
          obtain ⟨sv, hsb, hso⟩ := hsd
          obtain ⟨As, cs, rfl, hcs, _⟩ := own_form hso
          have hcap := own_cap hso
          have hge := own_ge hso
          have hrd := Rd.of_own hso
          have qs := hsb.cell
          obtain ⟨m, hm⟩ : ∃ m, m = 6 + (objsB ps.S).length := ⟨_, rfl⟩
          rw [← hm] at hrd hcs qs hsb hso
          have HMM := Lib.hid hm
          clear hm hso
          go_wp2_with fail
          go_ret2
          rw [writePost, HWR.out]
          exact ⟨As, m, cs, rfl, hrd, hcs, hcap, hge, hf⟩
end Go.Proofs.Ythdenkmmiadeiaa
