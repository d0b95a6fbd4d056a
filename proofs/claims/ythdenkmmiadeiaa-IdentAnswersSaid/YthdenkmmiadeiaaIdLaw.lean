/- The plain law of the identification: what is written is read; a stream piece by piece. No walk. -/
import Derived.Test.YthdenkmmiadeiaaId7
namespace Go.Proofs.Ythdenkmmiadeiaa
set_option linter.unusedSimpArgs false
set_option linter.unusedVariables false
open Go.RowKit

theorem objS_objsB (S : List (Int × List Int)) (h : ∀ x ∈ S, x.2.length ≤ 255) : objS (objsB S) = some S := by
  induction S with
  | nil => rw [objsB, List.flatMap_nil, objS_nil]
  | cons x S ih =>
    have e : objsB (x :: S) = x.1 :: (x.2.length : Int) :: (x.2 ++ objsB S) := by simp [objsB, obB]
    rw [e, objS_cons, if_pos (by simp)]
    simp only [Int.toNat_natCast]
    rw [List.drop_left, List.take_left, ih (fun y hy => h y (List.mem_cons_of_mem _ hy))]
    rfl
theorem objsB_objS : ∀ (n : Nat) (d : List Int), d.length ≤ n → bytes8 d → ∀ S, objS d = some S → objsB S = d := by
  intro n
  induction n with
  | zero =>
    intro d hd _ S h
    have : d = [] := List.eq_nil_of_length_eq_zero (by omega)
    subst this
    rw [objS_nil] at h
    cases h
    rfl
  | succ n ih =>
    intro d hd h8 S h
    match d, hd, h8, h with
    | [], _, _, h => rw [objS_nil] at h; cases h; rfl
    | [_], _, _, h => rw [objS_one] at h; cases h
    | a :: b :: r, hd, h8, h =>
      rw [objS_cons] at h
      split at h
      · rename_i hle
        cases ho : objS (r.drop b.toNat) with
        | none => rw [ho] at h; cases h
        | some S' =>
          rw [ho] at h
          cases h
          have h8' : bytes8 (r.drop b.toNat) := fun z hz => h8 z (List.mem_cons_of_mem _ (List.mem_cons_of_mem _ (List.mem_of_mem_drop hz)))
          have := ih (r.drop b.toNat) (by simp at hd ⊢; omega) h8' S' ho
          have hb := h8 b (by simp)
          have e : objsB ((a, r.take b.toNat) :: S') = a :: ((r.take b.toNat).length : Int) :: (r.take b.toNat ++ objsB S') := by simp [objsB, obB]
          rw [e, this, List.take_append_drop, List.length_take, Nat.min_eq_left hle]
          congr 2
          omega
      · cases h
theorem headB_len (p : Ps) : (headB p).length = 6 := rfl
/-- What is written is read. -/
theorem read_write {p : Ps} {b : List Int} (h : writeS p = some b) : readS b = some p ∧ b.length ≤ 252 := by
  rw [writeS] at h
  split at h
  · rename_i hh
    obtain ⟨hm, hl⟩ := hh
    injection h with h
    obtain ⟨code, level, more, next, S⟩ := p
    have hp := may_parts hm
    have hd6 : b.drop 6 = objsB S := by rw [← h]; rfl
    have g0 : b.getD 0 0 = 14 := by rw [← h]; rfl
    have g1 : b.getD 1 0 = code := by rw [← h]; rfl
    have g2 : b.getD 2 0 = 128 + level := by rw [← h]; rfl
    have g3 : b.getD 3 0 = (if more then 255 else 0) := by rw [← h]; rfl
    have g4 : b.getD 4 0 = next := by rw [← h]; rfl
    have g5 : b.getD 5 0 = (S.length : Int) := by rw [← h]; rfl
    have hlen : b.length = 6 + (objsB S).length := by rw [← h, List.length_append, headB_len]
    refine ⟨?_, by rw [hlen]; exact hl⟩
    have hnb : ¬ hdrBad b := by
      unfold hdrBad
      rw [g0, g3, hlen]
      intro hb
      rcases hb with hb | hb | hb | hb
      · omega
      · have := hl; simp only at this; omega
      · exact hb rfl
      · cases more <;> simp at hb
    rw [readS, if_neg hnb, hd6, objS_objsB S (fun x hx => by have := (hp.2.1 x hx).2; omega), readO]
    have hpt : ptOf b S = ⟨code, level, more, next, S⟩ := by
      rw [ptOf, g1, g2, g3, g4]
      congr 1
      · omega
      · cases more <;> simp
    simp only [hpt, g5]
    simp [hm]
  · cases h
/-- What is read, written again, is those bytes. -/
theorem write_read {d : List Int} {p : Ps} (h8 : bytes8 d) (h : readS d = some p) : writeS p = some d := by
  rw [readS] at h
  split at h
  · cases h
  · rename_i hb
    unfold hdrBad at hb
    cases ho : objS (d.drop 6) with
    | none => rw [ho] at h; cases h
    | some S =>
      rw [ho] at h
      simp only [readO] at h
      split at h
      · rename_i hh
        injection h with h
        obtain ⟨h5, hm⟩ := hh
        subst h
        have hob := objsB_objS _ (d.drop 6) (Nat.le_refl _) (fun z hz => h8 z (List.mem_of_mem_drop hz)) S ho
        have hl : 6 + (objsB S).length = d.length := by rw [hob, List.length_drop]; omega
        rw [writeS, if_pos ⟨hm, by show 6 + (objsB S).length ≤ 252; omega⟩]
        congr 1
        show headB (ptOf d S) ++ objsB S = d
        rw [hob]
        have h6 : 6 ≤ d.length := by omega
        have hd : d = [d.getD 0 0, d.getD 1 0, d.getD 2 0, d.getD 3 0, d.getD 4 0, d.getD 5 0] ++ d.drop 6 := by
          match d, h6 with
          | a :: b :: c :: e :: f :: g :: r, _ => rfl
        have e : headB (ptOf d S) = [d.getD 0 0, d.getD 1 0, d.getD 2 0, d.getD 3 0, d.getD 4 0, d.getD 5 0] := by
          have b3 : d.getD 3 0 = 0 ∨ d.getD 3 0 = 255 := by omega
          have b0 : d.getD 0 0 = 14 := by omega
          simp only [headB, ptOf]
          rw [b0, h5]
          congr 3
          · omega
          · congr 1
            have hz : ∀ z : Int, z = 0 ∨ z = 255 → (if decide (z = 255) = true then (255 : Int) else 0) = z := by
              intro z hz
              rcases hz with rfl | rfl <;> rfl
            exact hz _ b3
        rw [e]
        exact hd.symm
      · cases h

theorem fit_pos {x : Int × List Int} {r : List (Int × List Int)} (h : x.2.length ≤ 240) : 1 ≤ fitN 6 (x :: r) := by
  rw [fitN, if_pos (by omega)]; omega
theorem fit_sum (S : List (Int × List Int)) : ∀ room, room ≤ 252 → room + (objsB (S.take (fitN room S))).length ≤ 252 := by
  induction S with
  | nil => intro room h; simp [fitN, objsB]; exact h
  | cons x r ih =>
    intro room h
    rw [fitN]
    split
    · rename_i hx
      have := ih _ hx
      rw [Nat.add_comm 1, List.take_succ_cons]
      have e : objsB (x :: r.take (fitN (room + (x.2.length + 2)) r)) = obB x ++ objsB (r.take (fitN (room + (x.2.length + 2)) r)) := by simp [objsB]
      rw [e, List.length_append, obB_len]
      omega
    · simp [objsB]; exact h
theorem fit_max (S : List (Int × List Int)) : ∀ room (x : Int × List Int), S[fitN room S]? = some x → 252 < room + (objsB (S.take (fitN room S))).length + (x.2.length + 2) := by
  induction S with
  | nil => intro room x h; simp at h
  | cons y r ih =>
    intro room x h
    rw [fitN] at h ⊢
    split
    · rename_i hx
      rw [if_pos hx, Nat.add_comm 1, List.getElem?_cons_succ] at h
      have := ih _ x h
      rw [Nat.add_comm 1, List.take_succ_cons]
      have e : objsB (y :: r.take (fitN (room + (y.2.length + 2)) r)) = obB y ++ objsB (r.take (fitN (room + (y.2.length + 2)) r)) := by simp [objsB]
      rw [e, List.length_append, obB_len]
      omega
    · rename_i hx
      rw [if_neg hx] at h
      simp at h
      subst h
      simp [objsB]
      omega
/-- In how many pieces objects are told. -/
def pcs : List (Int × List Int) → Nat
  | [] => 0
  | x :: r => 1 + pcs ((x :: r).drop (max 1 (fitN 6 (x :: r))))
termination_by S => S.length
decreasing_by simp; omega
theorem pcs_nil : pcs [] = 0 := by rw [pcs]
theorem pcs_step {T : List (Int × List Int)} (h : T ≠ []) (hf : 1 ≤ fitN 6 T) : pcs T = 1 + pcs (T.drop (fitN 6 T)) := by
  match T, h with
  | x :: r, _ =>
    rw [pcs, Nat.max_eq_right hf]
/-- The piece of a stream that begins at place k. -/
structure Piece (S : List (Int × List Int)) (sort : Int) (T : List (Int × List Int)) (k : Nat) (b : List Int) (q : Ps) (f : Nat) : Prop where
  ans : answerS S [14, sort, (T.getD k (0, [])).1] = (b, 0)
  read : readS b = some q
  one : 1 ≤ f
  fits : k + f ≤ T.length
  objs : q.S = (T.drop k).take f
  code : q.code = sort
  level : q.level = levelS S
  more : q.more = decide (k + f < T.length)
  next : k + f < T.length → q.next = (T.getD (k + f) (0, [])).1 ∧ 252 < b.length + ((T.getD (k + f) (0, [])).2.length + 2)
  count : pcs (T.drop k) = 1 + pcs (T.drop (k + f))
  short : b.length ≤ 252
  bytes : (∀ x ∈ S, bytes8 x.2) → bytes8 b
theorem objsB_two (S : List (Int × List Int)) : 2 * S.length ≤ (objsB S).length := by
  induction S with
  | nil => simp [objsB]
  | cons x S ih =>
    have e : objsB (x :: S) = obB x ++ objsB S := by simp [objsB]
    rw [e, List.length_append, obB_len, List.length_cons]
    omega
theorem idx_at {T : List (Int × List Int)} (hp : T.Pairwise (fun a b => a.1 < b.1)) {k : Nat} (hk : k < T.length) : idxS T (T[k].1) = some k := by
  rw [idxS, List.findIdx?_eq_some_iff_getElem]
  refine ⟨hk, by simp, fun j hj => ?_⟩
  have := List.pairwise_iff_getElem.1 hp j k (by omega) hk hj
  simp
  omega
theorem bytes_write {p : Ps} {b : List Int} (h : writeS p = some b) (h8 : ∀ x ∈ p.S, bytes8 x.2) : bytes8 b := by
  rw [writeS] at h
  split at h
  · rename_i hh
    injection h with h
    have hp := may_parts hh.1
    intro z hz
    rw [← h] at hz
    rcases List.mem_append.1 hz with hz | hz
    · simp only [headB, List.mem_cons, List.not_mem_nil, or_false] at hz
      rcases hz with rfl | rfl | rfl | rfl | rfl | rfl
      · omega
      · omega
      · omega
      · split <;> omega
      · omega
      · omega
    · obtain ⟨x, hx, hzx⟩ := List.mem_flatMap.1 hz
      have hxp := hp.2.1 x hx
      simp only [obB, List.mem_cons] at hzx
      rcases hzx with rfl | rfl | hzx
      · omega
      · omega
      · exact h8 x hx z hzx
  · cases h
theorem piece_at {S : List (Int × List Int)} (h : rightS S = true) {sort : Int} (hs : sort = 1 ∨ sort = 2 ∨ sort = 3) {k : Nat} (hk : k < (ofS S sort).length) : ∃ b q f, Piece S sort (ofS S sort) k b q f := by
  have hr := h
  rw [rightS, Bool.and_eq_true] at hr
  have hpS := (right_pair hr.1).1
  have hpT := of_pair hpS sort
  obtain ⟨T, hT⟩ : ∃ T, T = ofS S sort := ⟨_, rfl⟩
  have hsub : ∀ x ∈ T, 0 ≤ x.1 ∧ x.1 ≤ 255 ∧ x.2.length ≤ 240 := fun x hx => right_in h x ((of_sub hs).1 (by rw [← hT]; exact hx)).1
  rw [← hT] at hpT hk ⊢
  have hfrom : fromS S sort (T.getD k (0, [])).1 = T.drop k := by
    rw [fromS, ← hT]
    have : T.getD k (0, []) = T[k] := by simp [List.getD_eq_getElem?_getD, List.getElem?_eq_getElem hk]
    rw [this, idx_at hpT hk]
    rfl
  obtain ⟨f, hf⟩ : ∃ f, f = fitN 6 (T.drop k) := ⟨_, rfl⟩
  have hdk : T.drop k = T[k] :: T.drop (k + 1) := List.drop_eq_getElem_cons hk
  have hf1 : 1 ≤ f := by rw [hf, hdk]; exact fit_pos (hsub _ (List.getElem_mem hk)).2.2
  have hfl : f ≤ T.length - k := by have := fitN_le (T.drop k) 6; rw [List.length_drop] at this; omega
  have hsum := fit_sum (T.drop k) 6 (by omega)
  rw [← hf] at hsum
  have hlv := sorts_level h
  have hq : streamP S sort (T.getD k (0, [])).1 = ⟨sort, levelS S, decide (k + f < T.length), if k + f < T.length then (T.getD (k + f) (0, [])).1 else 0, (T.drop k).take f⟩ := by
    rw [streamP, hfrom, partS, ← hf, List.length_drop]
    by_cases hlt : k + f < T.length
    · rw [if_pos (by omega), decide_eq_true hlt, if_pos hlt]
      simp [List.getD_eq_getElem?_getD, List.getElem?_drop]
    · rw [if_neg (by omega), decide_eq_false hlt, if_neg hlt]
      rw [List.take_of_length_le (by rw [List.length_drop]; omega)]
  obtain ⟨q, hqe⟩ : ∃ q, q = streamP S sort (T.getD k (0, [])).1 := ⟨_, rfl⟩
  rw [← hqe] at hq
  have hmem : ∀ x ∈ (T.drop k).take f, x ∈ T := fun x hx => List.mem_of_mem_drop (List.mem_of_mem_take hx)
  have hnx : k + f < T.length → 0 ≤ (T.getD (k + f) (0, [])).1 ∧ (T.getD (k + f) (0, [])).1 ≤ 255 := fun hlt => by
    have e : T.getD (k + f) (0, []) = T[k + f] := by simp [List.getD_eq_getElem?_getD, List.getElem?_eq_getElem hlt]
    rw [e]
    have := hsub _ (List.getElem_mem hlt)
    omega
  have hmay : ptMay q = true := by
    rw [hq]
    simp only [ptMay, Bool.and_eq_true, Bool.or_eq_true, decide_eq_true_eq, inB, List.all_eq_true, obMay]
    refine ⟨⟨⟨⟨?_, fun x hx => ?_⟩, by omega⟩, by omega⟩, ?_⟩
    · by_cases hlt : k + f < T.length
      · rw [if_pos hlt]
        exact .inr ⟨hlt, hnx hlt⟩
      · rw [if_neg hlt]
        exact .inl rfl
    · have := hsub x (hmem x hx)
      omega
    · have := objsB_two ((T.drop k).take f)
      omega
  have hqS : q.S = (T.drop k).take f := by rw [hq]
  have hw : writeS q = some (headB q ++ objsB q.S) := by rw [writeS, if_pos ⟨hmay, by rw [hqS]; exact hsum⟩]
  obtain ⟨hrd, hsh⟩ := read_write hw
  refine ⟨headB q ++ objsB q.S, q, f, ?_, hrd, hf1, by omega, hqS, by rw [hq], by rw [hq], by rw [hq], fun hlt => ⟨by rw [hq]; exact if_pos hlt, ?_⟩, ?_, hsh, fun h8 => bytes_write hw (fun x hx => h8 x ((of_sub hs).1 (by rw [← hT]; exact hmem x (by rw [← hqS]; exact hx))).1)⟩
  · have ht : told (writeS q) = (headB q ++ objsB q.S, 0) := by rw [hw]; rfl
    rw [answerS, if_neg (by rw [h]; simp), if_neg (by simp), if_neg (by simp)]
    simp only [List.getD_cons_succ, List.getD_cons_zero]
    rw [if_pos hs, ← hqe, ht]
  · have := fit_max (T.drop k) 6 (T.getD (k + f) (0, [])) (by rw [← hf, List.getElem?_drop, List.getElem?_eq_getElem hlt]; simp [List.getD_eq_getElem?_getD, List.getElem?_eq_getElem hlt])
    rw [← hf] at this
    rw [List.length_append, headB_len, hqS]
    omega
  · rw [pcs_step (by rw [hdk]; exact List.cons_ne_nil _ _) (by rw [← hf]; exact hf1), ← hf, List.drop_drop]
end Go.Proofs.Ythdenkmmiadeiaa
