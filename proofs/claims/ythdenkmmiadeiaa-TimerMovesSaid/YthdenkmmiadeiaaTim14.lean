/- Contract of Clone of a queue of timers. -/
import Derived.Test.YthdenkmmiadeiaaTim13
import Derived.Test.YthdenkmmiadeiaaKeys
namespace Go.Proofs.Ythdenkmmiadeiaa
set_option linter.unusedSimpArgs false
set_option linter.unusedVariables false
open Go.RowKit

/-- What was set holds to the bounds. -/
def Legal (L : List Tm) : Prop := ∀ x ∈ L, 0 ≤ x.1 ∧ 0 ≤ x.2 ∧ x.2 ≤ 1099511627776
theorem legal_nil : Legal [] := fun x hx => by cases hx
theorem legal_drop {L : List Tm} (h : Legal L) (id : Int) : Legal (dropS L id) := fun x hx => h x (drop_mem.1 hx).1
theorem legal_set {L : List Tm} (h : Legal L) (id a : Int) : Legal (setS L id a) := by
  unfold setS
  split
  · rename_i he
    intro x hx
    rcases put_mem.1 hx with rfl | ⟨hx, _⟩
    · unfold setErr at he
      split at he
      · cases he
      · dsimp only; omega
    · exact h x hx
  · exact h
theorem legal_rest {L : List Tm} (h : Legal L) (now : Int) : Legal (restS L now) := fun x hx => h x ((List.dropWhile_sublist _).subset hx)
theorem good_nodup {L : List Tm} (h : Good L) : L.Nodup := h.1.imp fun hlt e => by subst e; unfold ltK at hlt; omega
theorem good_ext {L M : List Tm} (h : Good L) (k : Good M) (he : ∀ x, x ∈ L ↔ x ∈ M) : L = M :=
  List.Perm.eq_of_pairwise (le := ltK) (fun a b _ _ h1 h2 => by
    obtain ⟨a1, a2⟩ := a
    obtain ⟨b1, b2⟩ := b
    unfold ltK at h1 h2
    dsimp only at h1 h2
    omega) h.1 k.1 ((List.perm_ext_iff_of_nodup (good_nodup h) (good_nodup k)).2 he)
/-- So far cloned. -/
def Cl (L : List Tm) (ks : List Int) (k : Nat) (M : List Tm) : Prop := Good M ∧ M.length ≤ k ∧ ∀ x, x ∈ M ↔ x ∈ L ∧ x.1 ∈ ks.take k
theorem cl_start (L : List Tm) (ks : List Int) : Cl L ks 0 [] := ⟨⟨List.Pairwise.nil, List.nodup_nil⟩, by simp, fun x => by simp⟩
theorem put_len' (L : List Tm) (id a : Int) : (putS L id a).length ≤ L.length + 1 := by
  rw [putS, (ins_perm _ _).length_eq]
  have : (dropS L id).length ≤ L.length := List.length_filter_le _ _
  simp only [List.length_cons]
  omega
theorem cl_step {L : List Tm} {ks : List Int} {k : Nat} {M : List Tm} (h : Cl L ks k M) (hg : Good L) (hl : Legal L) (hk : k < 256) {x : Tm} (hx : x ∈ L) (hks : ks[k]? = some x.1) : setErr M x.1 x.2 = 0 ∧ Cl L ks (k + 1) (setS M x.1 x.2) := by
  obtain ⟨h1, h2, h3⟩ := h
  have hb := hl x hx
  have he : setErr M x.1 x.2 = 0 := by
    rw [setErr, if_neg (by omega), if_neg (by omega)]
  refine ⟨he, ?_⟩
  have hs : setS M x.1 x.2 = putS M x.1 x.2 := by rw [setS, he]; rfl
  rw [hs]
  have htk : ks.take (k + 1) = ks.take k ++ [x.1] := by rw [List.take_add_one, hks]; rfl
  refine ⟨put_good h1 _ _, by have := put_len' M x.1 x.2; omega, fun y => ?_⟩
  rw [put_mem, h3, htk, List.mem_append, List.mem_singleton]
  constructor
  · rintro (rfl | ⟨⟨h4, h5⟩, _⟩)
    · exact ⟨hx, .inr rfl⟩
    · exact ⟨h4, .inl h5⟩
  · rintro ⟨h4, h5⟩
    by_cases he : y.1 = x.1
    · exact .inl (good_inj hg h4 hx he)
    · rcases h5 with h5 | h5
      · exact .inr ⟨⟨h4, h5⟩, he⟩
      · exact absurd h5 he
theorem cl_end {L : List Tm} {ks : List Int} {k : Nat} {M : List Tm} (h : Cl L ks k M) (hg : Good L) (hk : ks.length = k) (hks : ∀ x ∈ L, x.1 ∈ ks) : M = L := by
  refine good_ext h.1 hg fun x => ?_
  rw [h.2.2 x, List.take_of_length_le (by omega)]
  exact ⟨fun h => h.1, fun h => ⟨h, hks x h⟩⟩

set_option maxHeartbeats 4000000 in
set_option maxRecDepth 100000 in
theorem qclone_any (w : World) (base g mb : Nat) (v : Value) (E : List Ent) (L : List Tm) (h : QS w base g mb v E L) (hl : Legal L) :
    Calls Try.prog 36 #[.pointer (some ⟨g, 0, none⟩)] w fun e w' => ∃ g' mb' v' E', e = .returned (.pointer (some ⟨g', 0, none⟩)) ∧ QS w' w.heap.size g' mb' v' E' L ∧ Fr nob w w' := by
  have hnone := none_any h
  have q0 := Blk.cell h.qb
  have q2 := Blk.lt h.qb
  have HNO := Lib.hid hnone
  have HS := Lib.hid h
  have HLG := Lib.hid hl
  have q01 := q0 1
  simp at q01
  have HQ01 := Lib.hid q01
  clear hnone h hl q0 q01
  go_enter Try.func36, Try.ntmps36
  go_wp2_with fail
  refine HNO.out.mono ?_
  rintro e w1 ⟨rfl, rfl⟩
  go_wp2_with fail
  refine (tnew_any w).mono ?_
  rintro e w1 ⟨rfl, hq1, hf1⟩
  obtain ⟨gc, hgc⟩ : ∃ gc, gc = w.heap.size + 1 := ⟨_, rfl⟩
  rw [← hgc] at hq1 ⊢
  have HQ1 := Lib.hid hq1
  have HF1 := Lib.hid hf1
  have q01 := (hf1.cell (p := ⟨g, 1, none⟩) q2 (fun h => h)).trans HQ01.out
  have hsrt := Lib.hid (sorted_any w1 mb E (HS.out.mp.fr hf1 (fun h => h)) (by have := HS.out.len; have := HS.out.le; omega))
  clear hq1 hf1 hgc
  go_wp2_with fail
  refine (keys_any mb w1).mono ?_
  rintro e w2 ⟨rfl, rfl⟩
  go_wp2_with fail
  refine hsrt.out.mono ?_
  rintro e w3 ⟨A, n, c, ks, rfl, hks, hown, hn, hkl, hf3⟩
  have HKS := Lib.hid hks
  have HO3 := Lib.hid hown
  have HQ3 := Lib.hid (HQ1.out.keep hf3)
  have HF3 := Lib.hid (HF1.out.trans hf3 (fun _ _ h => h))
  have hz1 : w.heap.size ≤ w1.heap.size := HF1.out.size
  have HN := Lib.hid hn
  have HKL := Lib.hid hkl
  clear hks hown hf3 hsrt q01 HQ1 hn hkl
  go_wp2_with fail
  go_loopw [18] (fun iv wr => ∃ (k : Nat) (v1 : Value) (E1 : List Ent) (M : List Tm), iv = .int .i64 k ∧ k ≤ n ∧ Hid (QS wr w.heap.size gc w.heap.size v1 E1 M) ∧ Hid (Cl L ks k M) ∧ Hid (wr.ownsRow w1.heap.size 3 1 (.slice A n c) n (nums .i64 ks)) ∧ Hid (Fr nob w wr)) (fun iv _ => n - (intOf iv).toNat)
  case atStart => exact ⟨0, _, [], [], rfl, by omega, HQ3, Lib.hid (cl_start _ _), HO3, HF3⟩
  case round =>
    clear HQ3 HO3 HF3
    obtain ⟨k, v1, E1, M, rfl, hk, hq, hcl, hown, hf⟩ := hrel
    by_cases hlt : k < n
    · have hk256 : k < 256 := by have := HN.out; have := HS.out.len; have := HS.out.le; omega
      obtain ⟨b, o, rfl, hb, hc0⟩ := (Rd.of_own hown.out).num (i := k) hlt
      have hkx : ks[k]? = some (ks.getD k 0) := by
        rw [List.getD_eq_getElem?_getD, List.getElem?_eq_getElem (by rw [HKL.out]; exact hlt)]
        rfl
      obtain ⟨x, hx⟩ : ∃ x, x = ks.getD k 0 := ⟨_, rfl⟩
      rw [← hx] at hc0 hkx
      obtain ⟨t, ht, htx⟩ := (HKS.out x).1 (List.mem_of_getElem? hkx)
      have htm : key t ∈ L := HS.out.hold.mem_iff.1 (List.mem_map.2 ⟨_, ht, rfl⟩)
      have hw : W64 x := by rw [← htx]; exact HS.out.ids _ htm
      obtain ⟨j, hj, hje⟩ := List.mem_iff_getElem.1 ht
      have hq0 := HS.out.keep hf.out
      have hit := hq0.mp.get ht (by rw [htx]; exact hw)
      have hca := (hq0.th.blk j _ (List.getElem?_eq_getElem hj)).cell 1
      rw [hje] at hca
      simp [tcs] at hca
      obtain ⟨h1, h2⟩ := cl_step hcl.out HS.out.good HLG.out hk256 htm (show ks[k]? = some (key t).1 by rw [hkx, ← htx]; rfl)
      have hset := qset_any wr w.heap.size gc w.heap.size v1 E1 M x t.at_ hq.out hw
      rw [show (key t).1 = x from htx, show (key t).2 = t.at_ from rfl] at h1 h2
      rw [h1] at hset
      rw [htx] at hit
      have hqc := hf.out.cell (p := ⟨g, 1, none⟩) q2 (fun h => h)
      rw [HQ01.out] at hqc
      have hi0 : (0 : Int) ≤ (k : Int) ∧ (k : Int) < (n : Int) := ⟨by omega, by omega⟩
      obtain ⟨a, ha⟩ : ∃ a, a = t.at_ := ⟨_, rfl⟩
      obtain ⟨bt, hbt⟩ : ∃ b, b = t.b := ⟨_, rfl⟩
      rw [← ha] at hca h2 hset
      rw [← hbt] at hca hit
      unfold ptr at hit
      have HSET := Lib.hid hset
      have HCL2 := Lib.hid h2
      clear hx hkx ht htx htm hw hj hje hq0 h1 h2 hset ha hbt
      go_wp2_with fail
      refine HSET.out.mono ?_
      rintro e w5 ⟨rfl, v5, E5, hq5, hf5, hb5⟩
      have HQ5 := Lib.hid hq5
      have HO5 := Lib.hid (own_fr hown.out hf5 (fun b' hb' => by
        obtain ⟨cs, hcs⟩ := own_block hown.out b' hb'
        exact hq.out.out hcs (by decide) (by decide) (by decide)))
      have HF5 := Lib.hid (hf.out.newer hf5 (fun i hi => hq.out.ge hi))
      clear hq5 hf5 hb5 hit hca hc0
      go_wp2_with fail
      go_roundw
      case rel => exact ⟨k + 1, v5, E5, _, by go_num, by omega, HQ5, HCL2, HO5, HF5⟩
      case measure => simp [intOf]; omega
    · obtain rfl : k = n := by omega
      have hML : M = L := cl_end hcl.out HS.out.good HKL.out (fun x hx => by
        obtain ⟨t, ht, hte⟩ := List.mem_map.1 (HS.out.hold.mem_iff.2 hx)
        exact (HKS.out x.1).2 ⟨t, ht, by rw [← hte]; rfl⟩)
      go_wp2_with fail
      go_ret
      exact ⟨gc, w.heap.size, v1, E1, rfl, by rw [← hML]; exact hq.out, hf.out⟩
end Go.Proofs.Ythdenkmmiadeiaa
