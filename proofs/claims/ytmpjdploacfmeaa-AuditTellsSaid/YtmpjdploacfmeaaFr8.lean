/- What must come whatever the input is: bilgelaw31.sure. -/
import Derived.Test.YtmpjdploacfmeaaFr7
import Derived.Test.YtmpjdploacfmeaaBytes
import Derived.Test.YtmpjdploacfmeaaInts
namespace Go.Proofs.Ytmpjdploacfmeaa
set_option linter.unusedSimpArgs false
set_option linter.unusedVariables false
open Go.RowKit

theorem outs_rd {w : World} {g : Nat} (lo : List (Int × Int)) (cs : Array Value) (hb : Blk w g 110 cs) (h : cs.toList = lo.flatMap outc) : Rd w 2 (some ⟨g, 0, none⟩) lo.length (lo.flatMap outc) :=
  Rd.of_blk hb (flat_len outc 2 lo outc_len) (fun j u hu => by rw [Nat.zero_add, ← Array.getElem?_toList, h]; exact hu)
theorem frs1 : framesF 1 [(5, 1), (6, 2), (9, 3)] = some ([[1, 2], [3]], [5, 9]) := by decide
theorem frs2 : framesF 1 [(5, 0), (5, 0)] = none := by decide
theorem frt : rightT 1 2 4 3 = true := by decide
theorem fck1 : checkF (rightT 1 2 4 3) 1 [] 1 = 0 := by decide
theorem fck2 : checkF (rightT 1 2 4 3) 1 [] 0 = 11 := by decide
theorem fck3 : checkF (rightT 1 2 4 3) 1 [(5, 0)] 1 = 12 := by decide

set_option maxHeartbeats 4000000 in
set_option maxRecDepth 100000 in
theorem audit_sure (w : World) : Calls Try.prog 31 #[] w fun e w' => e = .returned (.bool true) ∧ Fr nob w w' := by
  have ht := Blk.new w 63 #[.int .i64 1, .int .i64 2, .int .i64 4, .int .i64 3]
  have hft := (Fr.refl nob w).alloc (.cells #[.int .i64 1, .int .i64 2, .int .i64 4, .int .i64 3] 63)
  have hb1 := Blk.new (w.alloc (.cells #[.int .i64 1, .int .i64 2, .int .i64 4, .int .i64 3] 63)) 110 #[.int .i64 5, .int .u8 1, .int .i64 6, .int .u8 2, .int .i64 9, .int .u8 3]
  simp only [World.size_alloc] at hb1
  have hc1 := audit_frames (some ⟨w.heap.size + 1, 0, none⟩) 3 3 [(5, 1), (6, 2), (9, 3)] 1 2 4 3 _ (outs_rd _ _ hb1 rfl) (by omega) (by omega)
  have HC1 := Lib.hid hc1
  have HT := Lib.hid (ht.alloc (.cells #[.int .i64 5, .int .u8 1, .int .i64 6, .int .u8 2, .int .i64 9, .int .u8 3] 110))
  have HF := Lib.hid (hft.alloc (.cells #[.int .i64 5, .int .u8 1, .int .i64 6, .int .u8 2, .int .i64 9, .int .u8 3] 110))
  clear ht hft hb1 hc1
  go_enter Try.func31, Try.ntmps31
  go_wp2_with fail
  refine HC1.out.mono ?_
  rintro e w1 ⟨hf1, ⟨hr, _⟩ | ⟨_, hr, _⟩ | ⟨_, fs, ats, ov, A1, c1, hfs, rfl, hcr, hown⟩⟩
  · rw [frt] at hr; cases hr
  · rw [frs1] at hr; cases hr
  rw [frs1] at hfs
  cases hfs
  obtain ⟨Ao, oc, rfl⟩ := hcr.form
  have ht1 := HT.out.fr hf1 id
  have hfw1 := HF.out.trans hf1 (fun _ _ h => h)
  have q1 := ht1.cell
  have q2 := ht1.lt
  have hb2 := Blk.new w1 110 #[.int .i64 5, .int .u8 0, .int .i64 5, .int .u8 0]
  have hf2 := (Fr.refl nob w1).alloc (.cells #[.int .i64 5, .int .u8 0, .int .i64 5, .int .u8 0] 110)
  have HC2 := Lib.hid (audit_frames (some ⟨w1.heap.size, 0, none⟩) 2 2 [(5, 0), (5, 0)] 1 2 4 3 _ (outs_rd _ _ hb2 rfl) (by omega) (by omega))
  have HCR := Lib.hid (hcr.nob hf2)
  have HOW := Lib.hid (own_fr hown hf2 (fun _ _ h => h))
  have HT2 := Lib.hid (ht1.fr hf2 id)
  have HF2 := Lib.hid (hfw1.trans hf2 (fun _ _ h => h))
  clear hcr hown ht1 hfw1 hb2 hf2 hf1 HC1 HT HF
  go_wp2_with fail
  refine HC2.out.mono ?_
  rintro e w2 ⟨hf2, ⟨hr, _⟩ | ⟨_, _, rfl⟩ | ⟨_, fs, ats, ov, A2, c2, hfs, _⟩⟩
  · rw [frt] at hr; cases hr
  rotate_left
  · rw [frs2] at hfs; cases hfs
  have hcr2 := HCR.out.nob hf2
  obtain ⟨g, o, f, rfl, hg, hfk, Ai, ni, ci, hc, hni, hci, hrd⟩ := hcr2.at_ (k := 0) (by simp)
  cases hfk
  have hn2 := hrd.numlen
  obtain rfl : 2 = ni := hn2
  have HOW2 := Lib.hid (own_fr HOW.out hf2 (fun _ _ h => h))
  have HT3 := Lib.hid (HT2.out.fr hf2 id)
  have HF3 := Lib.hid (HF2.out.trans hf2 (fun _ _ h => h))
  have hb3 := Blk.new w2 5 #[.int .u8 1, .int .u8 2]
  have hf3 := (Fr.refl nob w2).alloc (.cells #[.int .u8 1, .int .u8 2] 5)
  have HC3 := Lib.hid (bytes_any Ai (some ⟨w2.heap.size, 0, none⟩) 2 2 ci 2 [1, 2] [1, 2] _ (hrd.nob hf3) (Rd.of_blk hb3 rfl (fun j u hu => by rw [Nat.zero_add]; simpa [nums] using hu)) (by omega) (by omega))
  have HF4 := Lib.hid hf3
  simp only [Nat.add_zero] at hc
  have hsm : sameInts [1, 2] [1, 2] = true := by decide
  rw [hsm] at HC3
  clear q1 q2 hcr2 hrd hb3 hf3 hf2 HCR HOW HT2 HF2 HC2 hni hci
  go_wp2_with fail
  refine HC3.out.mono ?_
  rintro e w3 ⟨rfl, k3, rfl⟩
  have hfa := HF4.out.drewN k3
  have hb4 := Blk.new ((w2.alloc (.cells #[.int .u8 1, .int .u8 2] 5)).drewN k3) 3 #[.int .i64 5, .int .i64 9]
  have hf4 := (Fr.refl nob ((w2.alloc (.cells #[.int .u8 1, .int .u8 2] 5)).drewN k3)).alloc (.cells #[.int .i64 5, .int .i64 9] 3)
  have hz4 : ((w2.alloc (.cells #[.int .u8 1, .int .u8 2] 5)).drewN k3).heap.size = w2.heap.size + 1 := World.size_alloc _ _
  rw [hz4] at hb4
  have hfb := hfa.trans hf4 (fun _ _ h => h)
  have HOW3 := Lib.hid (own_fr HOW2.out hfb (fun _ _ h => h))
  have HC4 := Lib.hid (ints_any A1 (some ⟨w2.heap.size + 1, 0, none⟩) 2 2 c1 2 [5, 9] [5, 9] _ (Rd.of_own HOW3.out) (Rd.of_blk hb4 rfl (fun j u hu => by rw [Nat.zero_add]; simpa [nums] using hu)) (by omega) (by omega))
  have hsm2 : sameInts [5, 9] [5, 9] = true := by decide
  rw [hsm2] at HC4
  have HFB := Lib.hid hfb
  clear hfa hb4 hf4 hz4 hfb hsm hsm2 HC3 HF4 HOW2
  go_wp2_with fail
  refine HC4.out.mono ?_
  rintro e w4 ⟨rfl, k4, rfl⟩
  obtain ⟨V, hV⟩ : ∃ V, V = ((((w2.alloc (.cells #[.int .u8 1, .int .u8 2] 5)).drewN k3).alloc (.cells #[.int .i64 5, .int .i64 9] 3)).drewN k4) := ⟨_, rfl⟩
  have hfV : Fr nob w2 V := by rw [hV]; exact HFB.out.drewN k4
  rw [← hV]
  have ht4 := HT3.out.fr hfV id
  have HFW := Lib.hid (HF3.out.trans hfV (fun _ _ h => h))
  have q1 := ht4.cell
  have q2 := ht4.lt
  have hc5 := fun U => audit_check none 0 0 [] 1 1 2 4 3 U (Rd.nil_ _ _ _) (by simp) (by omega) (by omega)
  rw [fck1] at hc5
  have HC5 := Lib.hid hc5
  have HT4 := Lib.hid ht4
  clear hV hfV ht4 hc5 HC4 HFB HT3 HF3
  go_wp2_with fail
  refine (HC5.out _).mono ?_
  rintro e w5 ⟨rfl, hf5⟩
  have ht5 := HT4.out.fr hf5 id
  have HFW5 := Lib.hid (HFW.out.trans hf5 (fun _ _ h => h))
  have q3 := ht5.cell
  have q4 := ht5.lt
  have hc6 := fun U => audit_check none 0 0 [] 0 1 2 4 3 U (Rd.nil_ _ _ _) (by simp) (by omega) (by omega)
  rw [fck2] at hc6
  have HC6 := Lib.hid hc6
  have HT5 := Lib.hid ht5
  clear q1 q2 hf5 ht5 hc6 HC5 HT4 HFW
  go_wp2_with fail
  refine (HC6.out _).mono ?_
  rintro e w6 ⟨rfl, hf6⟩
  have ht6 := HT5.out.fr hf6 id
  have HFW6 := Lib.hid (HFW5.out.trans hf6 (fun _ _ h => h))
  have hb6 := Blk.new w6 110 #[.int .i64 5, .int .u8 0]
  have hf7 := (Fr.refl nob w6).alloc (.cells #[.int .i64 5, .int .u8 0] 110)
  have q5 := ht6.cell
  have q6 := ht6.lt
  have hc7 := audit_check (some ⟨w6.heap.size, 0, none⟩) 1 1 [(5, 0)] 1 1 2 4 3 _ (outs_rd _ _ hb6 rfl) (by simp) (by omega) (by omega)
  rw [fck3] at hc7
  have HC7 := Lib.hid hc7
  have HFW7 := Lib.hid (HFW6.out.trans hf7 (fun _ _ h => h))
  clear q3 q4 hf6 ht6 hb6 hf7 hc7 HC6 HT5 HFW5
  go_wp2_with fail
  refine HC7.out.mono ?_
  rintro e w7 ⟨rfl, hf8⟩
  have HFW8 := Lib.hid (HFW7.out.trans hf8 (fun _ _ h => h))
  clear q5 q6 hf8 HC7
  go_wp2_with fail
  go_ret
  exact ⟨rfl, HFW8.out⟩
end Go.Proofs.Ytmpjdploacfmeaa
