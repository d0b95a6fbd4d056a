/- Contract of Due of a queue of timers. -/
import Derived.Test.YthdenkmmiadeiaaTim10
import Derived.Test.YthdenkmmiadeiaaNums
namespace Go.Proofs.Ythdenkmmiadeiaa
set_option linter.unusedSimpArgs false
set_option linter.unusedVariables false
open Go.RowKit

theorem int_info : (Try.prog.info? 3).map (fun i => (i.zero, i.size, i.bytes)) = some (some (.int .i64 0), 1, 8) := by kernel_rfl
def sliceLen (v : Value) : Nat := match v with | .slice _ n _ => n | _ => 0
theorem QStep.trans {w w1 w2 : World} {base g mb : Nat} {v v1 : Value} {E E1 : List Ent} {L2 : List Tm} (hf : Fr (qfoot g mb v E) w w1) (hb : ∀ b, qfoot g mb v1 E1 b → qfoot g mb v E b ∨ w.heap.size ≤ b) (h : QStep w1 base g mb v1 E1 L2 w2) : QStep w base g mb v E L2 w2 := by
  obtain ⟨v', E', hq, hf2, hb2⟩ := h
  refine ⟨v', E', hq, ⟨hf2.os.trans hf.os, hf2.tape.trans hf.tape, hf2.output.trans hf.output, Nat.le_trans hf.size hf2.size, fun i hi hn => (hf2.block i (Nat.lt_of_lt_of_le hi hf.size) (fun h1 => ?_)).trans (hf.block i hi hn)⟩, fun b hb' => ?_⟩
  · rcases hb i h1 with h2 | h2
    · exact hn h2
    · omega
  · rcases hb2 b hb' with h1 | h1
    · exact hb b h1
    · exact .inr (Nat.le_trans hf.size h1)
theorem while_all {α : Type} {p : α → Bool} : ∀ (l : List α), (∀ x ∈ l, p x = true) → l.takeWhile p = l ∧ l.dropWhile p = []
  | [], _ => ⟨rfl, rfl⟩
  | x :: r, h => by
    have h1 := while_all r (fun y hy => h y (List.mem_cons_of_mem _ hy))
    have h2 := h x (List.mem_cons_self ..)
    rw [List.takeWhile_cons, List.dropWhile_cons, h2, h1.1, h1.2]
    exact ⟨rfl, rfl⟩
theorem drop_take_due {L : List Tm} {now : Int} {k : Nat} (h : ∀ x ∈ L.take k, x.2 ≤ now) (hk : k ≤ L.length) (hx : ∀ x, L[k]? = some x → now < x.2) : dueS L now = L.take k ∧ restS L now = L.drop k := by
  have e : L = L.take k ++ L.drop k := (List.take_append_drop k L).symm
  have h1 : (L.take k).takeWhile (fun x : Tm => decide (x.2 ≤ now)) = L.take k := (while_all _ fun x hx => decide_eq_true (h x hx)).1
  have h1' : (L.take k).dropWhile (fun x : Tm => decide (x.2 ≤ now)) = [] := (while_all _ fun x hx => decide_eq_true (h x hx)).2
  have h2 : (L.drop k).takeWhile (fun x : Tm => decide (x.2 ≤ now)) = [] ∧ (L.drop k).dropWhile (fun x : Tm => decide (x.2 ≤ now)) = L.drop k := by
    cases hd : L.drop k with
    | nil => simp
    | cons x r =>
      have : L[k]? = some x := by
        have := congrArg (fun l => l[0]?) hd
        simpa [List.getElem?_drop] using this
      have := hx x this
      have h3 : decide (x.2 ≤ now) = false := decide_eq_false (by omega)
      simp [List.takeWhile_cons, List.dropWhile_cons, h3]
  constructor
  · rw [dueS]
    conv => lhs; rw [e]
    rw [List.takeWhile_append, if_pos (by rw [h1]), h2.1, List.append_nil]
  · rw [restS]
    conv => lhs; rw [e]
    rw [List.dropWhile_append, h1']
    simpa using h2.2

/-- What Due tells: the numbers of what is due, in new memory. -/
def duePost (w : World) (base g mb : Nat) (v : Value) (E : List Ent) (L : List Tm) (now : Int) (e : Ending) (w' : World) : Prop :=
  ∃ A c, e = .returned (.slice A (dueS L now).length c) ∧ w'.ownsRow w.heap.size 3 1 (.slice A (dueS L now).length c) (dueS L now).length (nums .i64 ((dueS L now).map (·.1))) ∧ QStep w base g mb v E (restS L now) w'
set_option maxHeartbeats 4000000 in
set_option maxRecDepth 100000 in
theorem qdue_any (w : World) (base g mb : Nat) (v : Value) (E : List Ent) (L : List Tm) (now : Int) (h : QS w base g mb v E L) :
    Calls Try.prog 38 #[.pointer (some ⟨g, 0, none⟩), .int .i64 now] w (duePost w base g mb v E L now) := by
  have HS := Lib.hid h
  have hle := h.le
  have HID := Lib.hid h.ids
  have HG := Lib.hid h.good
  clear h
  go_enter Try.func38, Try.ntmps38
  go_wp2_with fail
  go_loopw [4] (fun lv wr => ∃ (k : Nat) (v1 : Value) (E1 : List Ent), k ≤ L.length ∧ sliceLen lv = k ∧ Hid (wr.ownsRow w.heap.size 3 1 lv k (nums .i64 ((L.take k).map (·.1)))) ∧ Hid (∀ x ∈ L.take k, x.2 ≤ now) ∧ Hid (QS wr base g mb v1 E1 (L.drop k)) ∧ Hid (Fr (qfoot g mb v E) w wr) ∧ Hid (∀ b, qfoot g mb v1 E1 b → qfoot g mb v E b ∨ w.heap.size ≤ b)) (fun lv _ => L.length - sliceLen lv)
  case atStart => exact ⟨0, v, E, by omega, rfl, Lib.hid (World.ownsRow_nil _ _ _ _), Lib.hid (by simp), HS, Lib.hid (Fr.refl _ _), Lib.hid (fun b hb => .inl hb)⟩
  case round =>
    clear HS
    obtain ⟨k, v1, E1, hk, hlv, hown, hdone, hq, hf, hft⟩ := hrel
    have HLV := Lib.hid hlv
    obtain ⟨A0, c0, rfl, _⟩ := own_form hown.out
    have hfst := Lib.hid (tfirst_any wr base g mb v1 E1 (L.drop k) hq.out)
    clear hlv
    go_wp2_with fail
    refine hfst.out.mono ?_
    rintro e w1 ⟨rfl, q1, rfl⟩
    have hqN := Lib.hid (hq.out.keep ((Fr.refl nob wr).drewN q1))
    have hend : (∀ x, L[k]? = some x → now < x.2) → ∀ q, duePost w base g mb v E L now (.returned (.slice A0 k c0)) (wr.drewN q) := by
      intro hx q
      obtain ⟨e1, e2⟩ := drop_take_due hdone.out hk hx
      have hl : (L.take k).length = k := by rw [List.length_take]; omega
      rw [duePost, e1, e2, hl]
      refine ⟨A0, c0, rfl, own_fr hown.out ((Fr.refl nob wr).drewN q) (fun _ _ h => h), ?_⟩
      exact QStep.trans hf.out hft.out (hq.out.still ((Fr.refl nob wr).drewN q))
    have HEND := Lib.hid hend
    clear hend hfst
    cases hd : L[k]? with
    | none =>
      have hdn : L.drop k = [] := List.drop_of_length_le (List.getElem?_eq_none_iff.1 hd)
      have HX := Lib.hid (show ∀ x, L[k]? = some x → now < x.2 from fun x hx => by rw [hd] at hx; cases hx)
      rw [hdn, firstS]
      dsimp only
      clear hd hdn hqN
      go_wp2_with fail
      go_ret
      exact HEND.out HX.out q1
    | some x =>
      have hkl : k < L.length := (List.getElem?_eq_some_iff.1 hd).1
      have hdn : L.drop k = x :: L.drop (k + 1) := by
        obtain ⟨h1, h2⟩ := List.getElem?_eq_some_iff.1 hd
        rw [List.drop_eq_getElem_cons h1, h2]
      obtain ⟨xi, xa⟩ := x
      by_cases hnow : now < xa
      · have HX := Lib.hid (show ∀ x, L[k]? = some x → now < x.2 from fun x hx => by rw [hd] at hx; cases hx; exact hnow)
        rw [hdn, firstS]
        dsimp only
        clear hd hdn hqN
        go_wp2_with fail
        go_ret
        exact HEND.out HX.out q1
      · have hw : W64 xi := HID.out (xi, xa) (List.mem_of_getElem? hd)
        have hdr := qdrop_any (wr.drewN q1) base g mb v1 E1 (L.drop k) xi hqN.out hw
        have hqg := hq.out.good
        rw [hdn] at hqg
        have hdh : dropS (L.drop k) xi = L.drop (k + 1) := by rw [hdn]; exact drop_head hqg
        have hhas : hasS (L.drop k) xi = true := by rw [hdn]; simp [hasS]
        rw [hdh, hhas] at hdr
        have HDR := Lib.hid hdr
        have htk : L.take (k + 1) = L.take k ++ [(xi, xa)] := by rw [List.take_add_one, hd]; rfl
        have HTK := Lib.hid htk
        rw [hdn, firstS]
        dsimp only
        clear hd hdn hw hdr hqg hdh hhas htk HEND
        go_wp2_with fail
        refine HDR.out.mono ?_
        rintro e w2 ⟨rfl, v2, E2, hq2, hf2, hft2⟩
        have hown2 : w2.ownsRow w.heap.size 3 1 (.slice A0 k c0) k (nums .i64 ((L.take k).map (·.1))) := own_fr (own_fr hown.out ((Fr.refl nob wr).drewN q1) (fun _ _ h => h)) hf2 (fun b hb => by
          obtain ⟨cs, hcs⟩ := own_block (own_fr hown.out ((Fr.refl nob wr).drewN q1) (fun _ _ h => h)) b hb
          exact hqN.out.out hcs (by decide) (by decide) (by decide))
        have hsz : w.heap.size ≤ w2.heap.size := Nat.le_trans hf.out.size hf2.size
        have HF2 := Lib.hid hf2
        have HQ2 := Lib.hid hq2
        have HFT2 := Lib.hid hft2
        clear hq2 hf2 hft2
        go_wp2_with (at_builtin; (refine app_one (P := Try.prog) (W := w2) w.heap.size rfl _ _ _ 3 (.int .i64 0) 1 8 rfl Try.underlying77 int_info rfl (by omega) (.slice A0 k c0) k _ _ rfl rfl rfl (by simp [Value.oneCell']) hown2 hsz (by omega) (by omega) ?_); intro v3 w3 hown3 hg3 hat3; obtain ⟨A3, c3, rfl, _⟩ := own_form hown3)
        go_roundw
        case rel =>
          have hfg : Fr (fun b => some b = (Value.slice A0 k c0).ownBlock) w2 w3 := (Fr.refl _ _).grown hg3 (fun j hj => .inl hj.symm)
          have hnq : ∀ b, qfoot g mb v2 E2 b → ¬ some b = (Value.slice A0 k c0).ownBlock := fun b hb e => by
            obtain ⟨cs, hcs⟩ := own_block hown2 b e.symm
            exact HQ2.out.out hcs (by decide) (by decide) (by decide) hb
          refine ⟨k + 1, v2, E2, by omega, rfl, ?_, ?_, Lib.hid (HQ2.out.fr hfg hnq), ?_, ?_⟩
          · refine Lib.hid ?_
            rw [HTK.out, List.map_append, nums_app]
            exact hown3
          · refine Lib.hid fun x hx => ?_
            rw [HTK.out] at hx
            rcases List.mem_append.1 hx with hx | hx
            · exact hdone.out x hx
            · simp at hx; subst hx; dsimp only; omega
          · refine Lib.hid ?_
            have h1 : Fr (qfoot g mb v E) w w2 := ⟨HF2.out.os.trans hf.out.os, HF2.out.tape.trans hf.out.tape, HF2.out.output.trans hf.out.output, hsz, fun i hi hn => (HF2.out.block i (Nat.lt_of_lt_of_le hi hf.out.size) (fun h1 => by rcases hft.out i h1 with h2 | h2; exact hn h2; omega)).trans (hf.out.block i hi hn)⟩
            exact ⟨hfg.os.trans h1.os, hfg.tape.trans h1.tape, hfg.output.trans h1.output, Nat.le_trans hsz hfg.size, fun i hi hn => (hfg.block i (Nat.lt_of_lt_of_le hi hsz) (fun e => by have := own_at hown2 i e.symm; omega)).trans (h1.block i hi hn)⟩
          · refine Lib.hid fun b hb => ?_
            rcases HFT2.out b hb with h1 | h1
            · exact hft.out b h1
            · exact .inr (Nat.le_trans hf.out.size h1)
        case measure => simp [sliceLen]; omega
end Go.Proofs.Ythdenkmmiadeiaa
