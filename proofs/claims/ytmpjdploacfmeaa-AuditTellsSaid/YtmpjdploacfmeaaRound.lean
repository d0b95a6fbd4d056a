/- Drawn regions within a round of a range over a function: what holds outside holds there, as long as nothing is deferred. No program is spoken of. -/
import Derived.Test.YtmpjdploacfmeaaLate
import Derived.Test.YtmpjdploacfmeaaRangeT
import Derived.OrdersIn
namespace Go.Proofs.Ytmpjdploacfmeaa
set_option linter.unusedSimpArgs false
set_option linter.unusedVariables false
open Go.RowKit

section
variable {P : Program} {Q : Exit → Act → World → Prop} {l n : Nat}
theorem wp_round {o : Oper} {a : Act} {w : World} {K : Act → World → Prop} (hd : ∀ c, o.op ≠ .defer c) (h : Oper.wp P o a w K Q) : Oper.wpIn (Fence.wide.inRound l) n P o a w K Q := by
  refine ⟨fun _ _ => trivial, ?_⟩
  rw [Oper.semAt_eq _ _ _ hd]
  unfold Oper.wp at h
  generalize (execOp a.eval o).run P w = r at *
  cases r with
  | ok x w' =>
    cases x <;> simp only [Oper.upon, Oper.uponIn] at h ⊢
    case value => exact h
    case skip => exact h
    case defer => exact h
    case enter => exact ⟨fun h => (by cases h), (callsIn_wide (n := n - 1)).2 h⟩
    case row => exact ⟨fun h => (by cases h), fun c cs _ => let ⟨v, w', r, s⟩ := h c cs; ⟨v, w', r, stepsIn_wide.2 s⟩⟩
  | halt x w' => cases x <;> simp only [Oper.upon, Oper.uponIn] at h ⊢ <;> exact h
/-- Nothing is deferred. -/
def undeferred (ops : Array Oper) : Bool := ops.all fun o => match o.op with
  | .defer _ => false
  | _ => true
theorem undeferred_spec {ops : Array Oper} (h : undeferred ops = true) {i : Nat} {o : Oper} (ho : ops[i]? = some o) : ∀ c, o.op ≠ .defer c := by
  intro c e
  have h1 : (match o.op with | .defer _ => false | _ => true) = true := by
    obtain ⟨hi, rfl⟩ := Array.getElem?_eq_some_iff.1 ho
    exact (Array.all_eq_true.1 h) i hi
  rw [e] at h1
  cases h1
theorem any_round {ops : Array Oper} (hd : undeferred ops = true) (hno : ¬ LetsOut Q) : ∀ (m : Nat) (listed : Array Bool) (a : Act) (w : World), wpAny P .any ops Q m listed a w → wpAnyIn (Fence.wide.inRound l) n P .any ops Q m listed a w
  | 0, _, _, _, h => h
  | m + 1, listed, a, w, h => ⟨h.1, fun i hi => by
    have h1 := wpOp_mono (fun b v hb => any_round hd hno m (listed.setIfInBounds i true) b v hb) (h.2 i hi)
    unfold wpOp at h1
    unfold wpOpIn
    cases ho : ops[i]? with
    | none => rw [ho] at h1; exact h1
    | some o =>
      rw [ho] at h1
      dsimp only at h1 ⊢
      split
      · rename_i hw
        rw [if_pos hw] at h1
        exact wp_round (undeferred_spec hd ho) (h1.resolve_right fun h => hno h.2)
      · rename_i hw
        rw [if_neg hw] at h1
        exact ⟨fun _ _ => trivial, h1⟩⟩
/-- XLate's beginning, in a round. -/
theorem late_startR {ops : List Oper} {id : Nat} {a : Act} {w : World} (S : World → Prop) (late : Nat → Bool) (hm : P.follows .mixedOrders = true) (hd : undeferred ops.toArray = true) (hno : ¬ LetsOut Q) (hS : S w.drew)
    (h : S w.drew → wpLate P ops.toArray Q S late ops.toArray.size (Array.replicate ops.toArray.size false) a w.drew) : (Code.region id ops.toArray true).wpIn (Fence.wide.inRound l) n P Q a w :=
  wpIn_region_any hm (any_round hd hno _ _ _ _ (late_any _ _ _ _ (h hS)))
end
end Go.Proofs.Ytmpjdploacfmeaa
