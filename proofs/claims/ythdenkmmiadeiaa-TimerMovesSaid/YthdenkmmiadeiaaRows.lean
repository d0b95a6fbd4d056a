/-
  No cell of these rows narrows 'for every input' (looked for: loops, veiled, ifaces, maps, wideKeys, modest, calm, conditions, laid).
  DERIVED. THE GIVEN ROWS OF THIS SEAT. 8 by the template 'for every input the law returns true; each argument reads behind the call as it read before'; 0 by the template 'total and deterministic' (their statements: YthdenkmmiadeiaaTotals.lean).
  GIVEN WITH THE SEED: the statements are not yours to turn. If you find one false, say at which input.
  Laid BY PROGRAM, IN A SANDBOX (cutbox-rows.mjs): the forced cells as the released guide's own fill.sh prints them over the translation 0458c7242702eb91… (all of the seat's roots in one cut). By AI agents, Wed Nov 11 2026. No macro, syntax, notation, axiom, sorry.
-/
import Derived.Test.YthdenkmmiadeiaaChecked
import GoSem.Claim
import GoSem.ClaimJoined
import GoSem.ClaimMapViews
import Derived.JoinedTies
import Derived.KernelRfl
namespace Go.Proofs.Ythdenkmmiadeiaa
/- THE CELL 'sum', in the pinned program and in every row, IS THE sha256 OF THE DUMP (.gsa) THAT YthdenkmmiadeiaaProg.lean LOADS. Nothing in Lean hashes anything: it is a label: what it is worth is what the hold of that sum in a sandbox is worth. -/
noncomputable def Try.pinned : Pinned := { name := "ythdenkmmiadeiaa", sum := "0458c7242702eb91b988213396182f4a56d2991981169904b2f24f58e5bb8a8a", checked := Try.checked }
namespace Rows
def none {H : Type} : Left H := { results := [], args := [] }

/-- 'bilgelaw21.IdentParts': WHATEVER THE INPUT: true; the input reads as it did. -/
def identPartsSpec : ChangeSpec := { name := "identParts", fn := fun _ => fun
  | [d1, d2] => { results := [.lit (.bool true)], args := [d1, d2] }
  | _ => none }
def identPartsRow : OpenClaim := { program := "ythdenkmmiadeiaa", sum := "0458c7242702eb91b988213396182f4a56d2991981169904b2f24f58e5bb8a8a", func := "bilge/bilgelaw21.IdentParts", spec := "identParts", unfollowed := true, recurses := true, apart := false }
def IdentPartsSaid : Prop := identPartsRow.holds Try.pinned (OpenSpec.ofChange identPartsSpec)

/-- ITS FALSE NEIGHBOUR: 'it returns false'. Refute it at one input. -/
def identPartsWrong : ChangeSpec := { name := "identParts", fn := fun _ => fun
  | [d1, d2] => { results := [.lit (.bool false)], args := [d1, d2] }
  | _ => none }
def IdentPartsWrongFalsely : Prop := identPartsRow.holds Try.pinned (OpenSpec.ofChange identPartsWrong)

/-- 'bilgelaw21.IdentAnswers': WHATEVER THE INPUT: true; the input reads as it did. -/
def identAnswersSpec : ChangeSpec := { name := "identAnswers", fn := fun _ => fun
  | [d1, d2] => { results := [.lit (.bool true)], args := [d1, d2] }
  | _ => none }
def identAnswersRow : OpenClaim := { program := "ythdenkmmiadeiaa", sum := "0458c7242702eb91b988213396182f4a56d2991981169904b2f24f58e5bb8a8a", func := "bilge/bilgelaw21.IdentAnswers", spec := "identAnswers", unfollowed := true, recurses := true, apart := false }
def IdentAnswersSaid : Prop := identAnswersRow.holds Try.pinned (OpenSpec.ofChange identAnswersSpec)

/-- ITS FALSE NEIGHBOUR: 'it returns false'. Refute it at one input. -/
def identAnswersWrong : ChangeSpec := { name := "identAnswers", fn := fun _ => fun
  | [d1, d2] => { results := [.lit (.bool false)], args := [d1, d2] }
  | _ => none }
def IdentAnswersWrongFalsely : Prop := identAnswersRow.holds Try.pinned (OpenSpec.ofChange identAnswersWrong)

/-- 'bilgelaw21.IdentBack': WHATEVER THE INPUT: true; the input reads as it did. -/
def identBackSpec : ChangeSpec := { name := "identBack", fn := fun _ => fun
  | [d1, d2] => { results := [.lit (.bool true)], args := [d1, d2] }
  | _ => none }
def identBackRow : OpenClaim := { program := "ythdenkmmiadeiaa", sum := "0458c7242702eb91b988213396182f4a56d2991981169904b2f24f58e5bb8a8a", func := "bilge/bilgelaw21.IdentBack", spec := "identBack", unfollowed := true, recurses := true, apart := false }
def IdentBackSaid : Prop := identBackRow.holds Try.pinned (OpenSpec.ofChange identBackSpec)

/-- ITS FALSE NEIGHBOUR: 'it returns false'. Refute it at one input. -/
def identBackWrong : ChangeSpec := { name := "identBack", fn := fun _ => fun
  | [d1, d2] => { results := [.lit (.bool false)], args := [d1, d2] }
  | _ => none }
def IdentBackWrongFalsely : Prop := identBackRow.holds Try.pinned (OpenSpec.ofChange identBackWrong)

/-- 'bilgelaw21.IdentAll': WHATEVER THE INPUT: true; the input reads as it did. -/
def identAllSpec : ChangeSpec := { name := "identAll", fn := fun _ => fun
  | [d1, d2] => { results := [.lit (.bool true)], args := [d1, d2] }
  | _ => none }
def identAllRow : OpenClaim := { program := "ythdenkmmiadeiaa", sum := "0458c7242702eb91b988213396182f4a56d2991981169904b2f24f58e5bb8a8a", func := "bilge/bilgelaw21.IdentAll", spec := "identAll", unfollowed := true, recurses := true, apart := false }
def IdentAllSaid : Prop := identAllRow.holds Try.pinned (OpenSpec.ofChange identAllSpec)

/-- ITS FALSE NEIGHBOUR: 'it returns false'. Refute it at one input. -/
def identAllWrong : ChangeSpec := { name := "identAll", fn := fun _ => fun
  | [d1, d2] => { results := [.lit (.bool false)], args := [d1, d2] }
  | _ => none }
def IdentAllWrongFalsely : Prop := identAllRow.holds Try.pinned (OpenSpec.ofChange identAllWrong)

/-- 'bilgelaw21.IdentOne': WHATEVER THE INPUT: true; the input reads as it did. -/
def identOneSpec : ChangeSpec := { name := "identOne", fn := fun _ => fun
  | [d1, d2, d3] => { results := [.lit (.bool true)], args := [d1, d2, d3] }
  | _ => none }
def identOneRow : OpenClaim := { program := "ythdenkmmiadeiaa", sum := "0458c7242702eb91b988213396182f4a56d2991981169904b2f24f58e5bb8a8a", func := "bilge/bilgelaw21.IdentOne", spec := "identOne", unfollowed := true, recurses := true, apart := false }
def IdentOneSaid : Prop := identOneRow.holds Try.pinned (OpenSpec.ofChange identOneSpec)

/-- ITS FALSE NEIGHBOUR: 'it returns false'. Refute it at one input. -/
def identOneWrong : ChangeSpec := { name := "identOne", fn := fun _ => fun
  | [d1, d2, d3] => { results := [.lit (.bool false)], args := [d1, d2, d3] }
  | _ => none }
def IdentOneWrongFalsely : Prop := identOneRow.holds Try.pinned (OpenSpec.ofChange identOneWrong)

/-- 'bilgelaw06.TimerDoes': WHATEVER THE INPUT: true; the input reads as it did. -/
def timerDoesSpec : ChangeSpec := { name := "timerDoes", fn := fun _ => fun
  | [d] => { results := [.lit (.bool true)], args := [d] }
  | _ => none }
def timerDoesRow : OpenClaim := { program := "ythdenkmmiadeiaa", sum := "0458c7242702eb91b988213396182f4a56d2991981169904b2f24f58e5bb8a8a", func := "bilge/bilgelaw06.TimerDoes", spec := "timerDoes", unfollowed := true, recurses := true, apart := false }
def TimerDoesSaid : Prop := timerDoesRow.holds Try.pinned (OpenSpec.ofChange timerDoesSpec)

/-- ITS FALSE NEIGHBOUR: 'it returns false'. Refute it at one input. -/
def timerDoesWrong : ChangeSpec := { name := "timerDoes", fn := fun _ => fun
  | [d] => { results := [.lit (.bool false)], args := [d] }
  | _ => none }
def TimerDoesWrongFalsely : Prop := timerDoesRow.holds Try.pinned (OpenSpec.ofChange timerDoesWrong)

/-- 'bilgelaw06.TimerMoves': WHATEVER THE INPUT: true; the input reads as it did. -/
def timerMovesSpec : ChangeSpec := { name := "timerMoves", fn := fun _ => fun
  | [d1, d2, d3] => { results := [.lit (.bool true)], args := [d1, d2, d3] }
  | _ => none }
def timerMovesRow : OpenClaim := { program := "ythdenkmmiadeiaa", sum := "0458c7242702eb91b988213396182f4a56d2991981169904b2f24f58e5bb8a8a", func := "bilge/bilgelaw06.TimerMoves", spec := "timerMoves", unfollowed := true, recurses := true, apart := false }
def TimerMovesSaid : Prop := timerMovesRow.holds Try.pinned (OpenSpec.ofChange timerMovesSpec)

/-- ITS FALSE NEIGHBOUR: 'it returns false'. Refute it at one input. -/
def timerMovesWrong : ChangeSpec := { name := "timerMoves", fn := fun _ => fun
  | [d1, d2, d3] => { results := [.lit (.bool false)], args := [d1, d2, d3] }
  | _ => none }
def TimerMovesWrongFalsely : Prop := timerMovesRow.holds Try.pinned (OpenSpec.ofChange timerMovesWrong)

/-- 'bilgelaw29.PollApart': WHATEVER THE INPUT: true; the input reads as it did. -/
def pollApartSpec : ChangeSpec := { name := "pollApart", fn := fun _ => fun
  | [d1, d2, d3] => { results := [.lit (.bool true)], args := [d1, d2, d3] }
  | _ => none }
def pollApartRow : OpenClaim := { program := "ythdenkmmiadeiaa", sum := "0458c7242702eb91b988213396182f4a56d2991981169904b2f24f58e5bb8a8a", func := "bilge/bilgelaw29.PollApart", spec := "pollApart", unfollowed := true, recurses := true, apart := false }
def PollApartSaid : Prop := pollApartRow.holds Try.pinned (OpenSpec.ofChange pollApartSpec)

/-- ITS FALSE NEIGHBOUR: 'it returns false'. Refute it at one input. -/
def pollApartWrong : ChangeSpec := { name := "pollApart", fn := fun _ => fun
  | [d1, d2, d3] => { results := [.lit (.bool false)], args := [d1, d2, d3] }
  | _ => none }
def PollApartWrongFalsely : Prop := pollApartRow.holds Try.pinned (OpenSpec.ofChange pollApartWrong)

/- THE SECOND FORM. 'bulk': how many values and letters a reading holds, each counted each time it is reached (what is shared counts as often as it is met; a slice's spare places count too). A statement '..UptoSaid' is the law's where the arguments, and the package variables that the reading takes, are together of bulk at most 1048576: NARROWER than '..Said'. Prove '..Said' where nothing that the law and all that it calls make is longer than what came in: it says more and counts as full. Else prove '..UptoSaid'. A law counts once. -/
mutual
def uptoBulk {H : Type} : DataW H → Nat
  | .lit (.string bytes) => bytes.length + 1
  | .lit _ => 1
  | .nil => 1
  | .ptr d => uptoBulk d + 1
  | .slice elems spare => uptoBulkAll elems + uptoBulkAll spare + 1
  | .agg parts => uptoBulkAll parts + 1
  | .iface _ d => uptoBulk d + 1
  | .map entries => uptoBulkEntries entries + 1
  | .held _ => 1
def uptoBulkAll {H : Type} : List (DataW H) → Nat
  | [] => 0
  | d :: r => uptoBulk d + uptoBulkAll r
def uptoBulkEntries {H : Type} : List (Lit × DataW H) → Nat
  | [] => 0
  | x :: r => uptoBulkEntry x + uptoBulkEntries r
def uptoBulkEntry {H : Type} : Lit × DataW H → Nat
  | (.string bytes, d) => bytes.length + uptoBulk d + 1
  | (_, d) => uptoBulk d + 1
 end
def uptoSmall : (H : Type) → List (DataW H) → Bool := fun _ ds => decide (uptoBulkAll ds ≤ 1048576)
def OpenSpec.upto (s : _root_.Go.ChangeSpec) : _root_.Go.OpenSpec := { _root_.Go.OpenSpec.ofChange s with cond := some uptoSmall }

/-- 'bilgelaw21.IdentParts', WHERE WHAT IT READS IS OF BULK AT MOST 1048576: true; the input reads as it did. -/
def identPartsUptoRow : OpenClaim := { program := "ythdenkmmiadeiaa", sum := "0458c7242702eb91b988213396182f4a56d2991981169904b2f24f58e5bb8a8a", func := "bilge/bilgelaw21.IdentParts", spec := "identParts", unfollowed := true, recurses := true, apart := false, narrowed := true }
def IdentPartsUptoSaid : Prop := identPartsUptoRow.holds Try.pinned (OpenSpec.upto identPartsSpec)

/-- 'bilgelaw21.IdentAnswers', WHERE WHAT IT READS IS OF BULK AT MOST 1048576: true; the input reads as it did. -/
def identAnswersUptoRow : OpenClaim := { program := "ythdenkmmiadeiaa", sum := "0458c7242702eb91b988213396182f4a56d2991981169904b2f24f58e5bb8a8a", func := "bilge/bilgelaw21.IdentAnswers", spec := "identAnswers", unfollowed := true, recurses := true, apart := false, narrowed := true }
def IdentAnswersUptoSaid : Prop := identAnswersUptoRow.holds Try.pinned (OpenSpec.upto identAnswersSpec)

/-- 'bilgelaw21.IdentBack', WHERE WHAT IT READS IS OF BULK AT MOST 1048576: true; the input reads as it did. -/
def identBackUptoRow : OpenClaim := { program := "ythdenkmmiadeiaa", sum := "0458c7242702eb91b988213396182f4a56d2991981169904b2f24f58e5bb8a8a", func := "bilge/bilgelaw21.IdentBack", spec := "identBack", unfollowed := true, recurses := true, apart := false, narrowed := true }
def IdentBackUptoSaid : Prop := identBackUptoRow.holds Try.pinned (OpenSpec.upto identBackSpec)

/-- 'bilgelaw21.IdentAll', WHERE WHAT IT READS IS OF BULK AT MOST 1048576: true; the input reads as it did. -/
def identAllUptoRow : OpenClaim := { program := "ythdenkmmiadeiaa", sum := "0458c7242702eb91b988213396182f4a56d2991981169904b2f24f58e5bb8a8a", func := "bilge/bilgelaw21.IdentAll", spec := "identAll", unfollowed := true, recurses := true, apart := false, narrowed := true }
def IdentAllUptoSaid : Prop := identAllUptoRow.holds Try.pinned (OpenSpec.upto identAllSpec)

/-- 'bilgelaw21.IdentOne', WHERE WHAT IT READS IS OF BULK AT MOST 1048576: true; the input reads as it did. -/
def identOneUptoRow : OpenClaim := { program := "ythdenkmmiadeiaa", sum := "0458c7242702eb91b988213396182f4a56d2991981169904b2f24f58e5bb8a8a", func := "bilge/bilgelaw21.IdentOne", spec := "identOne", unfollowed := true, recurses := true, apart := false, narrowed := true }
def IdentOneUptoSaid : Prop := identOneUptoRow.holds Try.pinned (OpenSpec.upto identOneSpec)

/-- 'bilgelaw06.TimerDoes', WHERE WHAT IT READS IS OF BULK AT MOST 1048576: true; the input reads as it did. -/
def timerDoesUptoRow : OpenClaim := { program := "ythdenkmmiadeiaa", sum := "0458c7242702eb91b988213396182f4a56d2991981169904b2f24f58e5bb8a8a", func := "bilge/bilgelaw06.TimerDoes", spec := "timerDoes", unfollowed := true, recurses := true, apart := false, narrowed := true }
def TimerDoesUptoSaid : Prop := timerDoesUptoRow.holds Try.pinned (OpenSpec.upto timerDoesSpec)

/-- 'bilgelaw06.TimerMoves', WHERE WHAT IT READS IS OF BULK AT MOST 1048576: true; the input reads as it did. -/
def timerMovesUptoRow : OpenClaim := { program := "ythdenkmmiadeiaa", sum := "0458c7242702eb91b988213396182f4a56d2991981169904b2f24f58e5bb8a8a", func := "bilge/bilgelaw06.TimerMoves", spec := "timerMoves", unfollowed := true, recurses := true, apart := false, narrowed := true }
def TimerMovesUptoSaid : Prop := timerMovesUptoRow.holds Try.pinned (OpenSpec.upto timerMovesSpec)

/-- 'bilgelaw29.PollApart', WHERE WHAT IT READS IS OF BULK AT MOST 1048576: true; the input reads as it did. -/
def pollApartUptoRow : OpenClaim := { program := "ythdenkmmiadeiaa", sum := "0458c7242702eb91b988213396182f4a56d2991981169904b2f24f58e5bb8a8a", func := "bilge/bilgelaw29.PollApart", spec := "pollApart", unfollowed := true, recurses := true, apart := false, narrowed := true }
def PollApartUptoSaid : Prop := pollApartUptoRow.holds Try.pinned (OpenSpec.upto pollApartSpec)

end Rows
end Go.Proofs.Ythdenkmmiadeiaa
