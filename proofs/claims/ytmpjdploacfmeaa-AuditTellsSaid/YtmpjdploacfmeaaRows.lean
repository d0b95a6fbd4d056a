/-
  No cell of these rows narrows 'for every input' (looked for: loops, veiled, ifaces, maps, wideKeys, modest, calm, conditions, laid).
  DERIVED. THE GIVEN ROWS OF THIS SEAT. 5 by the template 'for every input the law returns true; each argument reads behind the call as it read before'; 0 by the template 'total and deterministic' (their statements: YtmpjdploacfmeaaTotals.lean).
  GIVEN WITH THE SEED: the statements are not yours to turn. If you find one false, say at which input.
  Laid BY PROGRAM, IN A SANDBOX (cutbox-rows.mjs): the forced cells as the released guide's own fill.sh prints them over the translation 6929e68ed0f9221a… (all of the seat's roots in one cut). By AI agents, Wed Nov 11 2026. No macro, syntax, notation, axiom, sorry.
-/
import Derived.Test.YtmpjdploacfmeaaChecked
import GoSem.Claim
import GoSem.ClaimJoined
import GoSem.ClaimMapViews
import Derived.JoinedTies
import Derived.KernelRfl
namespace Go.Proofs.Ytmpjdploacfmeaa
/- THE CELL 'sum', in the pinned program and in every row, IS THE sha256 OF THE DUMP (.gsa) THAT YtmpjdploacfmeaaProg.lean LOADS. Nothing in Lean hashes anything: it is a label: what it is worth is what the hold of that sum in a sandbox is worth. -/
noncomputable def Try.pinned : Pinned := { name := "ytmpjdploacfmeaa", sum := "6929e68ed0f9221a0c50c217a94f211ab98054293bc03620af1acacc9e898f63", checked := Try.checked }
namespace Rows
def none {H : Type} : Left H := { results := [], args := [] }

/-- 'bilgelaw08.TallySums': WHATEVER THE INPUT: true; the input reads as it did. -/
def tallySumsSpec : ChangeSpec := { name := "tallySums", fn := fun _ => fun
  | [d1, d2] => { results := [.lit (.bool true)], args := [d1, d2] }
  | _ => none }
def tallySumsRow : OpenClaim := { program := "ytmpjdploacfmeaa", sum := "6929e68ed0f9221a0c50c217a94f211ab98054293bc03620af1acacc9e898f63", func := "bilge/bilgelaw08.TallySums", spec := "tallySums", unfollowed := true, recurses := true, apart := false }
def TallySumsSaid : Prop := tallySumsRow.holds Try.pinned (OpenSpec.ofChange tallySumsSpec)

/-- ITS FALSE NEIGHBOUR: 'it returns false'. Refute it at one input. -/
def tallySumsWrong : ChangeSpec := { name := "tallySums", fn := fun _ => fun
  | [d1, d2] => { results := [.lit (.bool false)], args := [d1, d2] }
  | _ => none }
def TallySumsWrongFalsely : Prop := tallySumsRow.holds Try.pinned (OpenSpec.ofChange tallySumsWrong)

/-- 'bilgelaw08.TallyDoes': WHATEVER THE INPUT: true; the input reads as it did. -/
def tallyDoesSpec : ChangeSpec := { name := "tallyDoes", fn := fun _ => fun
  | [d] => { results := [.lit (.bool true)], args := [d] }
  | _ => none }
def tallyDoesRow : OpenClaim := { program := "ytmpjdploacfmeaa", sum := "6929e68ed0f9221a0c50c217a94f211ab98054293bc03620af1acacc9e898f63", func := "bilge/bilgelaw08.TallyDoes", spec := "tallyDoes", unfollowed := true, recurses := true, apart := false }
def TallyDoesSaid : Prop := tallyDoesRow.holds Try.pinned (OpenSpec.ofChange tallyDoesSpec)

/-- ITS FALSE NEIGHBOUR: 'it returns false'. Refute it at one input. -/
def tallyDoesWrong : ChangeSpec := { name := "tallyDoes", fn := fun _ => fun
  | [d] => { results := [.lit (.bool false)], args := [d] }
  | _ => none }
def TallyDoesWrongFalsely : Prop := tallyDoesRow.holds Try.pinned (OpenSpec.ofChange tallyDoesWrong)

/-- 'bilgelaw20.ObjectSorts': WHATEVER THE INPUT: true; the input reads as it did. -/
def objectSortsSpec : ChangeSpec := { name := "objectSorts", fn := fun _ => fun
  | [d1, d2] => { results := [.lit (.bool true)], args := [d1, d2] }
  | _ => none }
def objectSortsRow : OpenClaim := { program := "ytmpjdploacfmeaa", sum := "6929e68ed0f9221a0c50c217a94f211ab98054293bc03620af1acacc9e898f63", func := "bilge/bilgelaw20.ObjectSorts", spec := "objectSorts", unfollowed := true, recurses := true, apart := false }
def ObjectSortsSaid : Prop := objectSortsRow.holds Try.pinned (OpenSpec.ofChange objectSortsSpec)

/-- ITS FALSE NEIGHBOUR: 'it returns false'. Refute it at one input. -/
def objectSortsWrong : ChangeSpec := { name := "objectSorts", fn := fun _ => fun
  | [d1, d2] => { results := [.lit (.bool false)], args := [d1, d2] }
  | _ => none }
def ObjectSortsWrongFalsely : Prop := objectSortsRow.holds Try.pinned (OpenSpec.ofChange objectSortsWrong)

/-- 'bilgelaw06.TimerOrder': WHATEVER THE INPUT: true; the input reads as it did. -/
def timerOrderSpec : ChangeSpec := { name := "timerOrder", fn := fun _ => fun
  | [d1, d2] => { results := [.lit (.bool true)], args := [d1, d2] }
  | _ => none }
def timerOrderRow : OpenClaim := { program := "ytmpjdploacfmeaa", sum := "6929e68ed0f9221a0c50c217a94f211ab98054293bc03620af1acacc9e898f63", func := "bilge/bilgelaw06.TimerOrder", spec := "timerOrder", unfollowed := true, recurses := true, apart := false }
def TimerOrderSaid : Prop := timerOrderRow.holds Try.pinned (OpenSpec.ofChange timerOrderSpec)

/-- ITS FALSE NEIGHBOUR: 'it returns false'. Refute it at one input. -/
def timerOrderWrong : ChangeSpec := { name := "timerOrder", fn := fun _ => fun
  | [d1, d2] => { results := [.lit (.bool false)], args := [d1, d2] }
  | _ => none }
def TimerOrderWrongFalsely : Prop := timerOrderRow.holds Try.pinned (OpenSpec.ofChange timerOrderWrong)

/-- 'bilgelaw31.AuditTells': WHATEVER THE INPUT: true; the input reads as it did. -/
def auditTellsSpec : ChangeSpec := { name := "auditTells", fn := fun _ => fun
  | [d1, d2, d3] => { results := [.lit (.bool true)], args := [d1, d2, d3] }
  | _ => none }
def auditTellsRow : OpenClaim := { program := "ytmpjdploacfmeaa", sum := "6929e68ed0f9221a0c50c217a94f211ab98054293bc03620af1acacc9e898f63", func := "bilge/bilgelaw31.AuditTells", spec := "auditTells", unfollowed := true, recurses := true, apart := false }
def AuditTellsSaid : Prop := auditTellsRow.holds Try.pinned (OpenSpec.ofChange auditTellsSpec)

/-- ITS FALSE NEIGHBOUR: 'it returns false'. Refute it at one input. -/
def auditTellsWrong : ChangeSpec := { name := "auditTells", fn := fun _ => fun
  | [d1, d2, d3] => { results := [.lit (.bool false)], args := [d1, d2, d3] }
  | _ => none }
def AuditTellsWrongFalsely : Prop := auditTellsRow.holds Try.pinned (OpenSpec.ofChange auditTellsWrong)

/- THE SECOND FORM. 'bulk': how many values and letters a reading holds, each counted each time it is reached (what is shared counts as often as it is met; a slice's spare places count too). A statement '..UptoSaid' is the law's where the arguments, and the package variables that the reading takes, are together of bulk at most 1048576: NARROWER than '..Said'. Prove '..Said' where nothing that the law and all that it calls make is longer than what came in: it says more and counts as full. Else prove '..UptoSaid'. A law counts once. -/
mutual
def uptoBulk {H : Type} : DataW H → Nat
  | .lit (.string bytes) => bytes.length + 1
  | .lit _ => 1
  | .nil => 1
  | .ptr d => uptoBulk d + 1
  | .slice elems spare => uptoBulkAll elems + uptoBulkAll spare + 1
  | .agg parts => uptoBulkAll parts + 1
  | .iface _ d => uptoBulk d + 1
  | .map entries => uptoBulkEntries entries + 1
  | .held _ => 1
def uptoBulkAll {H : Type} : List (DataW H) → Nat
  | [] => 0
  | d :: r => uptoBulk d + uptoBulkAll r
def uptoBulkEntries {H : Type} : List (Lit × DataW H) → Nat
  | [] => 0
  | x :: r => uptoBulkEntry x + uptoBulkEntries r
def uptoBulkEntry {H : Type} : Lit × DataW H → Nat
  | (.string bytes, d) => bytes.length + uptoBulk d + 1
  | (_, d) => uptoBulk d + 1
 end
def uptoSmall : (H : Type) → List (DataW H) → Bool := fun _ ds => decide (uptoBulkAll ds ≤ 1048576)
def OpenSpec.upto (s : _root_.Go.ChangeSpec) : _root_.Go.OpenSpec := { _root_.Go.OpenSpec.ofChange s with cond := some uptoSmall }

/-- 'bilgelaw08.TallySums', WHERE WHAT IT READS IS OF BULK AT MOST 1048576: true; the input reads as it did. -/
def tallySumsUptoRow : OpenClaim := { program := "ytmpjdploacfmeaa", sum := "6929e68ed0f9221a0c50c217a94f211ab98054293bc03620af1acacc9e898f63", func := "bilge/bilgelaw08.TallySums", spec := "tallySums", unfollowed := true, recurses := true, apart := false, narrowed := true }
def TallySumsUptoSaid : Prop := tallySumsUptoRow.holds Try.pinned (OpenSpec.upto tallySumsSpec)

/-- 'bilgelaw08.TallyDoes', WHERE WHAT IT READS IS OF BULK AT MOST 1048576: true; the input reads as it did. -/
def tallyDoesUptoRow : OpenClaim := { program := "ytmpjdploacfmeaa", sum := "6929e68ed0f9221a0c50c217a94f211ab98054293bc03620af1acacc9e898f63", func := "bilge/bilgelaw08.TallyDoes", spec := "tallyDoes", unfollowed := true, recurses := true, apart := false, narrowed := true }
def TallyDoesUptoSaid : Prop := tallyDoesUptoRow.holds Try.pinned (OpenSpec.upto tallyDoesSpec)

/-- 'bilgelaw20.ObjectSorts', WHERE WHAT IT READS IS OF BULK AT MOST 1048576: true; the input reads as it did. -/
def objectSortsUptoRow : OpenClaim := { program := "ytmpjdploacfmeaa", sum := "6929e68ed0f9221a0c50c217a94f211ab98054293bc03620af1acacc9e898f63", func := "bilge/bilgelaw20.ObjectSorts", spec := "objectSorts", unfollowed := true, recurses := true, apart := false, narrowed := true }
def ObjectSortsUptoSaid : Prop := objectSortsUptoRow.holds Try.pinned (OpenSpec.upto objectSortsSpec)

/-- 'bilgelaw06.TimerOrder', WHERE WHAT IT READS IS OF BULK AT MOST 1048576: true; the input reads as it did. -/
def timerOrderUptoRow : OpenClaim := { program := "ytmpjdploacfmeaa", sum := "6929e68ed0f9221a0c50c217a94f211ab98054293bc03620af1acacc9e898f63", func := "bilge/bilgelaw06.TimerOrder", spec := "timerOrder", unfollowed := true, recurses := true, apart := false, narrowed := true }
def TimerOrderUptoSaid : Prop := timerOrderUptoRow.holds Try.pinned (OpenSpec.upto timerOrderSpec)

/-- 'bilgelaw31.AuditTells', WHERE WHAT IT READS IS OF BULK AT MOST 1048576: true; the input reads as it did. -/
def auditTellsUptoRow : OpenClaim := { program := "ytmpjdploacfmeaa", sum := "6929e68ed0f9221a0c50c217a94f211ab98054293bc03620af1acacc9e898f63", func := "bilge/bilgelaw31.AuditTells", spec := "auditTells", unfollowed := true, recurses := true, apart := false, narrowed := true }
def AuditTellsUptoSaid : Prop := auditTellsUptoRow.holds Try.pinned (OpenSpec.upto auditTellsSpec)

end Rows
end Go.Proofs.Ytmpjdploacfmeaa
