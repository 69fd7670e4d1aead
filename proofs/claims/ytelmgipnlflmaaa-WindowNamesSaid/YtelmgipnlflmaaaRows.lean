/-
  No cell of these rows narrows 'for every input' (looked for: loops, veiled, ifaces, maps, wideKeys, modest, calm, conditions, laid).
  DERIVED. THE GIVEN ROWS OF THIS SEAT. 5 by the template 'for every input the law returns true; each argument reads behind the call as it read before'; 0 by the template 'total and deterministic' (their statements: YtelmgipnlflmaaaTotals.lean).
  GIVEN WITH THE SEED: the statements are not yours to turn. If you find one false, say at which input.
  Laid BY PROGRAM, IN A SANDBOX (cutbox-rows.mjs): the forced cells as the released guide's own fill.sh prints them over the translation a1cd500b04b846ec… (all of the seat's roots in one cut). By AI agents, Wed Nov 11 2026. No macro, syntax, notation, axiom, sorry.
-/
import Derived.Test.YtelmgipnlflmaaaChecked
import GoSem.Claim
import GoSem.ClaimJoined
import GoSem.ClaimMapViews
import Derived.JoinedTies
import Derived.KernelRfl
namespace Go.Proofs.Ytelmgipnlflmaaa
/- THE CELL 'sum', in the pinned program and in every row, IS THE sha256 OF THE DUMP (.gsa) THAT YtelmgipnlflmaaaProg.lean LOADS. Nothing in Lean hashes anything: it is a label: what it is worth is what the hold of that sum in a sandbox is worth. -/
noncomputable def Try.pinned : Pinned := { name := "ytelmgipnlflmaaa", sum := "a1cd500b04b846ec13201fa0e0da9b011971308e53c09c78e28768514ba0cbd9", checked := Try.checked }
namespace Rows
def none {H : Type} : Left H := { results := [], args := [] }

/-- 'vesperslaw21.StartupDue': WHATEVER THE INPUT: true; the input reads as it did. -/
def startupDueSpec : ChangeSpec := { name := "startupDue", fn := fun _ => fun
  | [d1, d2, d3] => { results := [.lit (.bool true)], args := [d1, d2, d3] }
  | _ => none }
def startupDueRow : OpenClaim := { program := "ytelmgipnlflmaaa", sum := "a1cd500b04b846ec13201fa0e0da9b011971308e53c09c78e28768514ba0cbd9", func := "vespers/vesperslaw21.StartupDue", spec := "startupDue", unfollowed := true, recurses := true, apart := false }
def StartupDueSaid : Prop := startupDueRow.holds Try.pinned (OpenSpec.ofChange startupDueSpec)

/-- ITS FALSE NEIGHBOUR: 'it returns false'. Refute it at one input. -/
def startupDueWrong : ChangeSpec := { name := "startupDue", fn := fun _ => fun
  | [d1, d2, d3] => { results := [.lit (.bool false)], args := [d1, d2, d3] }
  | _ => none }
def StartupDueWrongFalsely : Prop := startupDueRow.holds Try.pinned (OpenSpec.ofChange startupDueWrong)

/-- 'vesperslaw29.BoundsSet': WHATEVER THE INPUT: true; the input reads as it did. -/
def boundsSetSpec : ChangeSpec := { name := "boundsSet", fn := fun _ => fun
  | [d1, d2, d3, d4, d5] => { results := [.lit (.bool true)], args := [d1, d2, d3, d4, d5] }
  | _ => none }
def boundsSetRow : OpenClaim := { program := "ytelmgipnlflmaaa", sum := "a1cd500b04b846ec13201fa0e0da9b011971308e53c09c78e28768514ba0cbd9", func := "vespers/vesperslaw29.BoundsSet", spec := "boundsSet", unfollowed := true, recurses := true, apart := false }
def BoundsSetSaid : Prop := boundsSetRow.holds Try.pinned (OpenSpec.ofChange boundsSetSpec)

/-- ITS FALSE NEIGHBOUR: 'it returns false'. Refute it at one input. -/
def boundsSetWrong : ChangeSpec := { name := "boundsSet", fn := fun _ => fun
  | [d1, d2, d3, d4, d5] => { results := [.lit (.bool false)], args := [d1, d2, d3, d4, d5] }
  | _ => none }
def BoundsSetWrongFalsely : Prop := boundsSetRow.holds Try.pinned (OpenSpec.ofChange boundsSetWrong)

/-- 'vesperslaw21.StartupJoins': WHATEVER THE INPUT: true; the input reads as it did. -/
def startupJoinsSpec : ChangeSpec := { name := "startupJoins", fn := fun _ => fun
  | [d1, d2, d3] => { results := [.lit (.bool true)], args := [d1, d2, d3] }
  | _ => none }
def startupJoinsRow : OpenClaim := { program := "ytelmgipnlflmaaa", sum := "a1cd500b04b846ec13201fa0e0da9b011971308e53c09c78e28768514ba0cbd9", func := "vespers/vesperslaw21.StartupJoins", spec := "startupJoins", unfollowed := true, recurses := true, apart := false }
def StartupJoinsSaid : Prop := startupJoinsRow.holds Try.pinned (OpenSpec.ofChange startupJoinsSpec)

/-- ITS FALSE NEIGHBOUR: 'it returns false'. Refute it at one input. -/
def startupJoinsWrong : ChangeSpec := { name := "startupJoins", fn := fun _ => fun
  | [d1, d2, d3] => { results := [.lit (.bool false)], args := [d1, d2, d3] }
  | _ => none }
def StartupJoinsWrongFalsely : Prop := startupJoinsRow.holds Try.pinned (OpenSpec.ofChange startupJoinsWrong)

/-- 'vesperslaw16.WindowNames': WHATEVER THE INPUT: true; the input reads as it did. -/
def windowNamesSpec : ChangeSpec := { name := "windowNames", fn := fun _ => fun
  | [] => { results := [.lit (.bool true)], args := [] }
  | _ => none }
def windowNamesRow : OpenClaim := { program := "ytelmgipnlflmaaa", sum := "a1cd500b04b846ec13201fa0e0da9b011971308e53c09c78e28768514ba0cbd9", func := "vespers/vesperslaw16.WindowNames", spec := "windowNames", unfollowed := true, recurses := true, apart := false }
def WindowNamesSaid : Prop := windowNamesRow.holds Try.pinned (OpenSpec.ofChange windowNamesSpec)

/-- ITS FALSE NEIGHBOUR: 'it returns false'. Refute it at one input. -/
def windowNamesWrong : ChangeSpec := { name := "windowNames", fn := fun _ => fun
  | [] => { results := [.lit (.bool false)], args := [] }
  | _ => none }
def WindowNamesWrongFalsely : Prop := windowNamesRow.holds Try.pinned (OpenSpec.ofChange windowNamesWrong)

/-- 'vesperslaw16.WindowJudges': WHATEVER THE INPUT: true; the input reads as it did. -/
def windowJudgesSpec : ChangeSpec := { name := "windowJudges", fn := fun _ => fun
  | [d1, d2, d3, d4] => { results := [.lit (.bool true)], args := [d1, d2, d3, d4] }
  | _ => none }
def windowJudgesRow : OpenClaim := { program := "ytelmgipnlflmaaa", sum := "a1cd500b04b846ec13201fa0e0da9b011971308e53c09c78e28768514ba0cbd9", func := "vespers/vesperslaw16.WindowJudges", spec := "windowJudges", unfollowed := true, recurses := true, apart := false }
def WindowJudgesSaid : Prop := windowJudgesRow.holds Try.pinned (OpenSpec.ofChange windowJudgesSpec)

/-- ITS FALSE NEIGHBOUR: 'it returns false'. Refute it at one input. -/
def windowJudgesWrong : ChangeSpec := { name := "windowJudges", fn := fun _ => fun
  | [d1, d2, d3, d4] => { results := [.lit (.bool false)], args := [d1, d2, d3, d4] }
  | _ => none }
def WindowJudgesWrongFalsely : Prop := windowJudgesRow.holds Try.pinned (OpenSpec.ofChange windowJudgesWrong)

/- THE SECOND FORM. 'bulk': how many values and letters a reading holds, each counted each time it is reached (what is shared counts as often as it is met; a slice's spare places count too). A statement '..UptoSaid' is the law's where the arguments, and the package variables that the reading takes, are together of bulk at most 1048576: NARROWER than '..Said'. Prove '..Said' where nothing that the law and all that it calls make is longer than what came in: it says more and counts as full. Else prove '..UptoSaid'. A law counts once. -/
mutual
def uptoBulk {H : Type} : DataW H → Nat
  | .lit (.string bytes) => bytes.length + 1
  | .lit _ => 1
  | .nil => 1
  | .ptr d => uptoBulk d + 1
  | .slice elems spare => uptoBulkAll elems + uptoBulkAll spare + 1
  | .agg parts => uptoBulkAll parts + 1
  | .iface _ d => uptoBulk d + 1
  | .map entries => uptoBulkEntries entries + 1
  | .held _ => 1
def uptoBulkAll {H : Type} : List (DataW H) → Nat
  | [] => 0
  | d :: r => uptoBulk d + uptoBulkAll r
def uptoBulkEntries {H : Type} : List (Lit × DataW H) → Nat
  | [] => 0
  | x :: r => uptoBulkEntry x + uptoBulkEntries r
def uptoBulkEntry {H : Type} : Lit × DataW H → Nat
  | (.string bytes, d) => bytes.length + uptoBulk d + 1
  | (_, d) => uptoBulk d + 1
 end
def uptoSmall : (H : Type) → List (DataW H) → Bool := fun _ ds => decide (uptoBulkAll ds ≤ 1048576)
def OpenSpec.upto (s : _root_.Go.ChangeSpec) : _root_.Go.OpenSpec := { _root_.Go.OpenSpec.ofChange s with cond := some uptoSmall }

/-- 'vesperslaw21.StartupDue', WHERE WHAT IT READS IS OF BULK AT MOST 1048576: true; the input reads as it did. -/
def startupDueUptoRow : OpenClaim := { program := "ytelmgipnlflmaaa", sum := "a1cd500b04b846ec13201fa0e0da9b011971308e53c09c78e28768514ba0cbd9", func := "vespers/vesperslaw21.StartupDue", spec := "startupDue", unfollowed := true, recurses := true, apart := false, narrowed := true }
def StartupDueUptoSaid : Prop := startupDueUptoRow.holds Try.pinned (OpenSpec.upto startupDueSpec)

/-- 'vesperslaw29.BoundsSet', WHERE WHAT IT READS IS OF BULK AT MOST 1048576: true; the input reads as it did. -/
def boundsSetUptoRow : OpenClaim := { program := "ytelmgipnlflmaaa", sum := "a1cd500b04b846ec13201fa0e0da9b011971308e53c09c78e28768514ba0cbd9", func := "vespers/vesperslaw29.BoundsSet", spec := "boundsSet", unfollowed := true, recurses := true, apart := false, narrowed := true }
def BoundsSetUptoSaid : Prop := boundsSetUptoRow.holds Try.pinned (OpenSpec.upto boundsSetSpec)

/-- 'vesperslaw21.StartupJoins', WHERE WHAT IT READS IS OF BULK AT MOST 1048576: true; the input reads as it did. -/
def startupJoinsUptoRow : OpenClaim := { program := "ytelmgipnlflmaaa", sum := "a1cd500b04b846ec13201fa0e0da9b011971308e53c09c78e28768514ba0cbd9", func := "vespers/vesperslaw21.StartupJoins", spec := "startupJoins", unfollowed := true, recurses := true, apart := false, narrowed := true }
def StartupJoinsUptoSaid : Prop := startupJoinsUptoRow.holds Try.pinned (OpenSpec.upto startupJoinsSpec)

/-- 'vesperslaw16.WindowNames', WHERE WHAT IT READS IS OF BULK AT MOST 1048576: true; the input reads as it did. -/
def windowNamesUptoRow : OpenClaim := { program := "ytelmgipnlflmaaa", sum := "a1cd500b04b846ec13201fa0e0da9b011971308e53c09c78e28768514ba0cbd9", func := "vespers/vesperslaw16.WindowNames", spec := "windowNames", unfollowed := true, recurses := true, apart := false, narrowed := true }
def WindowNamesUptoSaid : Prop := windowNamesUptoRow.holds Try.pinned (OpenSpec.upto windowNamesSpec)

/-- 'vesperslaw16.WindowJudges', WHERE WHAT IT READS IS OF BULK AT MOST 1048576: true; the input reads as it did. -/
def windowJudgesUptoRow : OpenClaim := { program := "ytelmgipnlflmaaa", sum := "a1cd500b04b846ec13201fa0e0da9b011971308e53c09c78e28768514ba0cbd9", func := "vespers/vesperslaw16.WindowJudges", spec := "windowJudges", unfollowed := true, recurses := true, apart := false, narrowed := true }
def WindowJudgesUptoSaid : Prop := windowJudgesUptoRow.holds Try.pinned (OpenSpec.upto windowJudgesSpec)

end Rows
end Go.Proofs.Ytelmgipnlflmaaa
