/-
  No cell of these rows narrows 'for every input' (looked for: loops, veiled, ifaces, maps, wideKeys, modest, calm, conditions, laid).
  DERIVED. THE GIVEN ROWS OF THIS SEAT. 4 by the template 'for every input the law returns true; each argument reads behind the call as it read before'; 0 by the template 'total and deterministic' (their statements: YtnipmjpdklbbcaaGreatTotals.lean).
  GIVEN WITH THE SEED: the statements are not yours to turn. If you find one false, say at which input.
  Laid BY PROGRAM, IN A SANDBOX (cutbox-rows.mjs): the forced cells as the released guide's own fill.sh prints them over the translation 856897579efda657… (all of the seat's roots in one cut). By AI agents, Wed Nov 11 2026. No macro, syntax, notation, axiom, sorry.
-/
import Derived.Test.YtnipmjpdklbbcaaGreatChecked
import GoSem.Claim
import GoSem.ClaimJoined
import GoSem.ClaimMapViews
import Derived.JoinedTies
import Derived.KernelRfl
namespace Go.Proofs.YtnipmjpdklbbcaaGreat
/- THE CELL 'sum', in the pinned program and in every row, IS THE sha256 OF THE DUMP (.gsa) THAT YtnipmjpdklbbcaaGreatProg.lean LOADS. Nothing in Lean hashes anything: it is a label: what it is worth is what the hold of that sum in a sandbox is worth. -/
noncomputable def Tryz.pinned : Pinned := { name := "ytnipmjpdklbbcaagreat", sum := "856897579efda65757dcac0e01c49fd53e7af9ada570ade815a7f6bd0dd83009", checked := Tryz.checked }
namespace Rows
def none {H : Type} : Left H := { results := [], args := [] }

/-- 'leapfroglaw11.GraphRecords': WHATEVER THE INPUT: true; the input reads as it did. -/
def graphRecordsSpec : ChangeSpec := { name := "graphRecords", fn := fun _ => fun
  | [d1, d2] => { results := [.lit (.bool true)], args := [d1, d2] }
  | _ => none }
def graphRecordsRow : OpenClaim := { program := "ytnipmjpdklbbcaagreat", sum := "856897579efda65757dcac0e01c49fd53e7af9ada570ade815a7f6bd0dd83009", func := "leapfrog/leapfroglaw11.GraphRecords", spec := "graphRecords", unfollowed := true, recurses := true, plainKeys := false, apart := false }
def GraphRecordsSaid : Prop := graphRecordsRow.holds Tryz.pinned (OpenSpec.ofChange graphRecordsSpec)

/-- ITS FALSE NEIGHBOUR: 'it returns false'. Refute it at one input. -/
def graphRecordsWrong : ChangeSpec := { name := "graphRecords", fn := fun _ => fun
  | [d1, d2] => { results := [.lit (.bool false)], args := [d1, d2] }
  | _ => none }
def GraphRecordsWrongFalsely : Prop := graphRecordsRow.holds Tryz.pinned (OpenSpec.ofChange graphRecordsWrong)

/-- 'leapfroglaw25.CheckGraph': WHATEVER THE INPUT: true; the input reads as it did. -/
def checkGraphSpec : ChangeSpec := { name := "checkGraph", fn := fun _ => fun
  | [d1, d2, d3, d4, d5] => { results := [.lit (.bool true)], args := [d1, d2, d3, d4, d5] }
  | _ => none }
def checkGraphRow : OpenClaim := { program := "ytnipmjpdklbbcaagreat", sum := "856897579efda65757dcac0e01c49fd53e7af9ada570ade815a7f6bd0dd83009", func := "leapfrog/leapfroglaw25.CheckGraph", spec := "checkGraph", unfollowed := true, recurses := true, plainKeys := false, apart := false }
def CheckGraphSaid : Prop := checkGraphRow.holds Tryz.pinned (OpenSpec.ofChange checkGraphSpec)

/-- ITS FALSE NEIGHBOUR: 'it returns false'. Refute it at one input. -/
def checkGraphWrong : ChangeSpec := { name := "checkGraph", fn := fun _ => fun
  | [d1, d2, d3, d4, d5] => { results := [.lit (.bool false)], args := [d1, d2, d3, d4, d5] }
  | _ => none }
def CheckGraphWrongFalsely : Prop := checkGraphRow.holds Tryz.pinned (OpenSpec.ofChange checkGraphWrong)

/-- 'leapfroglaw25.CheckWalks': WHATEVER THE INPUT: true; the input reads as it did. -/
def checkWalksSpec : ChangeSpec := { name := "checkWalks", fn := fun _ => fun
  | [d1, d2, d3, d4] => { results := [.lit (.bool true)], args := [d1, d2, d3, d4] }
  | _ => none }
def checkWalksRow : OpenClaim := { program := "ytnipmjpdklbbcaagreat", sum := "856897579efda65757dcac0e01c49fd53e7af9ada570ade815a7f6bd0dd83009", func := "leapfrog/leapfroglaw25.CheckWalks", spec := "checkWalks", unfollowed := true, recurses := true, plainKeys := false, apart := false }
def CheckWalksSaid : Prop := checkWalksRow.holds Tryz.pinned (OpenSpec.ofChange checkWalksSpec)

/-- ITS FALSE NEIGHBOUR: 'it returns false'. Refute it at one input. -/
def checkWalksWrong : ChangeSpec := { name := "checkWalks", fn := fun _ => fun
  | [d1, d2, d3, d4] => { results := [.lit (.bool false)], args := [d1, d2, d3, d4] }
  | _ => none }
def CheckWalksWrongFalsely : Prop := checkWalksRow.holds Tryz.pinned (OpenSpec.ofChange checkWalksWrong)

/-- 'leapfroglaw08.LinkRuns': WHATEVER THE INPUT: true; the input reads as it did. -/
def linkRunsSpec : ChangeSpec := { name := "linkRuns", fn := fun _ => fun
  | [d1, d2] => { results := [.lit (.bool true)], args := [d1, d2] }
  | _ => none }
def linkRunsRow : OpenClaim := { program := "ytnipmjpdklbbcaagreat", sum := "856897579efda65757dcac0e01c49fd53e7af9ada570ade815a7f6bd0dd83009", func := "leapfrog/leapfroglaw08.LinkRuns", spec := "linkRuns", unfollowed := true, recurses := true, plainKeys := false, apart := false }
def LinkRunsSaid : Prop := linkRunsRow.holds Tryz.pinned (OpenSpec.ofChange linkRunsSpec)

/-- ITS FALSE NEIGHBOUR: 'it returns false'. Refute it at one input. -/
def linkRunsWrong : ChangeSpec := { name := "linkRuns", fn := fun _ => fun
  | [d1, d2] => { results := [.lit (.bool false)], args := [d1, d2] }
  | _ => none }
def LinkRunsWrongFalsely : Prop := linkRunsRow.holds Tryz.pinned (OpenSpec.ofChange linkRunsWrong)

/- THE SECOND FORM. 'bulk': how many values and letters a reading holds, each counted each time it is reached (what is shared counts as often as it is met; a slice's spare places count too). A statement '..UptoSaid' is the law's where the arguments, and the package variables that the reading takes, are together of bulk at most 1048576: NARROWER than '..Said'. Prove '..Said' where nothing that the law and all that it calls make is longer than what came in: it says more and counts as full. Else prove '..UptoSaid'. A law counts once. -/
mutual
def uptoBulk {H : Type} : DataW H → Nat
  | .lit (.string bytes) => bytes.length + 1
  | .lit _ => 1
  | .nil => 1
  | .ptr d => uptoBulk d + 1
  | .slice elems spare => uptoBulkAll elems + uptoBulkAll spare + 1
  | .agg parts => uptoBulkAll parts + 1
  | .iface _ d => uptoBulk d + 1
  | .map entries => uptoBulkEntries entries + 1
  | .held _ => 1
def uptoBulkAll {H : Type} : List (DataW H) → Nat
  | [] => 0
  | d :: r => uptoBulk d + uptoBulkAll r
def uptoBulkEntries {H : Type} : List (Lit × DataW H) → Nat
  | [] => 0
  | x :: r => uptoBulkEntry x + uptoBulkEntries r
def uptoBulkEntry {H : Type} : Lit × DataW H → Nat
  | (.string bytes, d) => bytes.length + uptoBulk d + 1
  | (_, d) => uptoBulk d + 1
 end
def uptoSmall : (H : Type) → List (DataW H) → Bool := fun _ ds => decide (uptoBulkAll ds ≤ 1048576)
def OpenSpec.upto (s : _root_.Go.ChangeSpec) : _root_.Go.OpenSpec := { _root_.Go.OpenSpec.ofChange s with cond := some uptoSmall }

/-- 'leapfroglaw11.GraphRecords', WHERE WHAT IT READS IS OF BULK AT MOST 1048576: true; the input reads as it did. -/
def graphRecordsUptoRow : OpenClaim := { program := "ytnipmjpdklbbcaagreat", sum := "856897579efda65757dcac0e01c49fd53e7af9ada570ade815a7f6bd0dd83009", func := "leapfrog/leapfroglaw11.GraphRecords", spec := "graphRecords", unfollowed := true, recurses := true, plainKeys := false, apart := false, narrowed := true }
def GraphRecordsUptoSaid : Prop := graphRecordsUptoRow.holds Tryz.pinned (OpenSpec.upto graphRecordsSpec)

/-- 'leapfroglaw25.CheckGraph', WHERE WHAT IT READS IS OF BULK AT MOST 1048576: true; the input reads as it did. -/
def checkGraphUptoRow : OpenClaim := { program := "ytnipmjpdklbbcaagreat", sum := "856897579efda65757dcac0e01c49fd53e7af9ada570ade815a7f6bd0dd83009", func := "leapfrog/leapfroglaw25.CheckGraph", spec := "checkGraph", unfollowed := true, recurses := true, plainKeys := false, apart := false, narrowed := true }
def CheckGraphUptoSaid : Prop := checkGraphUptoRow.holds Tryz.pinned (OpenSpec.upto checkGraphSpec)

/-- 'leapfroglaw25.CheckWalks', WHERE WHAT IT READS IS OF BULK AT MOST 1048576: true; the input reads as it did. -/
def checkWalksUptoRow : OpenClaim := { program := "ytnipmjpdklbbcaagreat", sum := "856897579efda65757dcac0e01c49fd53e7af9ada570ade815a7f6bd0dd83009", func := "leapfrog/leapfroglaw25.CheckWalks", spec := "checkWalks", unfollowed := true, recurses := true, plainKeys := false, apart := false, narrowed := true }
def CheckWalksUptoSaid : Prop := checkWalksUptoRow.holds Tryz.pinned (OpenSpec.upto checkWalksSpec)

/-- 'leapfroglaw08.LinkRuns', WHERE WHAT IT READS IS OF BULK AT MOST 1048576: true; the input reads as it did. -/
def linkRunsUptoRow : OpenClaim := { program := "ytnipmjpdklbbcaagreat", sum := "856897579efda65757dcac0e01c49fd53e7af9ada570ade815a7f6bd0dd83009", func := "leapfrog/leapfroglaw08.LinkRuns", spec := "linkRuns", unfollowed := true, recurses := true, plainKeys := false, apart := false, narrowed := true }
def LinkRunsUptoSaid : Prop := linkRunsUptoRow.holds Tryz.pinned (OpenSpec.upto linkRunsSpec)

end Rows
end Go.Proofs.YtnipmjpdklbbcaaGreat
