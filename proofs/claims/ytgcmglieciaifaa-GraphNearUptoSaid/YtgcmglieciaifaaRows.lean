/-
  No cell of these rows narrows 'for every input' (looked for: loops, veiled, ifaces, maps, wideKeys, modest, calm, conditions, laid).
  DERIVED. THE GIVEN ROWS OF THIS SEAT. 7 by the template 'for every input the law returns true; each argument reads behind the call as it read before'; 0 by the template 'total and deterministic' (their statements: YtgcmglieciaifaaTotals.lean).
  GIVEN WITH THE SEED: the statements are not yours to turn. If you find one false, say at which input.
  Laid BY PROGRAM, IN A SANDBOX (cutbox-rows.mjs): the forced cells as the released guide's own fill.sh prints them over the translation 45365005d9bd9afa… (all of the seat's roots in one cut). By AI agents, Wed Nov 11 2026. No macro, syntax, notation, axiom, sorry.
-/
import Derived.Test.YtgcmglieciaifaaChecked
import GoSem.Claim
import GoSem.ClaimJoined
import GoSem.ClaimMapViews
import Derived.JoinedTies
import Derived.KernelRfl
namespace Go.Proofs.Ytgcmglieciaifaa
/- THE CELL 'sum', in the pinned program and in every row, IS THE sha256 OF THE DUMP (.gsa) THAT YtgcmglieciaifaaProg.lean LOADS. Nothing in Lean hashes anything: it is a label: what it is worth is what the hold of that sum in a sandbox is worth. -/
noncomputable def Try.pinned : Pinned := { name := "ytgcmglieciaifaa", sum := "45365005d9bd9afa8904fa16e5b3c663045ead2178f889bb1a318121c3e9686d", checked := Try.checked }
namespace Rows
def none {H : Type} : Left H := { results := [], args := [] }

/-- 'leapfroglaw11.GraphWays': WHATEVER THE INPUT: true; the input reads as it did. -/
def graphWaysSpec : ChangeSpec := { name := "graphWays", fn := fun _ => fun
  | [d1, d2, d3, d4] => { results := [.lit (.bool true)], args := [d1, d2, d3, d4] }
  | _ => none }
def graphWaysRow : OpenClaim := { program := "ytgcmglieciaifaa", sum := "45365005d9bd9afa8904fa16e5b3c663045ead2178f889bb1a318121c3e9686d", func := "leapfrog/leapfroglaw11.GraphWays", spec := "graphWays", unfollowed := true, recurses := true, plainKeys := false, apart := false }
def GraphWaysSaid : Prop := graphWaysRow.holds Try.pinned (OpenSpec.ofChange graphWaysSpec)

/-- ITS FALSE NEIGHBOUR: 'it returns false'. Refute it at one input. -/
def graphWaysWrong : ChangeSpec := { name := "graphWays", fn := fun _ => fun
  | [d1, d2, d3, d4] => { results := [.lit (.bool false)], args := [d1, d2, d3, d4] }
  | _ => none }
def GraphWaysWrongFalsely : Prop := graphWaysRow.holds Try.pinned (OpenSpec.ofChange graphWaysWrong)

/-- 'leapfroglaw11.GraphParted': WHATEVER THE INPUT: true; the input reads as it did. -/
def graphPartedSpec : ChangeSpec := { name := "graphParted", fn := fun _ => fun
  | [d1, d2, d3] => { results := [.lit (.bool true)], args := [d1, d2, d3] }
  | _ => none }
def graphPartedRow : OpenClaim := { program := "ytgcmglieciaifaa", sum := "45365005d9bd9afa8904fa16e5b3c663045ead2178f889bb1a318121c3e9686d", func := "leapfrog/leapfroglaw11.GraphParted", spec := "graphParted", unfollowed := true, recurses := true, plainKeys := false, apart := false }
def GraphPartedSaid : Prop := graphPartedRow.holds Try.pinned (OpenSpec.ofChange graphPartedSpec)

/-- ITS FALSE NEIGHBOUR: 'it returns false'. Refute it at one input. -/
def graphPartedWrong : ChangeSpec := { name := "graphParted", fn := fun _ => fun
  | [d1, d2, d3] => { results := [.lit (.bool false)], args := [d1, d2, d3] }
  | _ => none }
def GraphPartedWrongFalsely : Prop := graphPartedRow.holds Try.pinned (OpenSpec.ofChange graphPartedWrong)

/-- 'leapfroglaw11.GraphFinds': WHATEVER THE INPUT: true; the input reads as it did. -/
def graphFindsSpec : ChangeSpec := { name := "graphFinds", fn := fun _ => fun
  | [d1, d2, d3, d4] => { results := [.lit (.bool true)], args := [d1, d2, d3, d4] }
  | _ => none }
def graphFindsRow : OpenClaim := { program := "ytgcmglieciaifaa", sum := "45365005d9bd9afa8904fa16e5b3c663045ead2178f889bb1a318121c3e9686d", func := "leapfrog/leapfroglaw11.GraphFinds", spec := "graphFinds", unfollowed := true, recurses := true, plainKeys := false, apart := false }
def GraphFindsSaid : Prop := graphFindsRow.holds Try.pinned (OpenSpec.ofChange graphFindsSpec)

/-- ITS FALSE NEIGHBOUR: 'it returns false'. Refute it at one input. -/
def graphFindsWrong : ChangeSpec := { name := "graphFinds", fn := fun _ => fun
  | [d1, d2, d3, d4] => { results := [.lit (.bool false)], args := [d1, d2, d3, d4] }
  | _ => none }
def GraphFindsWrongFalsely : Prop := graphFindsRow.holds Try.pinned (OpenSpec.ofChange graphFindsWrong)

/-- 'leapfroglaw11.GraphBeside': WHATEVER THE INPUT: true; the input reads as it did. -/
def graphBesideSpec : ChangeSpec := { name := "graphBeside", fn := fun _ => fun
  | [d1, d2, d3, d4] => { results := [.lit (.bool true)], args := [d1, d2, d3, d4] }
  | _ => none }
def graphBesideRow : OpenClaim := { program := "ytgcmglieciaifaa", sum := "45365005d9bd9afa8904fa16e5b3c663045ead2178f889bb1a318121c3e9686d", func := "leapfrog/leapfroglaw11.GraphBeside", spec := "graphBeside", unfollowed := true, recurses := true, plainKeys := false, apart := false }
def GraphBesideSaid : Prop := graphBesideRow.holds Try.pinned (OpenSpec.ofChange graphBesideSpec)

/-- ITS FALSE NEIGHBOUR: 'it returns false'. Refute it at one input. -/
def graphBesideWrong : ChangeSpec := { name := "graphBeside", fn := fun _ => fun
  | [d1, d2, d3, d4] => { results := [.lit (.bool false)], args := [d1, d2, d3, d4] }
  | _ => none }
def GraphBesideWrongFalsely : Prop := graphBesideRow.holds Try.pinned (OpenSpec.ofChange graphBesideWrong)

/-- 'leapfroglaw11.GraphInverse': WHATEVER THE INPUT: true; the input reads as it did. -/
def graphInverseSpec : ChangeSpec := { name := "graphInverse", fn := fun _ => fun
  | [d1, d2, d3, d4] => { results := [.lit (.bool true)], args := [d1, d2, d3, d4] }
  | _ => none }
def graphInverseRow : OpenClaim := { program := "ytgcmglieciaifaa", sum := "45365005d9bd9afa8904fa16e5b3c663045ead2178f889bb1a318121c3e9686d", func := "leapfrog/leapfroglaw11.GraphInverse", spec := "graphInverse", unfollowed := true, recurses := true, plainKeys := false, apart := false }
def GraphInverseSaid : Prop := graphInverseRow.holds Try.pinned (OpenSpec.ofChange graphInverseSpec)

/-- ITS FALSE NEIGHBOUR: 'it returns false'. Refute it at one input. -/
def graphInverseWrong : ChangeSpec := { name := "graphInverse", fn := fun _ => fun
  | [d1, d2, d3, d4] => { results := [.lit (.bool false)], args := [d1, d2, d3, d4] }
  | _ => none }
def GraphInverseWrongFalsely : Prop := graphInverseRow.holds Try.pinned (OpenSpec.ofChange graphInverseWrong)

/-- 'leapfroglaw11.GraphLists': WHATEVER THE INPUT: true; the input reads as it did. -/
def graphListsSpec : ChangeSpec := { name := "graphLists", fn := fun _ => fun
  | [d1, d2, d3] => { results := [.lit (.bool true)], args := [d1, d2, d3] }
  | _ => none }
def graphListsRow : OpenClaim := { program := "ytgcmglieciaifaa", sum := "45365005d9bd9afa8904fa16e5b3c663045ead2178f889bb1a318121c3e9686d", func := "leapfrog/leapfroglaw11.GraphLists", spec := "graphLists", unfollowed := true, recurses := true, plainKeys := false, apart := false }
def GraphListsSaid : Prop := graphListsRow.holds Try.pinned (OpenSpec.ofChange graphListsSpec)

/-- ITS FALSE NEIGHBOUR: 'it returns false'. Refute it at one input. -/
def graphListsWrong : ChangeSpec := { name := "graphLists", fn := fun _ => fun
  | [d1, d2, d3] => { results := [.lit (.bool false)], args := [d1, d2, d3] }
  | _ => none }
def GraphListsWrongFalsely : Prop := graphListsRow.holds Try.pinned (OpenSpec.ofChange graphListsWrong)

/-- 'leapfroglaw11.GraphNear': WHATEVER THE INPUT: true; the input reads as it did. -/
def graphNearSpec : ChangeSpec := { name := "graphNear", fn := fun _ => fun
  | [d1, d2, d3] => { results := [.lit (.bool true)], args := [d1, d2, d3] }
  | _ => none }
def graphNearRow : OpenClaim := { program := "ytgcmglieciaifaa", sum := "45365005d9bd9afa8904fa16e5b3c663045ead2178f889bb1a318121c3e9686d", func := "leapfrog/leapfroglaw11.GraphNear", spec := "graphNear", unfollowed := true, recurses := true, plainKeys := false, apart := false }
def GraphNearSaid : Prop := graphNearRow.holds Try.pinned (OpenSpec.ofChange graphNearSpec)

/-- ITS FALSE NEIGHBOUR: 'it returns false'. Refute it at one input. -/
def graphNearWrong : ChangeSpec := { name := "graphNear", fn := fun _ => fun
  | [d1, d2, d3] => { results := [.lit (.bool false)], args := [d1, d2, d3] }
  | _ => none }
def GraphNearWrongFalsely : Prop := graphNearRow.holds Try.pinned (OpenSpec.ofChange graphNearWrong)

/- THE SECOND FORM. 'bulk': how many values and letters a reading holds, each counted each time it is reached (what is shared counts as often as it is met; a slice's spare places count too). A statement '..UptoSaid' is the law's where the arguments, and the package variables that the reading takes, are together of bulk at most 1048576: NARROWER than '..Said'. Prove '..Said' where nothing that the law and all that it calls make is longer than what came in: it says more and counts as full. Else prove '..UptoSaid'. A law counts once. -/
mutual
def uptoBulk {H : Type} : DataW H → Nat
  | .lit (.string bytes) => bytes.length + 1
  | .lit _ => 1
  | .nil => 1
  | .ptr d => uptoBulk d + 1
  | .slice elems spare => uptoBulkAll elems + uptoBulkAll spare + 1
  | .agg parts => uptoBulkAll parts + 1
  | .iface _ d => uptoBulk d + 1
  | .map entries => uptoBulkEntries entries + 1
  | .held _ => 1
def uptoBulkAll {H : Type} : List (DataW H) → Nat
  | [] => 0
  | d :: r => uptoBulk d + uptoBulkAll r
def uptoBulkEntries {H : Type} : List (Lit × DataW H) → Nat
  | [] => 0
  | x :: r => uptoBulkEntry x + uptoBulkEntries r
def uptoBulkEntry {H : Type} : Lit × DataW H → Nat
  | (.string bytes, d) => bytes.length + uptoBulk d + 1
  | (_, d) => uptoBulk d + 1
 end
def uptoSmall : (H : Type) → List (DataW H) → Bool := fun _ ds => decide (uptoBulkAll ds ≤ 1048576)
def OpenSpec.upto (s : _root_.Go.ChangeSpec) : _root_.Go.OpenSpec := { _root_.Go.OpenSpec.ofChange s with cond := some uptoSmall }

/-- 'leapfroglaw11.GraphWays', WHERE WHAT IT READS IS OF BULK AT MOST 1048576: true; the input reads as it did. -/
def graphWaysUptoRow : OpenClaim := { program := "ytgcmglieciaifaa", sum := "45365005d9bd9afa8904fa16e5b3c663045ead2178f889bb1a318121c3e9686d", func := "leapfrog/leapfroglaw11.GraphWays", spec := "graphWays", unfollowed := true, recurses := true, plainKeys := false, apart := false, narrowed := true }
def GraphWaysUptoSaid : Prop := graphWaysUptoRow.holds Try.pinned (OpenSpec.upto graphWaysSpec)

/-- 'leapfroglaw11.GraphParted', WHERE WHAT IT READS IS OF BULK AT MOST 1048576: true; the input reads as it did. -/
def graphPartedUptoRow : OpenClaim := { program := "ytgcmglieciaifaa", sum := "45365005d9bd9afa8904fa16e5b3c663045ead2178f889bb1a318121c3e9686d", func := "leapfrog/leapfroglaw11.GraphParted", spec := "graphParted", unfollowed := true, recurses := true, plainKeys := false, apart := false, narrowed := true }
def GraphPartedUptoSaid : Prop := graphPartedUptoRow.holds Try.pinned (OpenSpec.upto graphPartedSpec)

/-- 'leapfroglaw11.GraphFinds', WHERE WHAT IT READS IS OF BULK AT MOST 1048576: true; the input reads as it did. -/
def graphFindsUptoRow : OpenClaim := { program := "ytgcmglieciaifaa", sum := "45365005d9bd9afa8904fa16e5b3c663045ead2178f889bb1a318121c3e9686d", func := "leapfrog/leapfroglaw11.GraphFinds", spec := "graphFinds", unfollowed := true, recurses := true, plainKeys := false, apart := false, narrowed := true }
def GraphFindsUptoSaid : Prop := graphFindsUptoRow.holds Try.pinned (OpenSpec.upto graphFindsSpec)

/-- 'leapfroglaw11.GraphBeside', WHERE WHAT IT READS IS OF BULK AT MOST 1048576: true; the input reads as it did. -/
def graphBesideUptoRow : OpenClaim := { program := "ytgcmglieciaifaa", sum := "45365005d9bd9afa8904fa16e5b3c663045ead2178f889bb1a318121c3e9686d", func := "leapfrog/leapfroglaw11.GraphBeside", spec := "graphBeside", unfollowed := true, recurses := true, plainKeys := false, apart := false, narrowed := true }
def GraphBesideUptoSaid : Prop := graphBesideUptoRow.holds Try.pinned (OpenSpec.upto graphBesideSpec)

/-- 'leapfroglaw11.GraphInverse', WHERE WHAT IT READS IS OF BULK AT MOST 1048576: true; the input reads as it did. -/
def graphInverseUptoRow : OpenClaim := { program := "ytgcmglieciaifaa", sum := "45365005d9bd9afa8904fa16e5b3c663045ead2178f889bb1a318121c3e9686d", func := "leapfrog/leapfroglaw11.GraphInverse", spec := "graphInverse", unfollowed := true, recurses := true, plainKeys := false, apart := false, narrowed := true }
def GraphInverseUptoSaid : Prop := graphInverseUptoRow.holds Try.pinned (OpenSpec.upto graphInverseSpec)

/-- 'leapfroglaw11.GraphLists', WHERE WHAT IT READS IS OF BULK AT MOST 1048576: true; the input reads as it did. -/
def graphListsUptoRow : OpenClaim := { program := "ytgcmglieciaifaa", sum := "45365005d9bd9afa8904fa16e5b3c663045ead2178f889bb1a318121c3e9686d", func := "leapfrog/leapfroglaw11.GraphLists", spec := "graphLists", unfollowed := true, recurses := true, plainKeys := false, apart := false, narrowed := true }
def GraphListsUptoSaid : Prop := graphListsUptoRow.holds Try.pinned (OpenSpec.upto graphListsSpec)

/-- 'leapfroglaw11.GraphNear', WHERE WHAT IT READS IS OF BULK AT MOST 1048576: true; the input reads as it did. -/
def graphNearUptoRow : OpenClaim := { program := "ytgcmglieciaifaa", sum := "45365005d9bd9afa8904fa16e5b3c663045ead2178f889bb1a318121c3e9686d", func := "leapfrog/leapfroglaw11.GraphNear", spec := "graphNear", unfollowed := true, recurses := true, plainKeys := false, apart := false, narrowed := true }
def GraphNearUptoSaid : Prop := graphNearUptoRow.holds Try.pinned (OpenSpec.upto graphNearSpec)

end Rows
end Go.Proofs.Ytgcmglieciaifaa
