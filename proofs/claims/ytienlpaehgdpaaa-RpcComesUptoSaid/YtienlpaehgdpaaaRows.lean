/-
  No cell of these rows narrows 'for every input' (looked for: loops, veiled, ifaces, maps, wideKeys, modest, calm, conditions, laid).
  DERIVED. THE GIVEN ROWS OF THIS SEAT. 7 by the template 'for every input the law returns true; each argument reads behind the call as it read before'; 0 by the template 'total and deterministic' (their statements: YtienlpaehgdpaaaTotals.lean).
  GIVEN WITH THE SEED: the statements are not yours to turn. If you find one false, say at which input.
  Laid BY PROGRAM, IN A SANDBOX (cutbox-rows.mjs): the forced cells as the released guide's own fill.sh prints them over the translation a62560641a5498ef… (all of the seat's roots in one cut). By AI agents, Wed Nov 11 2026. No macro, syntax, notation, axiom, sorry.
-/
import Derived.Test.YtienlpaehgdpaaaChecked
import GoSem.Claim
import GoSem.ClaimJoined
import GoSem.ClaimMapViews
import Derived.JoinedTies
import Derived.KernelRfl
namespace Go.Proofs.Ytienlpaehgdpaaa
/- THE CELL 'sum', in the pinned program and in every row, IS THE sha256 OF THE DUMP (.gsa) THAT YtienlpaehgdpaaaProg.lean LOADS. Nothing in Lean hashes anything: it is a label: what it is worth is what the hold of that sum in a sandbox is worth. -/
noncomputable def Try.pinned : Pinned := { name := "ytienlpaehgdpaaa", sum := "a62560641a5498ef2336b3cff4c01bf6c714a14cf149fbbaf563669aad88da00", checked := Try.checked }
namespace Rows
def none {H : Type} : Left H := { results := [], args := [] }

/-- 'leapfroglaw09.PeerEnds': WHATEVER THE INPUT: true; the input reads as it did. -/
def peerEndsSpec : ChangeSpec := { name := "peerEnds", fn := fun _ => fun
  | [d1, d2] => { results := [.lit (.bool true)], args := [d1, d2] }
  | _ => none }
def peerEndsRow : OpenClaim := { program := "ytienlpaehgdpaaa", sum := "a62560641a5498ef2336b3cff4c01bf6c714a14cf149fbbaf563669aad88da00", func := "leapfrog/leapfroglaw09.PeerEnds", spec := "peerEnds", unfollowed := true, recurses := true, plainKeys := false, apart := false }
def PeerEndsSaid : Prop := peerEndsRow.holds Try.pinned (OpenSpec.ofChange peerEndsSpec)

/-- ITS FALSE NEIGHBOUR: 'it returns false'. Refute it at one input. -/
def peerEndsWrong : ChangeSpec := { name := "peerEnds", fn := fun _ => fun
  | [d1, d2] => { results := [.lit (.bool false)], args := [d1, d2] }
  | _ => none }
def PeerEndsWrongFalsely : Prop := peerEndsRow.holds Try.pinned (OpenSpec.ofChange peerEndsWrong)

/-- 'leapfroglaw06.RpcCalls': WHATEVER THE INPUT: true; the input reads as it did. -/
def rpcCallsSpec : ChangeSpec := { name := "rpcCalls", fn := fun _ => fun
  | [d1, d2, d3] => { results := [.lit (.bool true)], args := [d1, d2, d3] }
  | _ => none }
def rpcCallsRow : OpenClaim := { program := "ytienlpaehgdpaaa", sum := "a62560641a5498ef2336b3cff4c01bf6c714a14cf149fbbaf563669aad88da00", func := "leapfrog/leapfroglaw06.RpcCalls", spec := "rpcCalls", unfollowed := true, recurses := true, plainKeys := false, apart := false }
def RpcCallsSaid : Prop := rpcCallsRow.holds Try.pinned (OpenSpec.ofChange rpcCallsSpec)

/-- ITS FALSE NEIGHBOUR: 'it returns false'. Refute it at one input. -/
def rpcCallsWrong : ChangeSpec := { name := "rpcCalls", fn := fun _ => fun
  | [d1, d2, d3] => { results := [.lit (.bool false)], args := [d1, d2, d3] }
  | _ => none }
def RpcCallsWrongFalsely : Prop := rpcCallsRow.holds Try.pinned (OpenSpec.ofChange rpcCallsWrong)

/-- 'leapfroglaw06.RpcMany': WHATEVER THE INPUT: true; the input reads as it did. -/
def rpcManySpec : ChangeSpec := { name := "rpcMany", fn := fun _ => fun
  | [d1, d2] => { results := [.lit (.bool true)], args := [d1, d2] }
  | _ => none }
def rpcManyRow : OpenClaim := { program := "ytienlpaehgdpaaa", sum := "a62560641a5498ef2336b3cff4c01bf6c714a14cf149fbbaf563669aad88da00", func := "leapfrog/leapfroglaw06.RpcMany", spec := "rpcMany", unfollowed := true, recurses := true, plainKeys := false, apart := false }
def RpcManySaid : Prop := rpcManyRow.holds Try.pinned (OpenSpec.ofChange rpcManySpec)

/-- ITS FALSE NEIGHBOUR: 'it returns false'. Refute it at one input. -/
def rpcManyWrong : ChangeSpec := { name := "rpcMany", fn := fun _ => fun
  | [d1, d2] => { results := [.lit (.bool false)], args := [d1, d2] }
  | _ => none }
def RpcManyWrongFalsely : Prop := rpcManyRow.holds Try.pinned (OpenSpec.ofChange rpcManyWrong)

/-- 'leapfroglaw06.RpcOnce': WHATEVER THE INPUT: true; the input reads as it did. -/
def rpcOnceSpec : ChangeSpec := { name := "rpcOnce", fn := fun _ => fun
  | [d1, d2] => { results := [.lit (.bool true)], args := [d1, d2] }
  | _ => none }
def rpcOnceRow : OpenClaim := { program := "ytienlpaehgdpaaa", sum := "a62560641a5498ef2336b3cff4c01bf6c714a14cf149fbbaf563669aad88da00", func := "leapfrog/leapfroglaw06.RpcOnce", spec := "rpcOnce", unfollowed := true, recurses := true, plainKeys := false, apart := false }
def RpcOnceSaid : Prop := rpcOnceRow.holds Try.pinned (OpenSpec.ofChange rpcOnceSpec)

/-- ITS FALSE NEIGHBOUR: 'it returns false'. Refute it at one input. -/
def rpcOnceWrong : ChangeSpec := { name := "rpcOnce", fn := fun _ => fun
  | [d1, d2] => { results := [.lit (.bool false)], args := [d1, d2] }
  | _ => none }
def RpcOnceWrongFalsely : Prop := rpcOnceRow.holds Try.pinned (OpenSpec.ofChange rpcOnceWrong)

/-- 'leapfroglaw06.RpcComes': WHATEVER THE INPUT: true; the input reads as it did. -/
def rpcComesSpec : ChangeSpec := { name := "rpcComes", fn := fun _ => fun
  | [d1, d2] => { results := [.lit (.bool true)], args := [d1, d2] }
  | _ => none }
def rpcComesRow : OpenClaim := { program := "ytienlpaehgdpaaa", sum := "a62560641a5498ef2336b3cff4c01bf6c714a14cf149fbbaf563669aad88da00", func := "leapfrog/leapfroglaw06.RpcComes", spec := "rpcComes", unfollowed := true, recurses := true, plainKeys := false, apart := false }
def RpcComesSaid : Prop := rpcComesRow.holds Try.pinned (OpenSpec.ofChange rpcComesSpec)

/-- ITS FALSE NEIGHBOUR: 'it returns false'. Refute it at one input. -/
def rpcComesWrong : ChangeSpec := { name := "rpcComes", fn := fun _ => fun
  | [d1, d2] => { results := [.lit (.bool false)], args := [d1, d2] }
  | _ => none }
def RpcComesWrongFalsely : Prop := rpcComesRow.holds Try.pinned (OpenSpec.ofChange rpcComesWrong)

/-- 'leapfroglaw06.RpcAnswers': WHATEVER THE INPUT: true; the input reads as it did. -/
def rpcAnswersSpec : ChangeSpec := { name := "rpcAnswers", fn := fun _ => fun
  | [d1, d2] => { results := [.lit (.bool true)], args := [d1, d2] }
  | _ => none }
def rpcAnswersRow : OpenClaim := { program := "ytienlpaehgdpaaa", sum := "a62560641a5498ef2336b3cff4c01bf6c714a14cf149fbbaf563669aad88da00", func := "leapfrog/leapfroglaw06.RpcAnswers", spec := "rpcAnswers", unfollowed := true, recurses := true, plainKeys := false, apart := false }
def RpcAnswersSaid : Prop := rpcAnswersRow.holds Try.pinned (OpenSpec.ofChange rpcAnswersSpec)

/-- ITS FALSE NEIGHBOUR: 'it returns false'. Refute it at one input. -/
def rpcAnswersWrong : ChangeSpec := { name := "rpcAnswers", fn := fun _ => fun
  | [d1, d2] => { results := [.lit (.bool false)], args := [d1, d2] }
  | _ => none }
def RpcAnswersWrongFalsely : Prop := rpcAnswersRow.holds Try.pinned (OpenSpec.ofChange rpcAnswersWrong)

/-- 'leapfroglaw06.RpcNobody': WHATEVER THE INPUT: true; the input reads as it did. -/
def rpcNobodySpec : ChangeSpec := { name := "rpcNobody", fn := fun _ => fun
  | [d] => { results := [.lit (.bool true)], args := [d] }
  | _ => none }
def rpcNobodyRow : OpenClaim := { program := "ytienlpaehgdpaaa", sum := "a62560641a5498ef2336b3cff4c01bf6c714a14cf149fbbaf563669aad88da00", func := "leapfrog/leapfroglaw06.RpcNobody", spec := "rpcNobody", unfollowed := true, recurses := true, plainKeys := false, apart := false }
def RpcNobodySaid : Prop := rpcNobodyRow.holds Try.pinned (OpenSpec.ofChange rpcNobodySpec)

/-- ITS FALSE NEIGHBOUR: 'it returns false'. Refute it at one input. -/
def rpcNobodyWrong : ChangeSpec := { name := "rpcNobody", fn := fun _ => fun
  | [d] => { results := [.lit (.bool false)], args := [d] }
  | _ => none }
def RpcNobodyWrongFalsely : Prop := rpcNobodyRow.holds Try.pinned (OpenSpec.ofChange rpcNobodyWrong)

/- THE SECOND FORM. 'bulk': how many values and letters a reading holds, each counted each time it is reached (what is shared counts as often as it is met; a slice's spare places count too). A statement '..UptoSaid' is the law's where the arguments, and the package variables that the reading takes, are together of bulk at most 1048576: NARROWER than '..Said'. Prove '..Said' where nothing that the law and all that it calls make is longer than what came in: it says more and counts as full. Else prove '..UptoSaid'. A law counts once. -/
mutual
def uptoBulk {H : Type} : DataW H → Nat
  | .lit (.string bytes) => bytes.length + 1
  | .lit _ => 1
  | .nil => 1
  | .ptr d => uptoBulk d + 1
  | .slice elems spare => uptoBulkAll elems + uptoBulkAll spare + 1
  | .agg parts => uptoBulkAll parts + 1
  | .iface _ d => uptoBulk d + 1
  | .map entries => uptoBulkEntries entries + 1
  | .held _ => 1
def uptoBulkAll {H : Type} : List (DataW H) → Nat
  | [] => 0
  | d :: r => uptoBulk d + uptoBulkAll r
def uptoBulkEntries {H : Type} : List (Lit × DataW H) → Nat
  | [] => 0
  | x :: r => uptoBulkEntry x + uptoBulkEntries r
def uptoBulkEntry {H : Type} : Lit × DataW H → Nat
  | (.string bytes, d) => bytes.length + uptoBulk d + 1
  | (_, d) => uptoBulk d + 1
 end
def uptoSmall : (H : Type) → List (DataW H) → Bool := fun _ ds => decide (uptoBulkAll ds ≤ 1048576)
def OpenSpec.upto (s : _root_.Go.ChangeSpec) : _root_.Go.OpenSpec := { _root_.Go.OpenSpec.ofChange s with cond := some uptoSmall }

/-- 'leapfroglaw09.PeerEnds', WHERE WHAT IT READS IS OF BULK AT MOST 1048576: true; the input reads as it did. -/
def peerEndsUptoRow : OpenClaim := { program := "ytienlpaehgdpaaa", sum := "a62560641a5498ef2336b3cff4c01bf6c714a14cf149fbbaf563669aad88da00", func := "leapfrog/leapfroglaw09.PeerEnds", spec := "peerEnds", unfollowed := true, recurses := true, plainKeys := false, apart := false, narrowed := true }
def PeerEndsUptoSaid : Prop := peerEndsUptoRow.holds Try.pinned (OpenSpec.upto peerEndsSpec)

/-- 'leapfroglaw06.RpcCalls', WHERE WHAT IT READS IS OF BULK AT MOST 1048576: true; the input reads as it did. -/
def rpcCallsUptoRow : OpenClaim := { program := "ytienlpaehgdpaaa", sum := "a62560641a5498ef2336b3cff4c01bf6c714a14cf149fbbaf563669aad88da00", func := "leapfrog/leapfroglaw06.RpcCalls", spec := "rpcCalls", unfollowed := true, recurses := true, plainKeys := false, apart := false, narrowed := true }
def RpcCallsUptoSaid : Prop := rpcCallsUptoRow.holds Try.pinned (OpenSpec.upto rpcCallsSpec)

/-- 'leapfroglaw06.RpcMany', WHERE WHAT IT READS IS OF BULK AT MOST 1048576: true; the input reads as it did. -/
def rpcManyUptoRow : OpenClaim := { program := "ytienlpaehgdpaaa", sum := "a62560641a5498ef2336b3cff4c01bf6c714a14cf149fbbaf563669aad88da00", func := "leapfrog/leapfroglaw06.RpcMany", spec := "rpcMany", unfollowed := true, recurses := true, plainKeys := false, apart := false, narrowed := true }
def RpcManyUptoSaid : Prop := rpcManyUptoRow.holds Try.pinned (OpenSpec.upto rpcManySpec)

/-- 'leapfroglaw06.RpcOnce', WHERE WHAT IT READS IS OF BULK AT MOST 1048576: true; the input reads as it did. -/
def rpcOnceUptoRow : OpenClaim := { program := "ytienlpaehgdpaaa", sum := "a62560641a5498ef2336b3cff4c01bf6c714a14cf149fbbaf563669aad88da00", func := "leapfrog/leapfroglaw06.RpcOnce", spec := "rpcOnce", unfollowed := true, recurses := true, plainKeys := false, apart := false, narrowed := true }
def RpcOnceUptoSaid : Prop := rpcOnceUptoRow.holds Try.pinned (OpenSpec.upto rpcOnceSpec)

/-- 'leapfroglaw06.RpcComes', WHERE WHAT IT READS IS OF BULK AT MOST 1048576: true; the input reads as it did. -/
def rpcComesUptoRow : OpenClaim := { program := "ytienlpaehgdpaaa", sum := "a62560641a5498ef2336b3cff4c01bf6c714a14cf149fbbaf563669aad88da00", func := "leapfrog/leapfroglaw06.RpcComes", spec := "rpcComes", unfollowed := true, recurses := true, plainKeys := false, apart := false, narrowed := true }
def RpcComesUptoSaid : Prop := rpcComesUptoRow.holds Try.pinned (OpenSpec.upto rpcComesSpec)

/-- 'leapfroglaw06.RpcAnswers', WHERE WHAT IT READS IS OF BULK AT MOST 1048576: true; the input reads as it did. -/
def rpcAnswersUptoRow : OpenClaim := { program := "ytienlpaehgdpaaa", sum := "a62560641a5498ef2336b3cff4c01bf6c714a14cf149fbbaf563669aad88da00", func := "leapfrog/leapfroglaw06.RpcAnswers", spec := "rpcAnswers", unfollowed := true, recurses := true, plainKeys := false, apart := false, narrowed := true }
def RpcAnswersUptoSaid : Prop := rpcAnswersUptoRow.holds Try.pinned (OpenSpec.upto rpcAnswersSpec)

/-- 'leapfroglaw06.RpcNobody', WHERE WHAT IT READS IS OF BULK AT MOST 1048576: true; the input reads as it did. -/
def rpcNobodyUptoRow : OpenClaim := { program := "ytienlpaehgdpaaa", sum := "a62560641a5498ef2336b3cff4c01bf6c714a14cf149fbbaf563669aad88da00", func := "leapfrog/leapfroglaw06.RpcNobody", spec := "rpcNobody", unfollowed := true, recurses := true, plainKeys := false, apart := false, narrowed := true }
def RpcNobodyUptoSaid : Prop := rpcNobodyUptoRow.holds Try.pinned (OpenSpec.upto rpcNobodySpec)

end Rows
end Go.Proofs.Ytienlpaehgdpaaa
