/-
  No cell of these rows narrows 'for every input' (looked for: loops, veiled, ifaces, maps, wideKeys, modest, calm, conditions, laid).
  DERIVED. THE GIVEN ROWS OF THIS SEAT. 4 by the template 'for every input the law returns true; each argument reads behind the call as it read before'; 0 by the template 'total and deterministic' (their statements: YtmeajliiloaegaaGreatTotals.lean).
  GIVEN WITH THE SEED: the statements are not yours to turn. If you find one false, say at which input.
  Laid BY PROGRAM, IN A SANDBOX (cutbox-rows.mjs): the forced cells as the released guide's own fill.sh prints them over the translation bfdd9f204cadf327… (all of the seat's roots in one cut). By AI agents, Wed Nov 11 2026. No macro, syntax, notation, axiom, sorry.
-/
import Derived.Test.YtmeajliiloaegaaGreatChecked
import GoSem.Claim
import GoSem.ClaimJoined
import GoSem.ClaimMapViews
import Derived.JoinedTies
import Derived.KernelRfl
namespace Go.Proofs.YtmeajliiloaegaaGreat
/- THE CELL 'sum', in the pinned program and in every row, IS THE sha256 OF THE DUMP (.gsa) THAT YtmeajliiloaegaaGreatProg.lean LOADS. Nothing in Lean hashes anything: it is a label: what it is worth is what the hold of that sum in a sandbox is worth. -/
noncomputable def Tryz.pinned : Pinned := { name := "ytmeajliiloaegaagreat", sum := "bfdd9f204cadf327184aa17664e0c7dd3099a2f3e4630fffa3e7c48d4d5ee2bd", checked := Tryz.checked }
namespace Rows
def none {H : Type} : Left H := { results := [], args := [] }

/-- 'leapfroglaw09.PeerSorted': WHATEVER THE INPUT: true; the input reads as it did. -/
def peerSortedSpec : ChangeSpec := { name := "peerSorted", fn := fun _ => fun
  | [d1, d2] => { results := [.lit (.bool true)], args := [d1, d2] }
  | _ => none }
def peerSortedRow : OpenClaim := { program := "ytmeajliiloaegaagreat", sum := "bfdd9f204cadf327184aa17664e0c7dd3099a2f3e4630fffa3e7c48d4d5ee2bd", func := "leapfrog/leapfroglaw09.PeerSorted", spec := "peerSorted", unfollowed := true, recurses := true, plainKeys := false, apart := false }
def PeerSortedSaid : Prop := peerSortedRow.holds Tryz.pinned (OpenSpec.ofChange peerSortedSpec)

/-- ITS FALSE NEIGHBOUR: 'it returns false'. Refute it at one input. -/
def peerSortedWrong : ChangeSpec := { name := "peerSorted", fn := fun _ => fun
  | [d1, d2] => { results := [.lit (.bool false)], args := [d1, d2] }
  | _ => none }
def PeerSortedWrongFalsely : Prop := peerSortedRow.holds Tryz.pinned (OpenSpec.ofChange peerSortedWrong)

/-- 'leapfroglaw09.PeerOnce': WHATEVER THE INPUT: true; the input reads as it did. -/
def peerOnceSpec : ChangeSpec := { name := "peerOnce", fn := fun _ => fun
  | [d1, d2] => { results := [.lit (.bool true)], args := [d1, d2] }
  | _ => none }
def peerOnceRow : OpenClaim := { program := "ytmeajliiloaegaagreat", sum := "bfdd9f204cadf327184aa17664e0c7dd3099a2f3e4630fffa3e7c48d4d5ee2bd", func := "leapfrog/leapfroglaw09.PeerOnce", spec := "peerOnce", unfollowed := true, recurses := true, plainKeys := false, apart := false }
def PeerOnceSaid : Prop := peerOnceRow.holds Tryz.pinned (OpenSpec.ofChange peerOnceSpec)

/-- ITS FALSE NEIGHBOUR: 'it returns false'. Refute it at one input. -/
def peerOnceWrong : ChangeSpec := { name := "peerOnce", fn := fun _ => fun
  | [d1, d2] => { results := [.lit (.bool false)], args := [d1, d2] }
  | _ => none }
def PeerOnceWrongFalsely : Prop := peerOnceRow.holds Tryz.pinned (OpenSpec.ofChange peerOnceWrong)

/-- 'leapfroglaw09.PeerEach': WHATEVER THE INPUT: true; the input reads as it did. -/
def peerEachSpec : ChangeSpec := { name := "peerEach", fn := fun _ => fun
  | [d1, d2] => { results := [.lit (.bool true)], args := [d1, d2] }
  | _ => none }
def peerEachRow : OpenClaim := { program := "ytmeajliiloaegaagreat", sum := "bfdd9f204cadf327184aa17664e0c7dd3099a2f3e4630fffa3e7c48d4d5ee2bd", func := "leapfrog/leapfroglaw09.PeerEach", spec := "peerEach", unfollowed := true, recurses := true, plainKeys := false, apart := false }
def PeerEachSaid : Prop := peerEachRow.holds Tryz.pinned (OpenSpec.ofChange peerEachSpec)

/-- ITS FALSE NEIGHBOUR: 'it returns false'. Refute it at one input. -/
def peerEachWrong : ChangeSpec := { name := "peerEach", fn := fun _ => fun
  | [d1, d2] => { results := [.lit (.bool false)], args := [d1, d2] }
  | _ => none }
def PeerEachWrongFalsely : Prop := peerEachRow.holds Tryz.pinned (OpenSpec.ofChange peerEachWrong)

/-- 'leapfroglaw09.PeerNobody': WHATEVER THE INPUT: true; the input reads as it did. -/
def peerNobodySpec : ChangeSpec := { name := "peerNobody", fn := fun _ => fun
  | [d1, d2] => { results := [.lit (.bool true)], args := [d1, d2] }
  | _ => none }
def peerNobodyRow : OpenClaim := { program := "ytmeajliiloaegaagreat", sum := "bfdd9f204cadf327184aa17664e0c7dd3099a2f3e4630fffa3e7c48d4d5ee2bd", func := "leapfrog/leapfroglaw09.PeerNobody", spec := "peerNobody", unfollowed := true, recurses := true, plainKeys := false, apart := false }
def PeerNobodySaid : Prop := peerNobodyRow.holds Tryz.pinned (OpenSpec.ofChange peerNobodySpec)

/-- ITS FALSE NEIGHBOUR: 'it returns false'. Refute it at one input. -/
def peerNobodyWrong : ChangeSpec := { name := "peerNobody", fn := fun _ => fun
  | [d1, d2] => { results := [.lit (.bool false)], args := [d1, d2] }
  | _ => none }
def PeerNobodyWrongFalsely : Prop := peerNobodyRow.holds Tryz.pinned (OpenSpec.ofChange peerNobodyWrong)

/- THE SECOND FORM. 'bulk': how many values and letters a reading holds, each counted each time it is reached (what is shared counts as often as it is met; a slice's spare places count too). A statement '..UptoSaid' is the law's where the arguments, and the package variables that the reading takes, are together of bulk at most 1048576: NARROWER than '..Said'. Prove '..Said' where nothing that the law and all that it calls make is longer than what came in: it says more and counts as full. Else prove '..UptoSaid'. A law counts once. -/
mutual
def uptoBulk {H : Type} : DataW H → Nat
  | .lit (.string bytes) => bytes.length + 1
  | .lit _ => 1
  | .nil => 1
  | .ptr d => uptoBulk d + 1
  | .slice elems spare => uptoBulkAll elems + uptoBulkAll spare + 1
  | .agg parts => uptoBulkAll parts + 1
  | .iface _ d => uptoBulk d + 1
  | .map entries => uptoBulkEntries entries + 1
  | .held _ => 1
def uptoBulkAll {H : Type} : List (DataW H) → Nat
  | [] => 0
  | d :: r => uptoBulk d + uptoBulkAll r
def uptoBulkEntries {H : Type} : List (Lit × DataW H) → Nat
  | [] => 0
  | x :: r => uptoBulkEntry x + uptoBulkEntries r
def uptoBulkEntry {H : Type} : Lit × DataW H → Nat
  | (.string bytes, d) => bytes.length + uptoBulk d + 1
  | (_, d) => uptoBulk d + 1
 end
def uptoSmall : (H : Type) → List (DataW H) → Bool := fun _ ds => decide (uptoBulkAll ds ≤ 1048576)
def OpenSpec.upto (s : _root_.Go.ChangeSpec) : _root_.Go.OpenSpec := { _root_.Go.OpenSpec.ofChange s with cond := some uptoSmall }

/-- 'leapfroglaw09.PeerSorted', WHERE WHAT IT READS IS OF BULK AT MOST 1048576: true; the input reads as it did. -/
def peerSortedUptoRow : OpenClaim := { program := "ytmeajliiloaegaagreat", sum := "bfdd9f204cadf327184aa17664e0c7dd3099a2f3e4630fffa3e7c48d4d5ee2bd", func := "leapfrog/leapfroglaw09.PeerSorted", spec := "peerSorted", unfollowed := true, recurses := true, plainKeys := false, apart := false, narrowed := true }
def PeerSortedUptoSaid : Prop := peerSortedUptoRow.holds Tryz.pinned (OpenSpec.upto peerSortedSpec)

/-- 'leapfroglaw09.PeerOnce', WHERE WHAT IT READS IS OF BULK AT MOST 1048576: true; the input reads as it did. -/
def peerOnceUptoRow : OpenClaim := { program := "ytmeajliiloaegaagreat", sum := "bfdd9f204cadf327184aa17664e0c7dd3099a2f3e4630fffa3e7c48d4d5ee2bd", func := "leapfrog/leapfroglaw09.PeerOnce", spec := "peerOnce", unfollowed := true, recurses := true, plainKeys := false, apart := false, narrowed := true }
def PeerOnceUptoSaid : Prop := peerOnceUptoRow.holds Tryz.pinned (OpenSpec.upto peerOnceSpec)

/-- 'leapfroglaw09.PeerEach', WHERE WHAT IT READS IS OF BULK AT MOST 1048576: true; the input reads as it did. -/
def peerEachUptoRow : OpenClaim := { program := "ytmeajliiloaegaagreat", sum := "bfdd9f204cadf327184aa17664e0c7dd3099a2f3e4630fffa3e7c48d4d5ee2bd", func := "leapfrog/leapfroglaw09.PeerEach", spec := "peerEach", unfollowed := true, recurses := true, plainKeys := false, apart := false, narrowed := true }
def PeerEachUptoSaid : Prop := peerEachUptoRow.holds Tryz.pinned (OpenSpec.upto peerEachSpec)

/-- 'leapfroglaw09.PeerNobody', WHERE WHAT IT READS IS OF BULK AT MOST 1048576: true; the input reads as it did. -/
def peerNobodyUptoRow : OpenClaim := { program := "ytmeajliiloaegaagreat", sum := "bfdd9f204cadf327184aa17664e0c7dd3099a2f3e4630fffa3e7c48d4d5ee2bd", func := "leapfrog/leapfroglaw09.PeerNobody", spec := "peerNobody", unfollowed := true, recurses := true, plainKeys := false, apart := false, narrowed := true }
def PeerNobodyUptoSaid : Prop := peerNobodyUptoRow.holds Tryz.pinned (OpenSpec.upto peerNobodySpec)

end Rows
end Go.Proofs.YtmeajliiloaegaaGreat
