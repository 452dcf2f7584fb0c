/-
  No cell of these rows narrows 'for every input' (looked for: loops, veiled, ifaces, maps, wideKeys, modest, calm, conditions, laid).
  DERIVED. THE GIVEN ROWS OF THIS SEAT. 11 by the template 'for every input the law returns true; each argument reads behind the call as it read before'; 0 by the template 'total and deterministic' (their statements: YtojegknfbgflnaaTotals.lean).
  GIVEN WITH THE SEED: the statements are not yours to turn. If you find one false, say at which input.
  Laid BY PROGRAM, IN A SANDBOX (cutbox-rows.mjs): the forced cells as the released guide's own fill.sh prints them over the translation 4f7ae6d7afbfc06c… (all of the seat's roots in one cut). By AI agents, Wed Nov 11 2026. No macro, syntax, notation, axiom, sorry.
-/
import Derived.Test.YtojegknfbgflnaaChecked
import GoSem.Claim
import GoSem.ClaimJoined
import GoSem.ClaimMapViews
import Derived.JoinedTies
import Derived.KernelRfl
namespace Go.Proofs.Ytojegknfbgflnaa
/- THE CELL 'sum', in the pinned program and in every row, IS THE sha256 OF THE DUMP (.gsa) THAT YtojegknfbgflnaaProg.lean LOADS. Nothing in Lean hashes anything: it is a label: what it is worth is what the hold of that sum in a sandbox is worth. -/
noncomputable def Try.pinned : Pinned := { name := "ytojegknfbgflnaa", sum := "4f7ae6d7afbfc06c0eea93a85c320b9ed57d28295bb390fd7d05ea3c3391b410", checked := Try.checked }
namespace Rows
def none {H : Type} : Left H := { results := [], args := [] }

/-- 'leapfroglaw07.LockFull': WHATEVER THE INPUT: true; the input reads as it did. -/
def lockFullSpec : ChangeSpec := { name := "lockFull", fn := fun _ => fun
  | [d] => { results := [.lit (.bool true)], args := [d] }
  | _ => none }
def lockFullRow : OpenClaim := { program := "ytojegknfbgflnaa", sum := "4f7ae6d7afbfc06c0eea93a85c320b9ed57d28295bb390fd7d05ea3c3391b410", func := "leapfrog/leapfroglaw07.LockFull", spec := "lockFull", plainKeys := false, apart := false }
def LockFullSaid : Prop := lockFullRow.holds Try.pinned (OpenSpec.ofChange lockFullSpec)

/-- ITS FALSE NEIGHBOUR: 'it returns false'. Refute it at one input. -/
def lockFullWrong : ChangeSpec := { name := "lockFull", fn := fun _ => fun
  | [d] => { results := [.lit (.bool false)], args := [d] }
  | _ => none }
def LockFullWrongFalsely : Prop := lockFullRow.holds Try.pinned (OpenSpec.ofChange lockFullWrong)

/-- 'leapfroglaw07.LockTurns': WHATEVER THE INPUT: true; the input reads as it did. -/
def lockTurnsSpec : ChangeSpec := { name := "lockTurns", fn := fun _ => fun
  | [d] => { results := [.lit (.bool true)], args := [d] }
  | _ => none }
def lockTurnsRow : OpenClaim := { program := "ytojegknfbgflnaa", sum := "4f7ae6d7afbfc06c0eea93a85c320b9ed57d28295bb390fd7d05ea3c3391b410", func := "leapfrog/leapfroglaw07.LockTurns", spec := "lockTurns", plainKeys := false, apart := false }
def LockTurnsSaid : Prop := lockTurnsRow.holds Try.pinned (OpenSpec.ofChange lockTurnsSpec)

/-- ITS FALSE NEIGHBOUR: 'it returns false'. Refute it at one input. -/
def lockTurnsWrong : ChangeSpec := { name := "lockTurns", fn := fun _ => fun
  | [d] => { results := [.lit (.bool false)], args := [d] }
  | _ => none }
def LockTurnsWrongFalsely : Prop := lockTurnsRow.holds Try.pinned (OpenSpec.ofChange lockTurnsWrong)

/-- 'leapfroglaw07.LockRuns': WHATEVER THE INPUT: true; the input reads as it did. -/
def lockRunsSpec : ChangeSpec := { name := "lockRuns", fn := fun _ => fun
  | [d] => { results := [.lit (.bool true)], args := [d] }
  | _ => none }
def lockRunsRow : OpenClaim := { program := "ytojegknfbgflnaa", sum := "4f7ae6d7afbfc06c0eea93a85c320b9ed57d28295bb390fd7d05ea3c3391b410", func := "leapfrog/leapfroglaw07.LockRuns", spec := "lockRuns", plainKeys := false, apart := false }
def LockRunsSaid : Prop := lockRunsRow.holds Try.pinned (OpenSpec.ofChange lockRunsSpec)

/-- ITS FALSE NEIGHBOUR: 'it returns false'. Refute it at one input. -/
def lockRunsWrong : ChangeSpec := { name := "lockRuns", fn := fun _ => fun
  | [d] => { results := [.lit (.bool false)], args := [d] }
  | _ => none }
def LockRunsWrongFalsely : Prop := lockRunsRow.holds Try.pinned (OpenSpec.ofChange lockRunsWrong)

/-- 'leapfroglaw07.LockNobody': WHATEVER THE INPUT: true; the input reads as it did. -/
def lockNobodySpec : ChangeSpec := { name := "lockNobody", fn := fun _ => fun
  | [d] => { results := [.lit (.bool true)], args := [d] }
  | _ => none }
def lockNobodyRow : OpenClaim := { program := "ytojegknfbgflnaa", sum := "4f7ae6d7afbfc06c0eea93a85c320b9ed57d28295bb390fd7d05ea3c3391b410", func := "leapfrog/leapfroglaw07.LockNobody", spec := "lockNobody", plainKeys := false, apart := false }
def LockNobodySaid : Prop := lockNobodyRow.holds Try.pinned (OpenSpec.ofChange lockNobodySpec)

/-- ITS FALSE NEIGHBOUR: 'it returns false'. Refute it at one input. -/
def lockNobodyWrong : ChangeSpec := { name := "lockNobody", fn := fun _ => fun
  | [d] => { results := [.lit (.bool false)], args := [d] }
  | _ => none }
def LockNobodyWrongFalsely : Prop := lockNobodyRow.holds Try.pinned (OpenSpec.ofChange lockNobodyWrong)

/-- 'leapfroglaw08.LinkSame': WHATEVER THE INPUT: true; the input reads as it did. -/
def linkSameSpec : ChangeSpec := { name := "linkSame", fn := fun _ => fun
  | [d1, d2] => { results := [.lit (.bool true)], args := [d1, d2] }
  | _ => none }
def linkSameRow : OpenClaim := { program := "ytojegknfbgflnaa", sum := "4f7ae6d7afbfc06c0eea93a85c320b9ed57d28295bb390fd7d05ea3c3391b410", func := "leapfrog/leapfroglaw08.LinkSame", spec := "linkSame", plainKeys := false, apart := false }
def LinkSameSaid : Prop := linkSameRow.holds Try.pinned (OpenSpec.ofChange linkSameSpec)

/-- ITS FALSE NEIGHBOUR: 'it returns false'. Refute it at one input. -/
def linkSameWrong : ChangeSpec := { name := "linkSame", fn := fun _ => fun
  | [d1, d2] => { results := [.lit (.bool false)], args := [d1, d2] }
  | _ => none }
def LinkSameWrongFalsely : Prop := linkSameRow.holds Try.pinned (OpenSpec.ofChange linkSameWrong)

/-- 'leapfroglaw08.LinkApart': WHATEVER THE INPUT: true; the input reads as it did. -/
def linkApartSpec : ChangeSpec := { name := "linkApart", fn := fun _ => fun
  | [d1, d2, d3, d4] => { results := [.lit (.bool true)], args := [d1, d2, d3, d4] }
  | _ => none }
def linkApartRow : OpenClaim := { program := "ytojegknfbgflnaa", sum := "4f7ae6d7afbfc06c0eea93a85c320b9ed57d28295bb390fd7d05ea3c3391b410", func := "leapfrog/leapfroglaw08.LinkApart", spec := "linkApart", plainKeys := false, apart := false }
def LinkApartSaid : Prop := linkApartRow.holds Try.pinned (OpenSpec.ofChange linkApartSpec)

/-- ITS FALSE NEIGHBOUR: 'it returns false'. Refute it at one input. -/
def linkApartWrong : ChangeSpec := { name := "linkApart", fn := fun _ => fun
  | [d1, d2, d3, d4] => { results := [.lit (.bool false)], args := [d1, d2, d3, d4] }
  | _ => none }
def LinkApartWrongFalsely : Prop := linkApartRow.holds Try.pinned (OpenSpec.ofChange linkApartWrong)

/-- 'leapfroglaw08.LinkAgain': WHATEVER THE INPUT: true; the input reads as it did. -/
def linkAgainSpec : ChangeSpec := { name := "linkAgain", fn := fun _ => fun
  | [d1, d2, d3, d4, d5, d6] => { results := [.lit (.bool true)], args := [d1, d2, d3, d4, d5, d6] }
  | _ => none }
def linkAgainRow : OpenClaim := { program := "ytojegknfbgflnaa", sum := "4f7ae6d7afbfc06c0eea93a85c320b9ed57d28295bb390fd7d05ea3c3391b410", func := "leapfrog/leapfroglaw08.LinkAgain", spec := "linkAgain", plainKeys := false, apart := false }
def LinkAgainSaid : Prop := linkAgainRow.holds Try.pinned (OpenSpec.ofChange linkAgainSpec)

/-- ITS FALSE NEIGHBOUR: 'it returns false'. Refute it at one input. -/
def linkAgainWrong : ChangeSpec := { name := "linkAgain", fn := fun _ => fun
  | [d1, d2, d3, d4, d5, d6] => { results := [.lit (.bool false)], args := [d1, d2, d3, d4, d5, d6] }
  | _ => none }
def LinkAgainWrongFalsely : Prop := linkAgainRow.holds Try.pinned (OpenSpec.ofChange linkAgainWrong)

/-- 'leapfroglaw07.LockStuck': WHATEVER THE INPUT: true; the input reads as it did. -/
def lockStuckSpec : ChangeSpec := { name := "lockStuck", fn := fun _ => fun
  | [d] => { results := [.lit (.bool true)], args := [d] }
  | _ => none }
def lockStuckRow : OpenClaim := { program := "ytojegknfbgflnaa", sum := "4f7ae6d7afbfc06c0eea93a85c320b9ed57d28295bb390fd7d05ea3c3391b410", func := "leapfrog/leapfroglaw07.LockStuck", spec := "lockStuck", unfollowed := true, recurses := true, plainKeys := false, apart := false }
def LockStuckSaid : Prop := lockStuckRow.holds Try.pinned (OpenSpec.ofChange lockStuckSpec)

/-- ITS FALSE NEIGHBOUR: 'it returns false'. Refute it at one input. -/
def lockStuckWrong : ChangeSpec := { name := "lockStuck", fn := fun _ => fun
  | [d] => { results := [.lit (.bool false)], args := [d] }
  | _ => none }
def LockStuckWrongFalsely : Prop := lockStuckRow.holds Try.pinned (OpenSpec.ofChange lockStuckWrong)

/-- 'leapfroglaw07.LockRising': WHATEVER THE INPUT: true; the input reads as it did. -/
def lockRisingSpec : ChangeSpec := { name := "lockRising", fn := fun _ => fun
  | [d] => { results := [.lit (.bool true)], args := [d] }
  | _ => none }
def lockRisingRow : OpenClaim := { program := "ytojegknfbgflnaa", sum := "4f7ae6d7afbfc06c0eea93a85c320b9ed57d28295bb390fd7d05ea3c3391b410", func := "leapfrog/leapfroglaw07.LockRising", spec := "lockRising", unfollowed := true, recurses := true, plainKeys := false, apart := false }
def LockRisingSaid : Prop := lockRisingRow.holds Try.pinned (OpenSpec.ofChange lockRisingSpec)

/-- ITS FALSE NEIGHBOUR: 'it returns false'. Refute it at one input. -/
def lockRisingWrong : ChangeSpec := { name := "lockRising", fn := fun _ => fun
  | [d] => { results := [.lit (.bool false)], args := [d] }
  | _ => none }
def LockRisingWrongFalsely : Prop := lockRisingRow.holds Try.pinned (OpenSpec.ofChange lockRisingWrong)

/-- 'leapfroglaw08.LinkSorted': WHATEVER THE INPUT: true; the input reads as it did. -/
def linkSortedSpec : ChangeSpec := { name := "linkSorted", fn := fun _ => fun
  | [d1, d2] => { results := [.lit (.bool true)], args := [d1, d2] }
  | _ => none }
def linkSortedRow : OpenClaim := { program := "ytojegknfbgflnaa", sum := "4f7ae6d7afbfc06c0eea93a85c320b9ed57d28295bb390fd7d05ea3c3391b410", func := "leapfrog/leapfroglaw08.LinkSorted", spec := "linkSorted", unfollowed := true, recurses := true, plainKeys := false, apart := false }
def LinkSortedSaid : Prop := linkSortedRow.holds Try.pinned (OpenSpec.ofChange linkSortedSpec)

/-- ITS FALSE NEIGHBOUR: 'it returns false'. Refute it at one input. -/
def linkSortedWrong : ChangeSpec := { name := "linkSorted", fn := fun _ => fun
  | [d1, d2] => { results := [.lit (.bool false)], args := [d1, d2] }
  | _ => none }
def LinkSortedWrongFalsely : Prop := linkSortedRow.holds Try.pinned (OpenSpec.ofChange linkSortedWrong)

/-- 'leapfroglaw08.LinkNobody': WHATEVER THE INPUT: true; the input reads as it did. -/
def linkNobodySpec : ChangeSpec := { name := "linkNobody", fn := fun _ => fun
  | [d] => { results := [.lit (.bool true)], args := [d] }
  | _ => none }
def linkNobodyRow : OpenClaim := { program := "ytojegknfbgflnaa", sum := "4f7ae6d7afbfc06c0eea93a85c320b9ed57d28295bb390fd7d05ea3c3391b410", func := "leapfrog/leapfroglaw08.LinkNobody", spec := "linkNobody", unfollowed := true, recurses := true, plainKeys := false, apart := false }
def LinkNobodySaid : Prop := linkNobodyRow.holds Try.pinned (OpenSpec.ofChange linkNobodySpec)

/-- ITS FALSE NEIGHBOUR: 'it returns false'. Refute it at one input. -/
def linkNobodyWrong : ChangeSpec := { name := "linkNobody", fn := fun _ => fun
  | [d] => { results := [.lit (.bool false)], args := [d] }
  | _ => none }
def LinkNobodyWrongFalsely : Prop := linkNobodyRow.holds Try.pinned (OpenSpec.ofChange linkNobodyWrong)

/- THE SECOND FORM. 'bulk': how many values and letters a reading holds, each counted each time it is reached (what is shared counts as often as it is met; a slice's spare places count too). A statement '..UptoSaid' is the law's where the arguments, and the package variables that the reading takes, are together of bulk at most 1048576: NARROWER than '..Said'. Prove '..Said' where nothing that the law and all that it calls make is longer than what came in: it says more and counts as full. Else prove '..UptoSaid'. A law counts once. -/
mutual
def uptoBulk {H : Type} : DataW H → Nat
  | .lit (.string bytes) => bytes.length + 1
  | .lit _ => 1
  | .nil => 1
  | .ptr d => uptoBulk d + 1
  | .slice elems spare => uptoBulkAll elems + uptoBulkAll spare + 1
  | .agg parts => uptoBulkAll parts + 1
  | .iface _ d => uptoBulk d + 1
  | .map entries => uptoBulkEntries entries + 1
  | .held _ => 1
def uptoBulkAll {H : Type} : List (DataW H) → Nat
  | [] => 0
  | d :: r => uptoBulk d + uptoBulkAll r
def uptoBulkEntries {H : Type} : List (Lit × DataW H) → Nat
  | [] => 0
  | x :: r => uptoBulkEntry x + uptoBulkEntries r
def uptoBulkEntry {H : Type} : Lit × DataW H → Nat
  | (.string bytes, d) => bytes.length + uptoBulk d + 1
  | (_, d) => uptoBulk d + 1
 end
def uptoSmall : (H : Type) → List (DataW H) → Bool := fun _ ds => decide (uptoBulkAll ds ≤ 1048576)
def OpenSpec.upto (s : _root_.Go.ChangeSpec) : _root_.Go.OpenSpec := { _root_.Go.OpenSpec.ofChange s with cond := some uptoSmall }

/-- 'leapfroglaw07.LockFull', WHERE WHAT IT READS IS OF BULK AT MOST 1048576: true; the input reads as it did. -/
def lockFullUptoRow : OpenClaim := { program := "ytojegknfbgflnaa", sum := "4f7ae6d7afbfc06c0eea93a85c320b9ed57d28295bb390fd7d05ea3c3391b410", func := "leapfrog/leapfroglaw07.LockFull", spec := "lockFull", plainKeys := false, apart := false, narrowed := true }
def LockFullUptoSaid : Prop := lockFullUptoRow.holds Try.pinned (OpenSpec.upto lockFullSpec)

/-- 'leapfroglaw07.LockTurns', WHERE WHAT IT READS IS OF BULK AT MOST 1048576: true; the input reads as it did. -/
def lockTurnsUptoRow : OpenClaim := { program := "ytojegknfbgflnaa", sum := "4f7ae6d7afbfc06c0eea93a85c320b9ed57d28295bb390fd7d05ea3c3391b410", func := "leapfrog/leapfroglaw07.LockTurns", spec := "lockTurns", plainKeys := false, apart := false, narrowed := true }
def LockTurnsUptoSaid : Prop := lockTurnsUptoRow.holds Try.pinned (OpenSpec.upto lockTurnsSpec)

/-- 'leapfroglaw07.LockRuns', WHERE WHAT IT READS IS OF BULK AT MOST 1048576: true; the input reads as it did. -/
def lockRunsUptoRow : OpenClaim := { program := "ytojegknfbgflnaa", sum := "4f7ae6d7afbfc06c0eea93a85c320b9ed57d28295bb390fd7d05ea3c3391b410", func := "leapfrog/leapfroglaw07.LockRuns", spec := "lockRuns", plainKeys := false, apart := false, narrowed := true }
def LockRunsUptoSaid : Prop := lockRunsUptoRow.holds Try.pinned (OpenSpec.upto lockRunsSpec)

/-- 'leapfroglaw07.LockNobody', WHERE WHAT IT READS IS OF BULK AT MOST 1048576: true; the input reads as it did. -/
def lockNobodyUptoRow : OpenClaim := { program := "ytojegknfbgflnaa", sum := "4f7ae6d7afbfc06c0eea93a85c320b9ed57d28295bb390fd7d05ea3c3391b410", func := "leapfrog/leapfroglaw07.LockNobody", spec := "lockNobody", plainKeys := false, apart := false, narrowed := true }
def LockNobodyUptoSaid : Prop := lockNobodyUptoRow.holds Try.pinned (OpenSpec.upto lockNobodySpec)

/-- 'leapfroglaw08.LinkSame', WHERE WHAT IT READS IS OF BULK AT MOST 1048576: true; the input reads as it did. -/
def linkSameUptoRow : OpenClaim := { program := "ytojegknfbgflnaa", sum := "4f7ae6d7afbfc06c0eea93a85c320b9ed57d28295bb390fd7d05ea3c3391b410", func := "leapfrog/leapfroglaw08.LinkSame", spec := "linkSame", plainKeys := false, apart := false, narrowed := true }
def LinkSameUptoSaid : Prop := linkSameUptoRow.holds Try.pinned (OpenSpec.upto linkSameSpec)

/-- 'leapfroglaw08.LinkApart', WHERE WHAT IT READS IS OF BULK AT MOST 1048576: true; the input reads as it did. -/
def linkApartUptoRow : OpenClaim := { program := "ytojegknfbgflnaa", sum := "4f7ae6d7afbfc06c0eea93a85c320b9ed57d28295bb390fd7d05ea3c3391b410", func := "leapfrog/leapfroglaw08.LinkApart", spec := "linkApart", plainKeys := false, apart := false, narrowed := true }
def LinkApartUptoSaid : Prop := linkApartUptoRow.holds Try.pinned (OpenSpec.upto linkApartSpec)

/-- 'leapfroglaw08.LinkAgain', WHERE WHAT IT READS IS OF BULK AT MOST 1048576: true; the input reads as it did. -/
def linkAgainUptoRow : OpenClaim := { program := "ytojegknfbgflnaa", sum := "4f7ae6d7afbfc06c0eea93a85c320b9ed57d28295bb390fd7d05ea3c3391b410", func := "leapfrog/leapfroglaw08.LinkAgain", spec := "linkAgain", plainKeys := false, apart := false, narrowed := true }
def LinkAgainUptoSaid : Prop := linkAgainUptoRow.holds Try.pinned (OpenSpec.upto linkAgainSpec)

/-- 'leapfroglaw07.LockStuck', WHERE WHAT IT READS IS OF BULK AT MOST 1048576: true; the input reads as it did. -/
def lockStuckUptoRow : OpenClaim := { program := "ytojegknfbgflnaa", sum := "4f7ae6d7afbfc06c0eea93a85c320b9ed57d28295bb390fd7d05ea3c3391b410", func := "leapfrog/leapfroglaw07.LockStuck", spec := "lockStuck", unfollowed := true, recurses := true, plainKeys := false, apart := false, narrowed := true }
def LockStuckUptoSaid : Prop := lockStuckUptoRow.holds Try.pinned (OpenSpec.upto lockStuckSpec)

/-- 'leapfroglaw07.LockRising', WHERE WHAT IT READS IS OF BULK AT MOST 1048576: true; the input reads as it did. -/
def lockRisingUptoRow : OpenClaim := { program := "ytojegknfbgflnaa", sum := "4f7ae6d7afbfc06c0eea93a85c320b9ed57d28295bb390fd7d05ea3c3391b410", func := "leapfrog/leapfroglaw07.LockRising", spec := "lockRising", unfollowed := true, recurses := true, plainKeys := false, apart := false, narrowed := true }
def LockRisingUptoSaid : Prop := lockRisingUptoRow.holds Try.pinned (OpenSpec.upto lockRisingSpec)

/-- 'leapfroglaw08.LinkSorted', WHERE WHAT IT READS IS OF BULK AT MOST 1048576: true; the input reads as it did. -/
def linkSortedUptoRow : OpenClaim := { program := "ytojegknfbgflnaa", sum := "4f7ae6d7afbfc06c0eea93a85c320b9ed57d28295bb390fd7d05ea3c3391b410", func := "leapfrog/leapfroglaw08.LinkSorted", spec := "linkSorted", unfollowed := true, recurses := true, plainKeys := false, apart := false, narrowed := true }
def LinkSortedUptoSaid : Prop := linkSortedUptoRow.holds Try.pinned (OpenSpec.upto linkSortedSpec)

/-- 'leapfroglaw08.LinkNobody', WHERE WHAT IT READS IS OF BULK AT MOST 1048576: true; the input reads as it did. -/
def linkNobodyUptoRow : OpenClaim := { program := "ytojegknfbgflnaa", sum := "4f7ae6d7afbfc06c0eea93a85c320b9ed57d28295bb390fd7d05ea3c3391b410", func := "leapfrog/leapfroglaw08.LinkNobody", spec := "linkNobody", unfollowed := true, recurses := true, plainKeys := false, apart := false, narrowed := true }
def LinkNobodyUptoSaid : Prop := linkNobodyUptoRow.holds Try.pinned (OpenSpec.upto linkNobodySpec)

end Rows
end Go.Proofs.Ytojegknfbgflnaa
