/- The types of the program that are rows of numbers, and how they lie in cells. Conditions: none. -/
import Derived.Test.YtienlpaehgdpaaaSlR
set_option linter.unusedSimpArgs false
set_option linter.unusedVariables false
namespace Go.SL
open Go

abbrev u64 (n : Int) : Value := .int .u64 n

structure Owner where
  agent : Int
  op : Int
  deriving DecidableEq, Inhabited
def ownerC (o : Owner) : List Value := [i64 o.agent, i64 o.op]
instance : EqEnc [.i, .i] ownerC := ⟨fun a b => by
  have : decide (a = b) = (decide (a.agent = b.agent) && (decide (a.op = b.op) && true)) := by cases a; cases b; simp
  rw [this]; exact .i (.i .nil)⟩
instance {a b : Owner} : BP (decide (a.agent = b.agent) && (decide (a.op = b.op) && true)) (a = b) (¬ a = b) := by
  have e : (decide (a.agent = b.agent) && (decide (a.op = b.op) && true)) = decide (a = b) := by cases a; cases b; simp
  rw [e]; infer_instance
abbrev ov (o : Owner) : Value := .agg (ownerC o).toArray
theorem Owner.eta (o : Owner) : (⟨o.agent, o.op⟩ : Owner) = o := rfl
theorem ownerC_one : ∀ o : Owner, (ownerC o).length = 2 ∧ ∀ v ∈ ownerC o, isOne v = true := by intro o; simp [ownerC, isOne]

def intE (n : Int) : List Value := [i64 n]
theorem intE_one : ∀ n : Int, (intE n).length = 1 ∧ ∀ v ∈ intE n, isOne v = true := by intro n; simp [intE, isOne]

/-- A pointer to a block of its own, or nil. -/
def pV (o : Option Nat) : Value := .pointer (o.map fun b => ⟨b, 0, none⟩)
def pE (o : Option Nat) : List Value := [pV o]
theorem pE_one : ∀ o : Option Nat, (pE o).length = 1 ∧ ∀ v ∈ pE o, isOne v = true := by intro o; simp [pE, pV, isOne]
end Go.SL
