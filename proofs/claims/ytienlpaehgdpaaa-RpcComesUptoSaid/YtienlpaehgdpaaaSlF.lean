/- The walk's own words, part F: a region that draws: the order in which it is looked at ('canon'), and that this serves whatever order is drawn. Conditions: none. -/
import Derived.Test.YtienlpaehgdpaaaSlE
set_option linter.unusedSimpArgs false
set_option linter.unusedVariables false
namespace Go.SL
open Go

/-! ### The order -/

section defs
variable (ops : Array Oper) (cs : Array COp) (b : Array Nat)

/-- The places that operation j looks at. -/
def looksAll (j : Nat) : List Nat :=
  (match ops[j]? with | some o => o.looksAt ops | none => []) ++ (match cs[j]? with | some c => c.looks | none => [])

def dstOf (j : Nat) : Option Nat := (ops[j]?).bind (·.dst)

/-- May operation i be looked at as soon as it is ready? -/
def quietAt (i : Nat) : Bool :=
  match cs[i]? with
  | some c => quietK c.k && (match dstOf ops i with
      | none => true
      | some d => (List.range ops.size).all fun j => !(looksAll ops cs j).contains d || (b.getD j 0).testBit i)
  | none => false

def readyAt (V i : Nat) : Bool :=
  match ops[i]? with
  | some o => o.after.all fun e => !Region.binds .any e || V.testBit e.on
  | none => false

def satL : List Nat → Nat → List Nat × Nat
  | [], V => ([], V)
  | i :: r, V => if quietAt ops cs b i && !V.testBit i && readyAt ops V i then let p := satL r (V ||| 2 ^ i); (i :: p.1, p.2) else satL r V

def stAll : List Nat → Tr → Option Tr
  | [], t => some t
  | i :: r, t => match cs[i]?, stAll r t with
    | some c, some u => some (.st c u)
    | _, _ => none

def agAll : List Nat → Tr → Option Tr
  | [], t => some t
  | i :: r, t => match cs[i]?, agAll r t with
    | some c, some u => some (.ag c u)
    | _, _ => none

/-- What is to be looked at again behind operation e. -/
def agains (e V : Nat) : List Nat :=
  (List.range ops.size).filter fun r => V.testBit r && !(b.getD e 0).testBit r && (match cs[r]?, cs[e]? with
    | some c, some d => readsK c.k && !(allocK d.k && pushSafe c.k)
    | _, _ => true)

def effs (V : Nat) : List Nat := (List.range ops.size).filter fun i => !V.testBit i && readyAt ops V i

def bothAll : List (Option Tr) → Option Tr
  | [] => some .done
  | [t] => t
  | t :: u :: r => match t, bothAll (u :: r) with
    | some x, some y => some (.both x y)
    | _, _ => none

def canon : Nat → Nat → Option Tr
  | 0, _ => none
  | f + 1, V =>
    let p := satL ops cs b (List.range ops.size) V
    match bothAll ((effs ops p.2).map fun e => match cs[e]?, (canon f (p.2 ||| 2 ^ e)).bind (agAll cs (agains ops cs b e p.2)) with
      | some c, some t => some (.st c t)
      | _, _ => none) with
    | some t => stAll cs p.1 t
    | none => none

/-- What is asked of the region's text. -/
def drawOk : Bool :=
  Region.noSelect ops && cs.size == ops.size &&
  (List.range ops.size).all fun i =>
    (match ops[i]? with | some o => o.after.all fun e => !Region.binds .any e || e.on < i | none => true) &&
    (List.range ops.size).all fun j => i == j || (match dstOf ops i with
      | none => true
      | some d => dstOf ops j != some d && ((b.getD j 0).testBit i || (b.getD i 0).testBit j || !(looksAll ops cs j).contains d))

end defs

/-! ### What comes before -/

theorem fold_bits {after : List Edge} {acc : Array Nat} {j : Nat} : ∀ {s : Nat},
    (after.foldl (fun s e => if Region.binds .any e then s ||| 2 ^ e.on ||| acc.getD e.on 0 else s) s).testBit j = true →
      s.testBit j = true ∨ ∃ e ∈ after, Region.binds .any e = true ∧ (j = e.on ∨ (acc.getD e.on 0).testBit j = true) := by
  induction after with
  | nil => intro s h; exact .inl h
  | cons e r ih =>
    intro s h
    simp only [List.foldl_cons] at h
    rcases ih h with h1 | ⟨e', he', hb', hj'⟩
    · by_cases hb : Region.binds .any e = true
      · simp only [hb, if_true, Nat.testBit_or, Bool.or_eq_true] at h1
        rcases h1 with (h1 | h1) | h1
        · exact .inl h1
        · rw [Nat.testBit_two_pow] at h1
          exact .inr ⟨e, by simp, hb, .inl (by simpa using (of_decide_eq_true h1).symm)⟩
        · exact .inr ⟨e, by simp, hb, .inr h1⟩
      · simp only [hb] at h1; exact .inl h1
    · exact .inr ⟨e', by simp [he'], hb', hj'⟩

def bstep (acc : Array Nat) (o : Oper) : Array Nat :=
  acc.push (o.after.foldl (fun s e => if Region.binds .any e then s ||| 2 ^ e.on ||| acc.getD e.on 0 else s) 0)

theorem before_eq (ops : Array Oper) : Region.before ops = ops.toList.foldl bstep #[] := by
  unfold Region.before bstep
  rw [← Array.foldl_toList]

theorem bfold_spec : ∀ (l : List Oper) (acc : Array Nat),
    (l.foldl bstep acc).size = acc.size + l.length ∧ (∀ i, i < acc.size → (l.foldl bstep acc).getD i 0 = acc.getD i 0) ∧
    ∀ k o, l[k]? = some o → ∀ j, ((l.foldl bstep acc).getD (acc.size + k) 0).testBit j = true →
      ∃ e ∈ o.after.toList, Region.binds .any e = true ∧ (j = e.on ∨ (e.on < acc.size + k ∧ ((l.foldl bstep acc).getD e.on 0).testBit j = true))
  | [], acc => by simp
  | o :: l, acc => by
    obtain ⟨h1, h2, h3⟩ := bfold_spec l (bstep acc o)
    have hs : (bstep acc o).size = acc.size + 1 := by simp [bstep]
    simp only [List.foldl_cons]
    refine ⟨by rw [h1, hs]; simp; omega, fun i hi => ?_, fun k o' hk j hj => ?_⟩
    · rw [h2 i (by omega)]
      simp [bstep, Array.getElem?_push_lt hi, Array.getElem?_eq_getElem hi]
    · cases k with
      | zero =>
        simp at hk
        subst hk
        rw [Nat.add_zero, h2 acc.size (by omega)] at hj
        have he : (bstep acc o).getD acc.size 0 = o.after.foldl (fun s e => if Region.binds .any e then s ||| 2 ^ e.on ||| acc.getD e.on 0 else s) 0 := by simp [bstep]
        rw [he, ← Array.foldl_toList] at hj
        rcases fold_bits hj with h | ⟨e, he, hb, hj⟩
        · simp at h
        · refine ⟨e, he, hb, hj.imp id fun h => ?_⟩
          have hlt : e.on < acc.size := by
            rcases Nat.lt_or_ge e.on acc.size with h' | h'
            · exact h'
            · simp [Array.getElem?_eq_none h'] at h
          refine ⟨by omega, ?_⟩
          rw [h2 e.on (by omega)]
          have : (bstep acc o).getD e.on 0 = acc.getD e.on 0 := by simp [bstep, Array.getElem?_push_lt hlt, Array.getElem?_eq_getElem hlt]
          rw [this]; exact h
      | succ k =>
        simp at hk
        have := h3 k o' hk j (by rw [hs]; rw [show acc.size + 1 + k = acc.size + (k + 1) by omega]; exact hj)
        rw [hs, show acc.size + 1 + k = acc.size + (k + 1) by omega] at this
        exact this

/-- What is closed under 'waits for' holds all that comes before. -/
theorem before_closed {ops : Array Oper} {S : Nat → Prop} (hS : ∀ i o, S i → ops[i]? = some o → ∀ e ∈ o.after, Region.binds .any e = true → S e.on) :
    ∀ (i : Nat) (o : Oper), ops[i]? = some o → (∀ e ∈ o.after, Region.binds .any e = true → S e.on) → ∀ j, ((Region.before ops).getD i 0).testBit j = true → S j := by
  intro i
  induction i using Nat.strongRecOn with
  | _ i ih =>
    intro o ho hd j hj
    rw [before_eq] at hj
    obtain ⟨_, _, h3⟩ := bfold_spec ops.toList #[]
    obtain ⟨e, he, hb, hje⟩ := h3 i o (by simpa using ho) j (by simpa using hj)
    have hmem : e ∈ o.after := by simpa using he
    have hon := hd e hmem hb
    rcases hje with rfl | ⟨hlt, hje⟩
    · exact hon
    · have hlt' : e.on < i := by simpa using hlt
      have hsz : i < ops.size := (Array.getElem?_eq_some_iff.1 ho).1
      have ho' : ops[e.on]? = some ops[e.on] := Array.getElem?_eq_getElem (by omega)
      exact ih e.on hlt' _ ho' (fun e' he' hb' => hS _ _ hon ho' e' he' hb') j (by rw [before_eq]; exact hje)

end Go.SL
