/- The walk's own words, part A: a region's operations without their noise ('COp'), what each does to a heap ('Kd.sem'), and that the model's operation does just this. Conditions: none. -/
import Derived.Calls
import Derived.OrdersIn
import Derived.RangeFuncLeaves
import Derived.RangeFuncRecord
import Derived.Laws.World
import Derived.Laws.Cells
import Derived.WalkKit
set_option linter.unusedVariables false
namespace Go.SL
open Go

abbrev Heap := Array Obj
abbrev Env := List (Nat × Value)

def Env.lk : Env → Nat → Option Value
  | [], _ => none
  | (k, v) :: r, t => bif Nat.beq k t then some v else Env.lk r t

def Env.ev (ρ : Env) : Operand → Option Value
  | .tmp t => ρ.lk t
  | .const v => some v
  | .global g => some (.pointer (some ⟨g, 0, none⟩))
  | .func f => some (.func (.func f) #[] #[])

def Env.evs (ρ : Env) : List Operand → Option (List Value)
  | [] => some []
  | x :: r => match ρ.ev x, Env.evs ρ r with
    | some v, some vs => some (v :: vs)
    | _, _ => none

/-- What is known of a frame. -/
structure Agrees (a : Act) (ρ : Env) (N : Nat) : Prop where
  size : a.tmps.size = N
  lk : ∀ t v, ρ.lk t = some v → a.tmps.getD t undef = v

theorem lk_cons (k : Nat) (v : Value) (r : Env) (t : Nat) : Env.lk ((k, v) :: r) t = if k = t then some v else Env.lk r t := by
  by_cases h : k = t
  · subst h; simp [Env.lk]
  · have : Nat.beq k t = false := by
      cases hb : Nat.beq k t
      · rfl
      · exact absurd (Nat.eq_of_beq_eq_true hb) h
    simp [Env.lk, this, h]

theorem Agrees.ev {a : Act} {ρ : Env} {N : Nat} (h : Agrees a ρ N) {x : Operand} {v : Value} (hx : ρ.ev x = some v) : a.eval x = v := by
  cases x with
  | tmp t => exact h.lk t v hx
  | const c => simp [Env.ev] at hx; exact hx
  | global g => simp [Env.ev] at hx; exact hx
  | func f => simp [Env.ev] at hx; exact hx

theorem Agrees.evs {a : Act} {ρ : Env} {N : Nat} (h : Agrees a ρ N) : ∀ {xs : List Operand} {vs : List Value}, ρ.evs xs = some vs → xs.map a.eval = vs
  | [], vs, hx => by simp [Env.evs] at hx; simp [hx]
  | x :: r, vs, hx => by
    simp only [Env.evs] at hx
    cases h1 : ρ.ev x with
    | none => simp [h1] at hx
    | some v =>
      cases h2 : Env.evs ρ r with
      | none => simp [h1, h2] at hx
      | some ws =>
        simp [h1, h2] at hx
        subst hx
        simp [h.ev h1, h.evs h2]

def Env.put (ρ : Env) : Option Nat → Value → Env
  | some d, v => (d, v) :: ρ
  | none, _ => ρ

theorem Agrees.put {a : Act} {ρ : Env} {N : Nat} (h : Agrees a ρ N) {dst : Option Nat} (hd : ∀ d, dst = some d → d < N) (v : Value) :
    Agrees (a.put dst v) (ρ.put dst v) N := by
  cases dst with
  | none => exact h
  | some d =>
    have hlt := hd d rfl
    refine ⟨by simp [Act.put, h.size], fun t u ht => ?_⟩
    simp only [Env.put, lk_cons] at ht
    by_cases hdt : d = t
    · subst hdt
      simp at ht
      subst ht
      have : d < a.tmps.size := by rw [h.size]; exact hlt
      simp [Act.put, this]
    · simp [hdt] at ht
      have := h.lk t u ht
      simp [Act.put, Array.getElem?_setIfInBounds_ne hdt] at this ⊢
      exact this

theorem Agrees.weaken {a : Act} {ρ ρ' : Env} {N : Nat} (h : Agrees a ρ N) (hs : ∀ t v, ρ'.lk t = some v → ρ.lk t = some v) : Agrees a ρ' N :=
  ⟨h.size, fun t v ht => h.lk t v (hs t v ht)⟩

/-- Where a cell of a composite value comes from. -/
inductive Src where
  | z (v : Value)
  | c (x : Operand) (j n : Nat)

/-- The kinds of cells that are compared one by one. -/
inductive Fl where
  | i
  | b
  | s

/-- Two values of a plain type, cell by cell. -/
inductive EqC : List Fl → List Value → List Value → Bool → Prop
  | nil : EqC [] [] [] true
  | i {k n m r u v b} (h : EqC r u v b) : EqC (.i :: r) (.int k n :: u) (.int k m :: v) (decide (n = m) && b)
  | b {n m r u v b} (h : EqC r u v b) : EqC (.b :: r) (.bool n :: u) (.bool m :: v) (n == m && b)
  | s {n m r u v b} (h : EqC r u v b) : EqC (.s :: r) (.string n :: u) (.string m :: v) (n.toList == m.toList && b)

/-- The kinds of values of one cell that '==' asks without memory. -/
inductive Sc where
  | b | s | p | sl | m | f
  deriving DecidableEq

/-- The kinds of operations, what the tables say of their types read off. -/
inductive Kd where
  | mv (x : Operand)
  | pick (c a b : Operand)
  | new (T : TypeId) (cells : Array Value)
  | box (T : TypeId) (x : Operand)
  | agg (src : List Src)
  | bsl (T : TypeId) (src : List Src) (len : Nat)
  | ld (n : Option Nat) (a : Operand)
  | st (n : Nat) (a x : Operand)
  | nilc (x : Operand)
  | bin (op : BinOp) (t : TypeId) (x y : Operand)
  | bini (op : BinOp) (x y : Operand)
  | eqs (neg : Bool) (fl : List Fl) (x y : Operand)
  | un (op : UnOp) (x : Operand)
  | cv (k : IntKind) (x : Operand)
  | fa (off : Nat) (x : Operand)
  | fld (agg : Bool) (n off : Nat) (x : Operand)
  | ia (sz : Nat) (x i : Operand)
  | iaa (len sz : Nat) (x i : Operand)
  | sl (sz : Nat) (x : Operand) (lo hi mx : Option Operand)
  | ln (x : Operand)
  | lns (x : Operand)
  | lnm (x : Operand)
  | ap (T : TypeId) (sz bytes : Nat) (zero : Array Value) (x y : Operand)
  | ext (x : Operand) (i : Nat)
  | call (f : Operand) (args : List Operand)
  | cmp (sc : Sc) (neg : Bool) (x y : Operand)
  | cap (x : Operand)
  | lkp (ok : Bool) (kt : TypeId) (zero : Value) (x i : Operand)
  | idx (x i : Operand)
  | mm (mx : Bool) (x y : Operand)
  | sls (x : Operand) (lo hi : Option Operand)
  | ent (x : Operand)
  | mkm
  | mup (kt : TypeId) (m k v : Operand)
  | mpe (kt : TypeId) (zero : Value) (m k : Operand)
  | ens (m s v : Operand)
  | del (kt : TypeId) (m k : Operand)
  | rng (x : Operand)
  | nxt (x : Operand)
  | mks (T sz bytes : Nat) (zero : Array Value) (l c : Operand)
  | cpy (sz : Nat) (x y : Operand)
  | clr (zero : Array Value) (x : Operand)
  | mki (t : TypeId) (x : Operand)
  | mkf (f : FuncId) (captured : List Operand)
  | raw (o : Oper)

/-- All but the heap's rows is as it was; no row's lock turned; the blocks for deferred calls lie as they lay. -/
structure Keeps (w w' : World) : Prop where
  os : w'.os = w.os
  output : w'.output = w.output
  tape : w'.tape = w.tape
  drawn : w.drawn ≤ w'.drawn
  dfr : ∀ (b : Nat) (ds : Option (List Deferred)), w.heap[b]? = some (Obj.deferred ds) → w'.heap[b]? = some (Obj.deferred ds)

theorem Keeps.refl (w : World) : Keeps w w := ⟨rfl, rfl, rfl, Nat.le_refl _, fun _ _ h => h⟩
theorem Keeps.trans {w w1 w2 : World} (h : Keeps w w1) (h' : Keeps w1 w2) : Keeps w w2 := ⟨h'.os.trans h.os, h'.output.trans h.output, h'.tape.trans h.tape, Nat.le_trans h.drawn h'.drawn, fun b ds e => h'.dfr b ds (h.dfr b ds e)⟩

/-- '==' of two values of one cell, where it asks no memory. -/
def scalEq : Sc → Value → Value → Option Bool
  | .b, .bool a, .bool b => some (a == b)
  | .s, .string a, .string b => some (a.toList == b.toList)
  | .p, .pointer a, .pointer b => match b with
    | none => some a.isNone
    | some _ => match a with
      | none => some false
      | some _ => none
  | .sl, .slice a _ _, .slice b _ _ => match b with
    | none => some a.isNone
    | some _ => match a with
      | none => some false
      | some _ => none
  | .m, .map a, .map b => match b with
    | none => some a.isNone
    | some _ => match a with
      | none => some false
      | some _ => none
  | .f, .nilFunc, .nilFunc => some true
  | .f, .nilFunc, .func _ _ _ => some false
  | .f, .func _ _ _, .nilFunc => some false
  | _, _, _ => none

/-- A call, said of heaps. -/
def CallsH (P : Program) (f : FuncId) (args : Array Value) (h : Heap) (R : Value → Heap → Prop) : Prop :=
  (P.funcs[f]?.any fun fn => fn.body.isSome && fn.name != "runtime.NumGoroutine") = true ∧
  ∀ w : World, w.heap = h → Calls P f args w fun e w' => ∃ v, e = .returned v ∧ Keeps w w' ∧ R v w'.heap

/-- A call of a loop's yield: the round is carried out. -/
def YieldW (P : Program) (l : Nat) (vs : List Value) (w : World) (R : Value → World → Prop) : Prop :=
  ∃ fn tmps as bd, (Instr.yield l vs.toArray).run P w = .ok (.round l fn tmps as bd) w ∧ RoundIn Fence.wide 0 P l fn tmps as bd w fun e w' => ∃ v, e = .returned v ∧ Keeps w w' ∧ R v w'
/-- A call of a function's value. -/
def CallV (P : Program) (t : Fn) (cap : Array Value) (vs : List Value) (h : Heap) (R : Value → Heap → Prop) : Prop :=
  match t with
  | .func f => CallsH P f (vs.toArray ++ cap) h R
  | .yield l => cap = #[] ∧ ∀ w : World, w.heap = h → YieldW P l vs w fun v w' => R v w'.heap
  | _ => False

/-- The cells of a composite value. -/
inductive Cells (ρ : Env) : List Src → List Value → Prop
  | nil : Cells ρ [] []
  | z {v r out} (h : Cells ρ r out) : Cells ρ (.z v :: r) (v :: out)
  | c {x j n v u r out} (hx : ρ.ev x = some v) (hn : v.cells.size = n) (hu : v.cells[j]? = some u) (h : Cells ρ r out) : Cells ρ (.c x j n :: r) (u :: out)

def heapCell (h : Heap) (a : Addr) : Option Value :=
  match h[a.block]? with
  | some (.cells c _ _) => if a.spot.isSome then none else c[a.off]?
  | _ => none

def heapCells (h : Heap) (a : Addr) : Nat → Nat → Option (List Value)
  | _, 0 => some []
  | i, n + 1 => match heapCell h (a.add i), heapCells h a (i + 1) n with
    | some v, some vs => some (v :: vs)
    | _, _ => none

/-- A value of one cell. -/
def isOne : Value → Bool
  | .agg _ | .tuple _ => false
  | _ => true

def setHeapCell (h : Heap) (a : Addr) (v : Value) : Heap :=
  h.modify a.block fun
    | .cells c elem frozen => .cells (if a.spot.isSome then c else c.setIfInBounds a.off v) elem frozen
    | o => o

def heapFrozen (h : Heap) (a : Addr) : Bool :=
  match h[a.block]? with
  | some (.cells _ _ (lo, hi)) => lo ≤ a.off && a.off < hi
  | _ => false

/-- A store of some cells, one behind the other. -/
def storeList (a : Addr) : List Value → Nat → Heap → Option Heap
  | [], _, h => some h
  | v :: r, i, h =>
    if isOne v then
      match heapCell h (a.add i) with
      | some _ => if heapFrozen h (a.add i) then none else storeList a r (i + 1) (setHeapCell h (a.add i) v)
      | none => none
    else none

def storeAt (a : Option Addr) (k : Nat) (vs : List Value) (h h' : Heap) : Prop :=
  match a with
  | none => h' = h
  | some ad => storeList (ad.add k) vs 0 h = some h'

def sliceLo (x : Option Operand) (ρ : Env) (d : Nat) : Option Nat :=
  match x with
  | none => some d
  | some o => match ρ.ev o with
    | some (.int _ n) => if 0 ≤ n then some n.toNat else none
    | _ => none

/-- The first n elements' cells of what is appended. -/
def firstList (h : Heap) (sz n : Nat) : Value → Option (List Value)
  | .slice (some a) _ _ => heapCells h a 0 (n * sz)
  | .slice none _ _ => some []
  | .string s => some ((s.extract 0 n).data.toList.map fun b => .int .u8 b.toNat)
  | _ => none

def lenVal : Value → Option Nat
  | .slice _ n _ => some n
  | .string s => some s.size
  | _ => none

def isShift : BinOp → Bool
  | .shl | .shr => true
  | _ => false

/-- An operation on two integers; none: it panics, or is none of theirs. -/
def intBin (op : BinOp) (k : IntKind) (n m : Int) : Option Value :=
  match op with
  | .add => some (.int k (k.wrap (n + m)))
  | .sub => some (.int k (k.wrap (n - m)))
  | .mul => some (.int k (k.wrap (n * m)))
  | .quo => if m = 0 then none else some (.int k (k.wrap (n.tdiv m)))
  | .rem => if m = 0 then none else some (.int k (n.tmod m))
  | .and => some (.int k (k.wrap (BitVec.ofInt k.bits n &&& BitVec.ofInt k.bits m).toNat))
  | .or => some (.int k (k.wrap (BitVec.ofInt k.bits n ||| BitVec.ofInt k.bits m).toNat))
  | .xor => some (.int k (k.wrap (BitVec.ofInt k.bits n ^^^ BitVec.ofInt k.bits m).toNat))
  | .andNot => some (.int k (k.wrap (BitVec.ofInt k.bits n &&& ~~~ BitVec.ofInt k.bits m).toNat))
  | .shl => if m < 0 then none else some (.int k (k.wrap (n * 2 ^ (min m.toNat k.bits))))
  | .shr => if m < 0 then none else some (.int k (n.fdiv (2 ^ (min m.toNat k.bits))))
  | .eql => some (.bool (decide (n = m)))
  | .neq => some (.bool (!decide (n = m)))
  | .lss => some (.bool (decide (n < m)))
  | .leq => some (.bool (decide (n ≤ m)))
  | .gtr => some (.bool (decide (m < n)))
  | .geq => some (.bool (decide (m ≤ n)))

/-- What a look for a key in a map's rows comes to. -/
def KeyAt (P : Program) (kt : TypeId) (es : Array MapEntry) (key : Value) (r : Option (Nat × Value)) : Prop :=
  (∀ (e : Bool) (w : World), (Instr.checkKey e 10000 kt key).run P w = .ok () w) ∧ (∀ w : World, (Instr.findKey kt key es.toList).run P w = .ok r w) ∧
  ∀ i v, r = some (i, v) → Instr.sameBits 10000 (((es[i]?).map (·.key)).getD key) key = true

def mapOf (h : Heap) (x : Value) (es : Array MapEntry) : Prop :=
  match x with
  | .map none => es = #[]
  | .map (some b) => ∃ c, h[b]? = some (.map es c)
  | _ => False

def mapPut (es : Array MapEntry) (c : Nat) (key v : Value) (r : Option (Nat × Value)) : Obj :=
  match r with
  | some (i, _) => .map (es.modify i fun e => { e with key := key, val := v }) c
  | none => .map (es.push { key := key, val := v, born := c }) (c + 1)

def entPut (es : Array MapEntry) (c : Nat) (key zero : Value) (r : Option (Nat × Value)) : Obj :=
  match r with
  | some (i, _) => .map (es.modify i fun e => { e with key := key }) c
  | none => .map (es.push { key := key, val := zero, born := c }) (c + 1)

def entVal (es : Array MapEntry) (c : Nat) (zero : Value) (r : Option (Nat × Value)) : Value :=
  match r with
  | some (i, v) => .tuple #[v, .int .i64 (((es[i]?).map (·.born)).getD 0)]
  | none => .tuple #[zero, .int .i64 c]

def mapDel (es : Array MapEntry) (c : Nat) (r : Option (Nat × Value)) : Obj :=
  match r with
  | some (i, _) => .map (es.eraseIdxIfInBounds i) c
  | none => .map es c

/-- What an operation does: to a frame of which ρ is known, to a heap. -/
def Kd.sem (P : Program) (k : Kd) (ρ : Env) (h : Heap) (K : Value → Heap → Prop) : Prop :=
  match k with
  | .mv x => ∃ v, ρ.ev x = some v ∧ K v h
  | .pick c a b => ∃ t v, ρ.ev c = some (.bool t) ∧ (if t then ρ.ev a = some v else ρ.ev b = some v) ∧ K v h
  | .new T cells => K (.pointer (some ⟨h.size, 0, none⟩)) (h.push (.cells cells T))
  | .box T x => ∃ v, ρ.ev x = some v ∧ K (.pointer (some ⟨h.size, 0, none⟩)) (h.push (.cells v.cells T))
  | .agg src => ∃ cs, Cells ρ src cs ∧ K (.agg cs.toArray) h
  | .bsl T src len => ∃ cs, Cells ρ src cs ∧ K (.slice (some ⟨h.size, 0, none⟩) len len) (h.push (.cells cs.toArray T))
  | .ld none a => ∃ ad v, ρ.ev a = some (.pointer (some ad)) ∧ heapCell h ad = some v ∧ K v h
  | .ld (some n) a => ∃ ad vs, ρ.ev a = some (.pointer (some ad)) ∧ heapCells h ad 0 n = some vs ∧ K (.agg vs.toArray) h
  | .st n a x => ∃ ad v h', ρ.ev a = some (.pointer (some ad)) ∧ ρ.ev x = some v ∧ v.cells.size = n ∧ storeList ad v.cells.toList 0 h = some h' ∧ K undef h'
  | .nilc x => ∃ v, ρ.ev x = some v ∧ (match v with | .pointer (some _) => True | .func (.func _) _ _ => True | _ => False) ∧ K v h
  | .bin op t x y => ∃ u v r, ρ.ev x = some u ∧ ρ.ev y = some v ∧ (∀ w : World, w.heap = h → (do eqGuard op t x y u v; binOp op t u v).run P w = .ok r w) ∧ K r h
  | .bini op x y => ∃ k n k' m r, ρ.ev x = some (.int k n) ∧ ρ.ev y = some (.int k' m) ∧ (isShift op = true ∨ k = k') ∧ intBin op k n m = some r ∧ K r h
  | .eqs neg fl x y => ∃ u v b, ρ.ev x = some (.agg u) ∧ ρ.ev y = some (.agg v) ∧ EqC fl u.toList v.toList b ∧ K (.bool (b != neg)) h
  | .un op x => ∃ u r, ρ.ev x = some u ∧ (∀ w, (Op.unary op u).run P w = .ok r w) ∧ K r h
  | .cv k x => ∃ k' n, ρ.ev x = some (.int k' n) ∧ K (.int k (k.wrap n)) h
  | .fa off x => ∃ ad, ρ.ev x = some (.pointer (some ad)) ∧ K (.pointer (some (ad.add off))) h
  | .fld ag n off x => ∃ cs v, ρ.ev x = some (.agg cs) ∧ (if ag then v = .agg (cs.extract off (off + n)) else cs[off]? = some v) ∧ K v h
  | .ia sz x i => ∃ ad len cap k n, ρ.ev x = some (.slice (some ad) len cap) ∧ ρ.ev i = some (.int k n) ∧ 0 ≤ n ∧ n < len ∧ K (.pointer (some (ad.add (n.toNat * sz)))) h
  | .iaa len sz x i => ∃ ad k n, ρ.ev x = some (.pointer (some ad)) ∧ ρ.ev i = some (.int k n) ∧ 0 ≤ n ∧ n < len ∧ K (.pointer (some (ad.add (n.toNat * sz)))) h
  | .sl sz x lo hi mx => ∃ a len cap l u m, ρ.ev x = some (.slice a len cap) ∧ sliceLo mx ρ cap = some m ∧ m ≤ cap ∧ (mx.isSome = true → hi.isSome = true) ∧
      sliceLo hi ρ len = some u ∧ (hi.isSome = true → u ≤ m) ∧ sliceLo lo ρ 0 = some l ∧ (lo.isSome = true → l ≤ u) ∧
      K (.slice (if m = l then a else a.map (·.add (l * sz))) (u - l) (m - l)) h
  | .ln x => ∃ a n c, ρ.ev x = some (.slice a n c) ∧ K (.int .i64 n) h
  | .lns x => ∃ s, ρ.ev x = some (.string s) ∧ K (.int .i64 s.size) h
  | .lnm x => ∃ r, ρ.ev x = some (.map r) ∧ (match r with | none => K (.int .i64 0) h | some r => ∃ es c, h[r]? = some (.map es c) ∧ K (.int .i64 es.size) h)
  | .ap T sz bytes zero x y => ∃ a n c v m, ρ.ev x = some (.slice a n c) ∧ ρ.ev y = some v ∧ lenVal v = some m ∧ (n + m) * bytes ≤ 2 ^ 47 ∧ 0 < bytes ∧
      (if n + m ≤ c then ∃ vs h', firstList h sz m v = some vs ∧ storeAt a (n * sz) vs h h' ∧ K (.slice a (n + m) c) h'
       else ∃ us vs, firstList h sz n (.slice a n c) = some us ∧ firstList h sz m v = some vs ∧
         ∀ c', n + m ≤ c' → K (.slice (some ⟨h.size, 0, none⟩) (n + m) c') (h.push (.cells (us.toArray ++ vs.toArray ++ Builtin.zeroCells zero (c' - (n + m))) T)))
  | .cmp sc neg x y => ∃ u v b, ρ.ev x = some u ∧ ρ.ev y = some v ∧ scalEq sc u v = some b ∧ K (.bool (b != neg)) h
  | .cap x => ∃ a n c, ρ.ev x = some (.slice a n c) ∧ K (.int .i64 c) h
  | .lkp ok kt zero x i => ∃ m key es r, ρ.ev x = some m ∧ ρ.ev i = some key ∧ mapOf h m es ∧ KeyAt P kt es key r ∧
      K (if ok then .tuple #[(r.map (·.2)).getD zero, .bool r.isSome] else (r.map (·.2)).getD zero) h
  | .idx x i => ∃ s k n b, ρ.ev x = some (.string s) ∧ ρ.ev i = some (.int k n) ∧ 0 ≤ n ∧ s[n.toNat]? = some b ∧ K (.int .u8 b.toNat) h
  | .mm mx x y => ∃ k n k' m, ρ.ev x = some (.int k n) ∧ ρ.ev y = some (.int k' m) ∧ K (.int k (if mx then (if m > n then m else n) else (if m < n then m else n))) h
  | .sls x lo hi => ∃ s l u, ρ.ev x = some (.string s) ∧ sliceLo hi ρ s.size = some u ∧ (hi.isSome = true → u ≤ s.size) ∧ sliceLo lo ρ 0 = some l ∧ (lo.isSome = true → l ≤ u) ∧ K (.string (s.extract l u)) h
  | .ent x => ∃ r m since seen last es c stamp e, ρ.ev x = some (.pointer (some ⟨r, 0, none⟩)) ∧ h[r]? = some (.mapIter (some m) since seen last) ∧ seen.back? = some stamp ∧ h[m]? = some (.map es c) ∧ c = last ∧
      es.find? (·.born == stamp) = some e ∧ K (.tuple #[e.key, e.val]) h
  | .mkm => K (.map (some h.size)) (h.push (.map #[] 0))
  | .mup kt m k v => ∃ b es c key val r, ρ.ev m = some (.map (some b)) ∧ ρ.ev k = some key ∧ ρ.ev v = some val ∧ h[b]? = some (.map es c) ∧ KeyAt P kt es key r ∧ K undef (h.setIfInBounds b (mapPut es c key val r))
  | .mpe kt zero m k => ∃ b es c key r, ρ.ev m = some (.map (some b)) ∧ ρ.ev k = some key ∧ h[b]? = some (.map es c) ∧ KeyAt P kt es key r ∧ K (entVal es c zero r) (h.setIfInBounds b (entPut es c key zero r))
  | .ens m s v => ∃ b es c kk born val i, ρ.ev m = some (.map (some b)) ∧ ρ.ev s = some (.int kk born) ∧ ρ.ev v = some val ∧ h[b]? = some (.map es c) ∧ es.findIdx? (fun e => (e.born : Int) == born) = some i ∧
      K undef (h.setIfInBounds b (.map (es.modify i fun e => { e with val := val }) c))
  | .del kt m k => ∃ b es c key r, ρ.ev m = some (.map (some b)) ∧ ρ.ev k = some key ∧ h[b]? = some (.map es c) ∧ KeyAt P kt es key r ∧ K (.tuple #[]) (h.setIfInBounds b (mapDel es c r))
  | .rng x => ∃ b es c, ρ.ev x = some (.map (some b)) ∧ h[b]? = some (.map es c) ∧ K (.pointer (some ⟨h.size, 0, none⟩)) (h.push (.mapIter (some b) c #[] c))
  | .nxt x => ∃ r m since seen last es c, ρ.ev x = some (.pointer (some ⟨r, 0, none⟩)) ∧ h[r]? = some (.mapIter (some m) since seen last) ∧ h[m]? = some (.map es c) ∧
      (!seen.isEmpty && !es.isEmpty && es.all (·.born ≥ last)) = false ∧
      (∀ e ∈ es.toList, seen.contains e.born = false → K (.tuple #[.bool true, e.key, e.val]) (h.setIfInBounds r (.mapIter (some m) since (seen.push e.born) c))) ∧
      ((∀ e ∈ es.toList, seen.contains e.born = false → since ≤ e.born) → K (.tuple #[.bool false]) h)
  | .mks T sz bytes zero l c => ∃ n m : Nat, ρ.ev l = some (.int .i64 n) ∧ ρ.ev c = some (.int .i64 m) ∧ n ≤ m ∧ m * bytes ≤ 2 ^ 47 ∧ m ≤ 2 ^ 47 ∧
      K (.slice (some ⟨h.size, 0, none⟩) n m) (h.push (.cells (Builtin.zeroCells zero m) T))
  | .cpy sz x y => ∃ a n c v m vs h', ρ.ev x = some (.slice a n c) ∧ ρ.ev y = some v ∧ lenVal v = some m ∧ firstList h sz (Nat.min m n) v = some vs ∧ storeAt a 0 vs h h' ∧ K (.int .i64 (Nat.min m n : Nat)) h'
  | .clr zero x => ∃ a n c h', ρ.ev x = some (.slice a n c) ∧ (if n = 0 then h' = h else storeAt a 0 (Builtin.zeroCells zero n).toList h h') ∧ K (.tuple #[]) h'
  | .ext x i => ∃ vs v, ρ.ev x = some (.tuple vs) ∧ vs[i]? = some v ∧ K v h
  | .call f args => ∃ t cap vs, ρ.ev f = some (.func t #[] cap) ∧ ρ.evs args = some vs ∧ CallV P t cap vs h K
  | .mki t x => ∃ v, ρ.ev x = some v ∧ K (.iface t v) h
  | .mkf f captured => ∃ vs, ρ.evs captured = some vs ∧ K (.func (.func f) #[] vs.toArray) h
  | .raw o => ∀ a w N, Agrees a ρ N → w.heap = h → ∃ v w', (execOp a.eval o).run P w = .ok (.value v) w' ∧ Keeps w w' ∧ K v w'.heap

structure COp where
  dst : Option Nat
  k : Kd
  guard : Option (Nat × Bool)

/-- The operations one behind the other. -/
def runL (P : Program) : List COp → Env → Heap → (Env → Heap → Prop) → Prop
  | [], ρ, h, K => K ρ h
  | c :: r, ρ, h, K => match c.guard with
    | none => c.k.sem P ρ h fun v h' => runL P r (ρ.put c.dst v) h' K
    | some (t, b) => ∃ g, ρ.lk t = some (.bool g) ∧ (g = b → c.k.sem P ρ h fun v h' => runL P r (ρ.put c.dst v) h' K) ∧ (g ≠ b → runL P r (ρ.put c.dst undef) h K)

end Go.SL

set_option linter.unusedSimpArgs false
namespace Go.SL
open Go

def isZ : Src → Bool
  | .z _ => true
  | .c .. => false

def setSrc (l : List Src) (off : Nat) (x : Operand) (n : Nat) : List Src :=
  l.zipIdx.map fun (s, i) => if off ≤ i ∧ i < off + n then .c x (i - off) n else s

def buildSrc (place : Nat → Option (Nat × Nat)) : List Src → List (Nat × Operand) → Option (List Src)
  | l, [] => some l
  | l, (i, x) :: r => match place i with
    | none => none
    | some (off, n) => if off + n ≤ l.length ∧ n ≠ 0 ∧ ((l.drop off).take n).all isZ = true then buildSrc place (setSrc l off x n) r else none

def isAggT (P : Program) (t : TypeId) : Option Bool :=
  match P.underlying t with
  | some (.struct _) | some (.array _ _) => some true
  | some _ => some false
  | none => none

/-- The cells of a plain type, if it is one whose '==' asks each of them. -/
def goF (P : Program) (f : TypeId → Option (List Fl)) : List Field → Nat → Option (List Fl)
  | [], _ => some []
  | fd :: r, off => if fd.name ≠ "_" ∧ fd.offset = off then match f fd.type, P.info? fd.type with
      | some a, some i => if i.size = a.length then (goF P f r (off + a.length)).map (a ++ ·) else none
      | _, _ => none
    else none

def flatF (P : Program) : Nat → TypeId → Option (List Fl)
  | 0, _ => none
  | d + 1, t => match P.underlying t with
    | some (.int _) => some [.i]
    | some .bool => some [.b]
    | some .string => some [.s]
    | some (.struct fs) => if P.stoodInHeld t then none else goF P (flatF P d) fs.toList 0
    | _ => none

def isIntT : TypeDesc → Bool
  | .int _ => true
  | _ => false

def scalT : TypeDesc → Option Sc
  | .bool => some .b
  | .string => some .s
  | .pointer _ => some .p
  | .slice _ => some .sl
  | .map _ _ => some .m
  | .func _ _ _ => some .f
  | _ => none

def cleanCall (P : Program) (o : Oper) (c : Call) : Option Kd :=
  match c.callee with
  | .value f => some (.call f c.args.toList)
  | .builtin b => match b, c.args.toList, c.argTypes.toList with
    | .len, [x], [t] => match P.underlying t with
      | some (.slice _) => some (.ln x)
      | some .string => some (.lns x)
      | some (.map _ _) => some (.lnm x)
      | _ => some (.raw o)
    | .append, [x, y], [t, u] => match P.underlying t, P.underlying u with
      | some (.slice e), some d => if isIntT d then some (.raw o) else match P.info? e with
        | some i => match i.zero with
          | some z => if z.cells.size = i.size then some (.ap e i.size i.bytes z.cells x y) else none
          | none => none
        | none => none
      | _, _ => some (.raw o)
    | .cap, [x], [t] => match P.underlying t with
      | some (.slice _) => some (.cap x)
      | _ => some (.raw o)
    | .min, [x, y], _ => some (.mm false x y)
    | .max, [x, y], _ => some (.mm true x y)
    | .delete, [m, k], t :: _ => match P.underlying t with
      | some (.map kt _) => some (.del kt m k)
      | _ => some (.raw o)
    | .clear, [x], [t] => match P.underlying t with
      | some (.slice e) => match (P.info? e).bind (·.zero) with
        | some z => some (.clr z.cells x)
        | none => some (.raw o)
      | _ => some (.raw o)
    | .copy, [x, y], t :: _ => match P.underlying t with
      | some (.slice e) => match P.info? e with
        | some i => some (.cpy i.size x y)
        | none => some (.raw o)
      | _ => some (.raw o)
    | _, _, _ => some (.raw o)
  | _ => some (.raw o)

def cleanK (P : Program) (o : Oper) : Option Kd :=
  match o.op with
  | .move x | .assign x => some (.mv x)
  | .pick c a b => some (.pick c a b)
  | .alloc T => (P.info? T).bind fun i => i.zero.map fun z => .new T z.cells
  | .box T x => some (.box T x)
  | .build t parts => match P.info? t, P.underlying t with
    | some it, some (.struct fs) => match it.zero, fs.toList.mapM (fun f => (P.info? f.type).map fun i => (f.offset, i.size)) with
      | some z, some ss => (buildSrc (ss.toArray[·]?) (z.cells.toList.map .z) parts.toList).map .agg
      | _, _ => none
    | some it, some (.array _ e) => match it.zero, P.info? e with
      | some z, some i => (buildSrc (fun j => some (j * i.size, i.size)) (z.cells.toList.map .z) parts.toList).map .agg
      | _, _ => none
    | _, _ => none
  | .buildSlice t len parts => match P.underlying t with
    | some (.slice e) => match P.info? e with
      | some i => match i.zero with
        | some z => if len * i.size ≤ 2 ^ 24 then
            (buildSrc (fun j => some (j * i.size, i.size)) (((Array.range (len * i.size)).map fun j => z.cells[j % z.cells.size]!).toList.map .z) parts.toList).map fun s => .bsl e s len
          else none
        | none => none
      | none => none
    | _ => none
  | .load t a => match isAggT P t, P.info? t with
    | some true, some i => some (.ld (some i.size) a)
    | some false, some _ => some (.ld none a)
    | _, _ => none
  | .store t a x => (P.info? t).map fun i => .st i.size a x
  | .nilCheck x => some (.nilc x)
  | .binOp op t x y _ => match P.underlying t with
    | some d => if isIntT d then some (.bini op x y) else match scalT d, op with
      | some sc, .eql => some (.cmp sc false x y)
      | some sc, .neq => some (.cmp sc true x y)
      | _, _ => match op, d with
      | .eql, .struct _ => match flatF P 20 t with
        | some fl => if P.eqGuardType P.depth t then none else some (.eqs false fl x y)
        | none => some (.bin op t x y)
      | .neq, .struct _ => match flatF P 20 t with
        | some fl => if P.eqGuardType P.depth t then none else some (.eqs true fl x y)
        | none => some (.bin op t x y)
      | _, _ => some (.bin op t x y)
    | none => none
  | .unOp op _ x => some (.un op x)
  | .convert s d x => match P.underlying s, P.underlying d with
    | some _, some (.int k) => some (.cv k x)
    | _, _ => some (.raw o)
  | .fieldAddr s x f => match P.underlying s with
    | some (.struct fs) => match fs[f]? with
      | some fd => match P.info? fd.type with
        | some i => if i.size = 0 then none else some (.fa fd.offset x)
        | none => none
      | none => none
    | _ => none
  | .field s x f => match P.underlying s with
    | some (.struct fs) => match fs[f]? with
      | some fd => match isAggT P fd.type, P.info? fd.type with
        | some b, some i => some (.fld b i.size fd.offset x)
        | _, _ => none
      | none => none
    | _ => none
  | .indexAddr t x i => match P.underlying t with
    | some (.slice e) => (P.info? e).map fun inf => .ia inf.size x i
    | some (.array len e) => (P.info? e).map fun inf => .iaa len inf.size x i
    | _ => none
  | .slice t x lo hi mx => match P.underlying t with
    | some (.slice e) => (P.info? e).map fun inf => .sl inf.size x lo hi mx
    | some .string => if mx.isNone then some (.sls x lo hi) else some (.raw o)
    | _ => some (.raw o)
  | .index t x i => match P.underlying t with
    | some .string => some (.idx x i)
    | _ => some (.raw o)
  | .lookup t x i ok => match P.underlying t with
    | some (.map kt et) => match (P.info? et).bind (·.zero) with
      | some z => some (.lkp ok kt z x i)
      | none => some (.raw o)
    | _ => some (.raw o)
  | .mapUpdate t m k v | .insert t m k v => match P.underlying t with
    | some (.map kt _) => some (.mup kt m k v)
    | _ => some (.raw o)
  | .mapEntry t m k => match P.underlying t with
    | some (.map kt et) => match (P.info? et).bind (·.zero) with
      | some z => some (.mpe kt z m k)
      | none => some (.raw o)
    | _ => some (.raw o)
  | .entryStore _ m s v => some (.ens m s v)
  | .makeMap _ none => some .mkm
  | .range t x => match P.underlying t with
    | some (.map _ _) => some (.rng x)
    | _ => some (.raw o)
  | .next it false => some (.nxt it)
  | .entry it => some (.ent it)
  | .makeSlice t l c => match P.underlying t with
    | some (.slice e) => match P.info? e with
      | some i => match i.zero with
        | some z => if z.cells.size = i.size then some (.mks e i.size i.bytes z.cells l c) else some (.raw o)
        | none => some (.raw o)
      | none => some (.raw o)
    | _ => some (.raw o)
  | .extract x i => some (.ext x i)
  | .makeInterface t x => match P.underlying t with
    | some (.interface _) => none
    | some _ => some (.mki t x)
    | none => none
  | .makeFunc fn first captured => match fn with
    | .func f => if first.size = 0 then some (.mkf f captured.toList) else none
    | _ => none
  | .call c => cleanCall P o c
  | _ => some (.raw o)

section
variable {P : Program} {o : Oper} {a : Act} {w w' : World} {next : Act → World → Prop} {Q : Exit → Act → World → Prop} {v : Value}

/-- What an operation's run comes to. -/
def RunOk (P : Program) (s : Sem Next) (w : World) (Kt : Value → Heap → Prop) : Prop :=
  match s.run P w with
  | .ok (.value v) w' => Keeps w w' ∧ Kt v w'.heap
  | .ok .skip w' => Keeps w w' ∧ Kt undef w'.heap
  | .ok (.enter f args) w' => w' = w ∧ Calls P f args w' fun e w'' => ∃ v, e = .returned v ∧ Keeps w w'' ∧ Kt v w''.heap
  | .ok (.round l fn tmps as bd) w' => w' = w ∧ RoundIn Fence.wide 0 P l fn tmps as bd w' fun e w'' => ∃ v, e = .returned v ∧ Keeps w w'' ∧ Kt v w''.heap
  | _ => False

theorem RunOk.value {s : Sem Next} {Kt : Value → Heap → Prop} (hr : s.run P w = .ok (.value v) w') (hk : Keeps w w') (hn : Kt v w'.heap) : RunOk P s w Kt := by
  simp only [RunOk, hr]; exact ⟨hk, hn⟩

theorem RunOk.same {s : Sem Next} {Kt : Value → Heap → Prop} (hr : s.run P w = .ok (.value v) w) (hn : Kt v w.heap) : RunOk P s w Kt :=
  .value hr (Keeps.refl w) hn

theorem RunOk.skip {s : Sem Next} {Kt : Value → Heap → Prop} (hr : s.run P w = .ok .skip w') (hk : Keeps w w') (hn : Kt undef w'.heap) : RunOk P s w Kt := by
  simp only [RunOk, hr]; exact ⟨hk, hn⟩

/-- All functions, any depth; within a loop's round ('some l') or not. -/
def Fw (ro : Option Nat) : Fence := { Fence.wide with round := ro }
theorem Fw_room (ro : Option Nat) (n : Nat) : (Fw ro).room n := fun _ h => by simp [Fw, Fence.wide] at h
theorem Fw_fenced (ro : Option Nat) (m : Machine) : m.fenced P (Fw ro) = m.fenced P Fence.wide := rfl
theorem calls_Fw {ro : Option Nat} {n : Nat} {f : FuncId} {args : Array Value} {w : World} {R : Ending → World → Prop} (h : Calls P f args w R) : CallsIn (Fw ro) n P f args w R :=
  (callsIn_wide (n := n)).2 h
theorem round_Fw {ro : Option Nat} {n m l fn : Nat} {tmps : Array Value} {as bd : Code} {w : World} {R : Ending → World → Prop} (h : RoundIn Fence.wide m P l fn tmps as bd w R) : RoundIn (Fw ro) n P l fn tmps as bd w R :=
  ⟨trivial, fun c cs _ => h.2 c cs (room_wide _)⟩
theorem RunOk.no_defer {Kt : Value → Heap → Prop} (h : RunOk P (execOp a.eval o) w Kt) : ∀ c, o.op ≠ .defer c := by
  intro c e
  unfold RunOk at h
  have he : execOp a.eval o = (do pure (.defer (← resolve a.eval c o.type)) : Sem Next) := by unfold execOp; rw [e]
  rw [he, Sem.run_bind] at h
  cases hr : (resolve a.eval c o.type).run P w <;> simp [hr, Result.andThen] at h

theorem RunOk.wp {ro : Option Nat} {n : Nat} {Kt : Value → Heap → Prop} (h : RunOk P (execOp a.eval o) w Kt) (hn : ∀ v w', Keeps w w' → Kt v w'.heap → next (a.put o.dst v) w') : o.wpIn (Fw ro) n P a w next Q := by
  refine ⟨fun _ _ => trivial, ?_⟩
  have hd : o.semAt (Fw ro).round a.eval = execOp a.eval o := Oper.semAt_eq _ _ _ h.no_defer
  rw [hd]
  unfold RunOk at h
  split at h
  · rename_i v w' hr; rw [hr]; exact hn _ _ h.1 h.2
  · rename_i w' hr; rw [hr]; exact hn _ _ h.1 h.2
  · rename_i f args w' hr
    rw [hr]
    obtain ⟨rfl, h⟩ := h
    exact ⟨fun h => by simp [Fw, Fence.wide] at h, calls_Fw (h.mono fun e w'' he => by obtain ⟨v, rfl, hk, hv⟩ := he; exact hn _ _ hk hv)⟩
  · rename_i l fn tmps as bd w' hr
    rw [hr]
    obtain ⟨rfl, h⟩ := h
    exact ⟨fun h => by simp [Fw, Fence.wide] at h, (round_Fw h).mono fun e w'' he => by obtain ⟨v, rfl, hk, hv⟩ := he; exact hn _ _ hk hv⟩
  · exact h.elim

/-! What keeps all but rows. -/
theorem frozen_push (h : Heap) (o : Obj) (a : Addr) (ho : ∀ c T fz, o = .cells c T fz → fz = (0, 0)) : heapFrozen (h.push o) a = heapFrozen h a := by
  unfold heapFrozen
  by_cases e : a.block = h.size
  · have e1 : (h.push o)[a.block]? = some o := by rw [e]; simp
    have e2 : h[a.block]? = none := by rw [e]; simp
    rw [e1, e2]
    cases o <;> simp
    rename_i c T fz
    obtain rfl := ho c T fz rfl
    simp
  · rw [Array.getElem?_push, if_neg e]

theorem push_old {h : Heap} {b : Nat} {o x : Obj} (hb : h[b]? = some x) : (h.push o)[b]? = some x := by
  rw [Array.getElem?_push, if_neg]; exact hb
  rintro rfl; rw [Array.getElem?_eq_none (Nat.le_refl _)] at hb; cases hb
theorem dfr_set {h : Heap} {a : Addr} {v : Value} {b : Nat} {ds : Option (List Deferred)} (hb : h[b]? = some (.deferred ds)) : (setHeapCell h a v)[b]? = some (.deferred ds) := by
  unfold setHeapCell
  rw [Array.getElem?_modify]
  split
  · rw [hb]; rfl
  · exact hb
theorem dfr_store {a : Addr} {b : Nat} {ds : Option (List Deferred)} : ∀ {vs : List Value} {i : Nat} {h h' : Heap}, storeList a vs i h = some h' → h[b]? = some (.deferred ds) → h'[b]? = some (.deferred ds)
  | [], _, h, h', e, hb => by simp [storeList] at e; rw [← e]; exact hb
  | v :: r, i, h, h', e, hb => by
    simp only [storeList] at e
    split at e
    · split at e
      · split at e
        · simp at e
        · exact dfr_store e (dfr_set hb)
      · simp at e
    · simp at e
theorem dfr_storeAt {a : Option Addr} {b : Nat} {ds : Option (List Deferred)} {k : Nat} {vs : List Value} {h h' : Heap} (e : storeAt a k vs h h') (hb : h[b]? = some (.deferred ds)) : h'[b]? = some (.deferred ds) := by
  cases a with
  | none => simp only [storeAt] at e; rw [e]; exact hb
  | some a => exact dfr_store e hb
theorem Keeps.push (w : World) (o : Obj) (ho : ∀ c T fz, o = .cells c T fz → fz = (0, 0)) : Keeps w { w with heap := w.heap.push o } :=
  ⟨rfl, rfl, rfl, Nat.le_refl _, fun _ _ h => push_old h⟩
theorem Keeps.cells (w : World) (c : Array Value) (T : TypeId) : Keeps w { w with heap := w.heap.push (.cells c T) } :=
  Keeps.push w _ fun _ _ _ h => by cases h; rfl

theorem frozen_setCell (h : Heap) (a x : Addr) (v : Value) : heapFrozen (setHeapCell h a v) x = heapFrozen h x := by
  unfold heapFrozen setHeapCell
  rw [Array.getElem?_modify]
  by_cases e : a.block = x.block
  · rw [if_pos e]
    cases h[x.block]? with
    | none => rfl
    | some o => cases o <;> rfl
  · rw [if_neg e]

theorem frozen_store {a : Addr} : ∀ {vs : List Value} {i : Nat} {h h' : Heap}, storeList a vs i h = some h' → ∀ x, heapFrozen h' x = heapFrozen h x
  | [], _, h, h', e, x => by simp [storeList] at e; rw [e]
  | v :: r, i, h, h', e, x => by
    simp only [storeList] at e
    split at e
    · split at e
      · split at e
        · simp at e
        · rw [frozen_store e x, frozen_setCell]
      · simp at e
    · simp at e

theorem frozen_storeAt {a : Option Addr} {k : Nat} {vs : List Value} {h h' : Heap} (e : storeAt a k vs h h') (x : Addr) : heapFrozen h' x = heapFrozen h x := by
  cases a with
  | none => simp only [storeAt] at e; rw [e]
  | some a => exact frozen_store e x

theorem Keeps.store {w : World} {a : Addr} {vs : List Value} {i : Nat} {h' : Heap} (e : storeList a vs i w.heap = some h') : Keeps w { w with heap := h' } :=
  ⟨rfl, rfl, rfl, Nat.le_refl _, fun _ _ hb => dfr_store e hb⟩
theorem Keeps.storeAt {w : World} {a : Option Addr} {vs : List Value} {k : Nat} {h' : Heap} (e : SL.storeAt a k vs w.heap h') : Keeps w { w with heap := h' } :=
  ⟨rfl, rfl, rfl, Nat.le_refl _, fun _ _ hb => dfr_storeAt e hb⟩

/-- What is put in the place of a row that is none of cells. -/
theorem Keeps.obj {w : World} {b : Nat} {o o' : Obj} (h : w.heap[b]? = some o) (ho : (∀ c T fz, o ≠ .cells c T fz) ∧ ∀ ds, o ≠ .deferred ds) (ho' : ∀ c T fz, o' ≠ .cells c T fz) (n : Nat) (hn : w.drawn ≤ n) :
    Keeps w { w with heap := w.heap.setIfInBounds b o', drawn := n } := by
  refine ⟨rfl, rfl, rfl, hn, fun c ds hc => ?_⟩
  have : b ≠ c := fun e => by subst e; rw [h] at hc; cases hc; exact ho.2 _ rfl
  simp only []; rw [Array.getElem?_setIfInBounds_ne this]; exact hc

theorem run_v {s : Sem Value} (h : s.run P w = .ok v w') : (do pure (Next.value (← s)) : Sem Next).run P w = .ok (.value v) w' := by
  simp [Sem.run_bind, h, Result.andThen]

theorem run_u {s : Sem Unit} (h : s.run P w = .ok () w') : (do s; pure Next.skip : Sem Next).run P w = .ok .skip w' := by
  simp [Sem.run_bind, h, Result.andThen]

theorem run_typeInfo {t : TypeId} {i : TypeInfo} (h : P.info? t = some i) : (typeInfo t).run P w = .ok i w := by
  simp [typeInfo, Sem.run_bind, Result.andThen, h]

theorem run_underlying {t : TypeId} {d : TypeDesc} (h : P.underlying t = some d) : (underlying t).run P w = .ok d w := by
  simp [underlying, Sem.run_bind, Result.andThen, h]

theorem run_sizeOf {t : TypeId} {i : TypeInfo} (h : P.info? t = some i) : (sizeOf t).run P w = .ok i.size w := by
  simp [sizeOf, Sem.run_bind, Result.andThen, run_typeInfo h]

theorem run_zeroValue {t : TypeId} {i : TypeInfo} {z : Value} (h : P.info? t = some i) (hz : i.zero = some z) : (zeroValue t).run P w = .ok z w := by
  simp [zeroValue, Sem.run_bind, Result.andThen, run_typeInfo h, hz]

theorem run_isAgg {t : TypeId} {b : Bool} (h : isAggT P t = some b) : (isAgg t).run P w = .ok b w := by
  unfold isAggT at h
  split at h
  · rename_i fs h1; simp [isAgg, Sem.run_bind, Result.andThen, run_underlying h1]; simpa using h
  · rename_i fs h1; simp [isAgg, Sem.run_bind, Result.andThen, run_underlying h1]; simpa using h
  · rename_i d h1 h2 h3
    simp [isAgg, Sem.run_bind, Result.andThen, run_underlying h3]
    cases d <;> simp_all
  · simp at h

theorem cell_eq (w : World) (ad : Addr) : w.cell? ad = heapCell w.heap ad := rfl
theorem frozen_eq (w : World) (ad : Addr) : w.frozen? ad = heapFrozen w.heap ad := rfl
theorem setCell_heap (w : World) (ad : Addr) (v : Value) : (w.setCell ad v).heap = setHeapCell w.heap ad v := rfl

theorem run_loadC {ad : Addr} {v : Value} (h : heapCell w.heap ad = some v) : (load ad).run P w = .ok v w := by
  simp [load, Sem.run, cell_eq, h]

theorem run_loadCells (ad : Addr) : ∀ (n i : Nat) (acc : Array Value) (vs : List Value), heapCells w.heap ad i n = some vs →
    (loadCellsFrom ad i n acc).run P w = .ok (acc ++ vs.toArray) w
  | 0, i, acc, vs, h => by simp [heapCells] at h; subst h; simp [loadCellsFrom]
  | n + 1, i, acc, vs, h => by
    simp only [heapCells] at h
    cases h1 : heapCell w.heap (ad.add i) with
    | none => simp [h1] at h
    | some v =>
      cases h2 : heapCells w.heap ad (i + 1) n with
      | none => simp [h1, h2] at h
      | some ws =>
        simp [h1, h2] at h
        subst h
        simp only [loadCellsFrom, Sem.run_bind, run_loadC h1, Result.andThen, run_loadCells ad n (i + 1) (acc.push v) ws h2]
        simp

theorem run_storeC {ad : Addr} {v u : Value} (hv : isOne v = true) (h : heapCell w.heap ad = some u) (hf : heapFrozen w.heap ad = false) :
    (store ad v).run P w = .ok () (w.setCell ad v) := by
  cases v <;> simp [isOne] at hv <;> simp [store, Sem.run, cell_eq, h, frozen_eq, hf]

theorem run_storeCells (ad : Addr) : ∀ (vs : List Value) (i : Nat) (w : World) (h' : Heap), storeList ad vs i w.heap = some h' →
    (storeCells ad vs i).run P w = .ok () { w with heap := h' }
  | [], i, w, h', h => by simp [storeList] at h; subst h; simp [storeCells]
  | v :: r, i, w, h', h => by
    simp only [storeList] at h
    split at h
    · rename_i hv
      split at h
      · rename_i u hu
        split at h
        · simp at h
        · rename_i hf
          have ih := run_storeCells ad r (i + 1) (w.setCell (ad.add i) v) h' (by rw [setCell_heap]; exact h)
          simp only [storeCells, Sem.run_bind, run_storeC hv hu (by simpa using hf), Result.andThen, ih]
          rfl
      · simp at h
    · simp at h

theorem run_loadVar {t : TypeId} {i : TypeInfo} {ad : Addr} {vs : List Value} (hA : isAggT P t = some true) (hi : P.info? t = some i)
    (h : heapCells w.heap ad 0 i.size = some vs) : (loadVar t ad).run P w = .ok (.agg vs.toArray) w := by
  simp [loadVar, Sem.run_bind, Result.andThen, run_isAgg hA, run_sizeOf hi, loadCells, run_loadCells ad _ _ _ _ h]

theorem run_loadVar1 {t : TypeId} {ad : Addr} {v : Value} (hA : isAggT P t = some false)
    (h : heapCell w.heap ad = some v) : (loadVar t ad).run P w = .ok v w := by
  simp [loadVar, Sem.run_bind, Result.andThen, run_isAgg hA, run_loadC h]

theorem run_storeVar {t : TypeId} {i : TypeInfo} {ad : Addr} {v : Value} {h' : Heap} (hi : P.info? t = some i) (hn : v.cells.size = i.size)
    (h : storeList ad v.cells.toList 0 w.heap = some h') : (storeVar t ad v).run P w = .ok () { w with heap := h' } := by
  simp [storeVar, Sem.run_bind, Result.andThen, run_sizeOf hi, hn, run_storeCells ad _ _ _ _ h]

theorem run_newRow {T : TypeId} {cs : Array Value} : (newRow T cs).run P w = .ok ⟨w.heap.size, 0, none⟩ { w with heap := w.heap.push (.cells cs T) } := by
  simp [newRow, Sem.run_bind, Result.andThen]

theorem run_asIntOf {k : IntKind} {n : Int} : (asIntOf (.int k n)).run P w = .ok (k, n) w := by simp [asIntOf]

/-! ### Composite values -/

def evS (a : Act) : Src → Value
  | .z v => v
  | .c x j _ => (a.eval x).cells.getD j undef

theorem Cells.spec {a : Act} {ρ : Env} {N : Nat} (ha : Agrees a ρ N) {l : List Src} {cs : List Value} (h : Cells ρ l cs) :
    cs = l.map (evS a) ∧ ∀ x j n, Src.c x j n ∈ l → (a.eval x).cells.size = n := by
  induction h with
  | nil => simp
  | z h ih => obtain ⟨h1, h2⟩ := ih; subst h1; simp [evS]; exact h2
  | c hx hn hu h ih =>
    obtain ⟨h1, h2⟩ := ih
    subst h1
    have e := ha.ev hx
    subst e
    refine ⟨by simp [evS, hu], fun x j n hm => ?_⟩
    rcases List.mem_cons.1 hm with hm | hm
    · cases hm; exact hn
    · exact h2 x j n hm

theorem setSrc_length (l : List Src) (off : Nat) (x : Operand) (n : Nat) : (setSrc l off x n).length = l.length := by simp [setSrc]

theorem setSrc_get (l : List Src) (off : Nat) (x : Operand) (n i : Nat) :
    (setSrc l off x n)[i]? = (l[i]?).map fun s => if off ≤ i ∧ i < off + n then .c x (i - off) n else s := by
  simp [setSrc, List.getElem?_map]
  cases l[i]? <;> simp

theorem setSrc_keeps {l : List Src} {off : Nat} {x : Operand} {n : Nat} (hz : ((l.drop off).take n).all isZ = true) {s : Src} (hs : isZ s = false) (hm : s ∈ l) :
    s ∈ setSrc l off x n := by
  obtain ⟨i, hi⟩ := List.mem_iff_getElem?.1 hm
  refine List.mem_iff_getElem?.2 ⟨i, ?_⟩
  rw [setSrc_get, hi]
  by_cases hc : off ≤ i ∧ i < off + n
  · exfalso
    have hmem : s ∈ (l.drop off).take n := by
      refine List.mem_iff_getElem?.2 ⟨i - off, ?_⟩
      rw [List.getElem?_take, List.getElem?_drop]
      simp [show i - off < n by omega, show off + (i - off) = i by omega, hi]
    have := List.all_eq_true.1 hz s hmem
    rw [hs] at this
    cases this
  · simp [hc]

theorem buildSrc_keeps {place : Nat → Option (Nat × Nat)} : ∀ {parts : List (Nat × Operand)} {l l' : List Src}, buildSrc place l parts = some l' →
    ∀ s, isZ s = false → s ∈ l → s ∈ l'
  | [], l, l', h, s, hs, hm => by simp [buildSrc] at h; subst h; exact hm
  | (i, x) :: r, l, l', h, s, hs, hm => by
    simp only [buildSrc] at h
    split at h
    · simp at h
    · split at h
      · rename_i off n _ hc
        exact buildSrc_keeps h s hs (setSrc_keeps hc.2.2 hs hm)
      · simp at h

theorem foldl_set (vs : List Value) (off : Nat) : ∀ (k : Nat) (cs : Array Value) (i : Nat), off + k + vs.length ≤ cs.size →
    ((vs.zipIdx k).foldl (fun (cs : Array Value) (p : Value × Nat) => cs.setIfInBounds (off + p.2) p.1) cs)[i]? =
      if off + k ≤ i ∧ i < off + k + vs.length then vs[i - (off + k)]? else cs[i]? := by
  induction vs with
  | nil => intro k cs i _; simp; omega
  | cons v r ih =>
    intro k cs i hb
    simp only [List.length_cons] at hb
    simp only [List.zipIdx_cons, List.foldl_cons]
    rw [ih (k + 1) _ i (by simp; omega)]
    simp only [List.length_cons]
    by_cases h1 : off + (k + 1) ≤ i ∧ i < off + (k + 1) + r.length
    · rw [if_pos h1, if_pos (by omega)]
      have : i - (off + k) = (i - (off + (k + 1))) + 1 := by omega
      rw [this]; simp
    · rw [if_neg h1]
      by_cases h2 : i = off + k
      · subst h2
        rw [if_pos (by omega)]
        simp [show off + k < cs.size by omega]
      · rw [if_neg (by omega)]
        rw [Array.getElem?_setIfInBounds_ne (by omega)]

theorem fill_src {a : Act} {place : Nat → Option (Nat × Nat)} : ∀ {parts : List (Nat × Operand)} {l l' : List Src}, buildSrc place l parts = some l' →
    (∀ x j n, Src.c x j n ∈ l' → (a.eval x).cells.size = n) →
    Instr.fill place (l.map (evS a)).toArray (parts.map fun (i, x) => (i, a.eval x)) = some (l'.map (evS a)).toArray
  | [], l, l', h, _ => by simp [buildSrc] at h; subst h; simp [Instr.fill]
  | (i, x) :: r, l, l', h, hsz => by
    simp only [buildSrc] at h
    split at h
    · simp at h
    · rename_i off n hp
      split at h
      · rename_i hc
        obtain ⟨h1, h2, h3⟩ := hc
        have hmem : Src.c x 0 n ∈ setSrc l off x n := by
          refine List.mem_iff_getElem?.2 ⟨off, ?_⟩
          rw [setSrc_get]
          have : off < l.length := by omega
          simp [List.getElem?_eq_getElem this]; omega
        have hs := hsz x 0 n (buildSrc_keeps h _ rfl hmem)
        have ih := fill_src (a := a) h hsz
        simp only [List.map_cons, Instr.fill, hp]
        rw [if_neg (by simp [hs]; omega)]
        rw [← ih]
        congr 1
        apply Array.ext_getElem?
        intro j
        have hf := foldl_set (a.eval x).cells.toList off 0 (l.map (evS a)).toArray j (by simp [hs]; omega)
        have hz : (a.eval x).cells.zipIdx.foldl (fun (cs : Array Value) (p : Value × Nat) => cs.setIfInBounds (off + p.2) p.1) (l.map (evS a)).toArray =
            ((a.eval x).cells.toList.zipIdx 0).foldl (fun (cs : Array Value) (p : Value × Nat) => cs.setIfInBounds (off + p.2) p.1) (l.map (evS a)).toArray := by
          rw [← Array.foldl_toList]; simp
        rw [hz, hf]
        simp only [Nat.add_zero, Array.length_toList, hs, List.getElem?_toArray, List.getElem?_map, setSrc_get]
        by_cases hj : off ≤ j ∧ j < off + n
        · rw [if_pos hj]
          have hjl : j < l.length := by omega
          simp [List.getElem?_eq_getElem hjl, hj, evS]
          rw [Array.getElem?_eq_getElem (by omega)]; simp
        · rw [if_neg hj]
          cases hlj : l[j]? <;> simp [hj]
      · simp at h

end
end Go.SL

set_option linter.unusedSimpArgs false
set_option linter.unusedVariables false
namespace Go.SL
open Go

section
variable {P : Program} {w : World}

theorem run_getO {r : Nat} {o : Obj} (h : w.heap[r]? = some o) (ho : ∀ c T fz, o ≠ .cells c T fz) : (getObj r).run P w = .ok o w := by
  cases o <;> first | exact absurd rfl (ho _ _ _) | simp [getObj, Sem.run, h]
theorem run_setO {r : Nat} {o o' : Obj} (h : w.heap[r]? = some o) (ho : ∀ c T fz, o ≠ .cells c T fz) : (setObj r o').run P w = .ok () { w with heap := w.heap.setIfInBounds r o' } := by
  cases o <;> first | exact absurd rfl (ho _ _ _) | simp [setObj, Sem.run, h]
theorem run_map {r c : Nat} {es : Array MapEntry} (h : w.heap[r]? = some (.map es c)) : (getObj r).run P w = .ok (.map es c) w := run_getO h (by simp)
theorem run_setmap {r c : Nat} {es : Array MapEntry} {o' : Obj} (h : w.heap[r]? = some (.map es c)) : (setObj r o').run P w = .ok () { w with heap := w.heap.setIfInBounds r o' } := run_setO h (by simp)
theorem Keeps.map {b c c' : Nat} {es es' : Array MapEntry} (h : w.heap[b]? = some (.map es c)) : Keeps w { w with heap := w.heap.setIfInBounds b (.map es' c') } :=
  Keeps.obj h (by simp) (by simp) w.drawn (Nat.le_refl _)

theorem run_newO {o : Obj} : (newObj o).run P w = .ok w.heap.size { w with heap := w.heap.push o } := by simp [newObj, Sem.run]

theorem run_lookup {t kt et : TypeId} {z : Value} {m key : Value} {es : Array MapEntry} {r : Option (Nat × Value)} {ok : Bool} (ht : P.underlying t = some (.map kt et)) (hz : (P.info? et).bind (·.zero) = some z)
    (hm : mapOf w.heap m es) (hk : KeyAt P kt es key r) : (Instr.lookup t m key ok).run P w = .ok (if ok then .tuple #[(r.map (·.2)).getD z, .bool r.isSome] else (r.map (·.2)).getD z) w := by
  obtain ⟨i, hi, hzi⟩ := Option.bind_eq_some_iff.1 hz
  obtain ⟨h1, h2, _⟩ := hk
  unfold Instr.lookup
  simp only [Sem.run_bind, run_underlying ht, Result.andThen]
  cases m <;> simp only [mapOf] at hm
  rename_i o
  cases o with
  | none =>
    simp only [] at hm
    subst hm
    have h2' : ∀ w : World, (Instr.findKey kt key []).run P w = .ok r w := h2
    cases r with
    | none => cases ok <;> simp [run_zeroValue hi hzi, Sem.run_bind, Result.andThen, h1, h2']
    | some x => cases ok <;> simp [Sem.run_bind, Result.andThen, h1, h2']
  | some b =>
    obtain ⟨c, hb⟩ := hm
    simp only [run_map hb, Sem.run_bind, Sem.run_pure, Result.andThen, h1, h2]
    cases r with
    | none => cases ok <;> simp [run_zeroValue hi hzi, Sem.run_bind, Result.andThen]
    | some x => cases ok <;> simp

theorem run_keep {old new : Value} (h : Instr.sameBits 10000 old new = true) : (Instr.keyThatStays old new).run P w = .ok new w := by
  simp [Instr.keyThatStays, h]

theorem run_mapUpdate {t kt et : TypeId} {b c : Nat} {key v : Value} {es : Array MapEntry} {r : Option (Nat × Value)} (ht : P.underlying t = some (.map kt et))
    (hb : w.heap[b]? = some (.map es c)) (hk : KeyAt P kt es key r) : (Instr.mapUpdate t (.map (some b)) key v).run P w = .ok () { w with heap := w.heap.setIfInBounds b (mapPut es c key v r) } := by
  obtain ⟨h1, h2, h3⟩ := hk
  unfold Instr.mapUpdate
  simp only [Sem.run_bind, run_underlying ht, Result.andThen, run_map hb, h1, h2]
  cases r with
  | none => simp only [run_setmap hb, mapPut]
  | some x => simp only [Sem.run_bind, run_keep (h3 x.1 x.2 rfl), Result.andThen, run_setmap hb, mapPut]

theorem run_mapEntry {t kt et : TypeId} {z : Value} {b c : Nat} {key : Value} {es : Array MapEntry} {r : Option (Nat × Value)} (ht : P.underlying t = some (.map kt et)) (hz : (P.info? et).bind (·.zero) = some z)
    (hb : w.heap[b]? = some (.map es c)) (hk : KeyAt P kt es key r) : (Instr.mapEntry t (.map (some b)) key).run P w = .ok (entVal es c z r) { w with heap := w.heap.setIfInBounds b (entPut es c key z r) } := by
  obtain ⟨i, hi, hzi⟩ := Option.bind_eq_some_iff.1 hz
  obtain ⟨h1, h2, h3⟩ := hk
  unfold Instr.mapEntry
  simp only [Sem.run_bind, run_underlying ht, Result.andThen, run_map hb, h1, h2]
  cases r with
  | none => simp only [Sem.run_bind, run_zeroValue hi hzi, Result.andThen, run_setmap hb, entPut, entVal, Sem.run_pure, goInt]
  | some x => simp only [Sem.run_bind, run_keep (h3 x.1 x.2 rfl), Result.andThen, run_setmap hb, entPut, entVal, Sem.run_pure, goInt]

theorem run_entryStore {t b c i : Nat} {born : Int} {k : IntKind} {v : Value} {es : Array MapEntry} (hb : w.heap[b]? = some (.map es c)) (hi : es.findIdx? (fun e => (e.born : Int) == born) = some i) :
    (Instr.entryStore t (.map (some b)) (.int k born) v).run P w = .ok () { w with heap := w.heap.setIfInBounds b (.map (es.modify i fun e => { e with val := v }) c) } := by
  unfold Instr.entryStore
  simp only [Sem.run_bind, run_map hb, Result.andThen, asInt, asIntOf, Sem.run_pure, hi, run_setmap hb]

theorem run_delete {t kt et ty : TypeId} {ts : List TypeId} {b c : Nat} {key : Value} {es : Array MapEntry} {r : Option (Nat × Value)} (ht : P.underlying t = some (.map kt et))
    (hb : w.heap[b]? = some (.map es c)) (hk : KeyAt P kt es key r) : (Builtin.delete_ (t :: ts).toArray ty #[.map (some b), key]).run P w = .ok (.tuple #[]) { w with heap := w.heap.setIfInBounds b (mapDel es c r) } := by
  obtain ⟨h1, h2, h3⟩ := hk
  unfold Builtin.delete_
  simp only [List.getElem?_toArray, List.getElem?_cons_zero, show (#[Value.map (some b), key] : Array Value)[0]? = some (.map (some b)) from rfl, show (#[Value.map (some b), key] : Array Value)[1]? = some key from rfl, Sem.run_bind, Sem.run_pure, Result.andThen, run_underlying ht, run_map hb, h1, h2]
  cases r with
  | none => simp only [Sem.run_bind, Result.andThen, Sem.run_pure, run_setmap hb, mapDel]
  | some x => simp only [Sem.run_bind, Result.andThen, Sem.run_pure, run_setmap hb, mapDel]

theorem run_range {t kt et : TypeId} {b c : Nat} {es : Array MapEntry} (ht : P.underlying t = some (.map kt et)) (hb : w.heap[b]? = some (.map es c)) :
    (Instr.range t (.map (some b))).run P w = .ok (.pointer (some ⟨w.heap.size, 0, none⟩)) { w with heap := w.heap.push (.mapIter (some b) c #[] c) } := by
  unfold Instr.range
  simp only [Sem.run_bind, run_underlying ht, Result.andThen, run_map hb, Sem.run_pure, run_newO]

theorem run_entry {r m c last : Nat} {since stamp : Nat} {seen : Array Nat} {es : Array MapEntry} {e : MapEntry} (hr : w.heap[r]? = some (.mapIter (some m) since seen last)) (hs : seen.back? = some stamp)
    (hm : w.heap[m]? = some (.map es c)) (hc : c = last) (he : es.find? (·.born == stamp) = some e) : (Instr.entry (.pointer (some ⟨r, 0, none⟩))).run P w = .ok (.tuple #[e.key, e.val]) w := by
  subst hc
  unfold Instr.entry
  simp [Sem.run_bind, run_getO hr (by simp), Result.andThen, hs, run_map hm, he]

theorem run_choose {q : Question} : ∃ n w', (choose q).run P w = .ok n w' ∧ w'.heap = w.heap ∧ Keeps w w' ∧ (n = 0 ∧ q.forced = true ∨ ∃ t, n = q.cut t) := by
  by_cases h : q.forced = true
  · exact ⟨0, w, by simp [choose, Sem.run, h], rfl, Keeps.refl _, .inl ⟨rfl, h⟩⟩
  · refine ⟨q.cut (w.tape w.drawn q), { w with drawn := w.drawn + 1 }, by simp [choose, Sem.run, h], rfl, ⟨rfl, rfl, rfl, Nat.le_succ _, fun _ _ h => h⟩, .inr ⟨_, rfl⟩⟩

theorem run_next {r m c last since : Nat} {seen : Array Nat} {es : Array MapEntry} {ty : TypeId} {K : Value → Heap → Prop} (hr : w.heap[r]? = some (.mapIter (some m) since seen last))
    (hm : w.heap[m]? = some (.map es c)) (hg : (!seen.isEmpty && !es.isEmpty && es.all (·.born ≥ last)) = false)
    (h1 : ∀ e ∈ es.toList, seen.contains e.born = false → K (.tuple #[.bool true, e.key, e.val]) (w.heap.setIfInBounds r (.mapIter (some m) since (seen.push e.born) c)))
    (h2 : (∀ e ∈ es.toList, seen.contains e.born = false → since ≤ e.born) → K (.tuple #[.bool false]) w.heap) :
    ∃ v w', (Instr.next (.pointer (some ⟨r, 0, none⟩)) false ty).run P w = .ok v w' ∧ Keeps w w' ∧ K v w'.heap := by
  unfold Instr.next
  simp only [Sem.run_bind, run_getO hr (by simp), Result.andThen, run_map hm, hg, Bool.false_eq_true, if_false]
  generalize hleft : es.filter (fun e => !seen.contains e.born) = left
  generalize hold : left.filter (·.born < since) = old
  generalize hnew : left.filter (·.born ≥ since) = new
  generalize hcs : (if old.isEmpty then #[none] else #[]) ++ (old ++ new).map some = cands
  have hmem : ∀ e, some e ∈ cands → e ∈ es.toList ∧ seen.contains e.born = false := by
    intro e he
    subst hcs
    have : e ∈ old ++ new := by
      rcases Array.mem_append.1 he with h | h
      · split at h <;> simp at h
      · simpa using h
    have : e ∈ left := by
      rcases Array.mem_append.1 this with h | h
      · subst hold; exact (Array.mem_filter.1 h).1
      · subst hnew; exact (Array.mem_filter.1 h).1
    subst hleft
    obtain ⟨a, b⟩ := Array.mem_filter.1 this
    exact ⟨by simpa using a, by simpa using b⟩
  have hnone : none ∈ cands → ∀ e ∈ es.toList, seen.contains e.born = false → since ≤ e.born := by
    intro hn e he hs
    subst hcs
    rcases Array.mem_append.1 hn with h | h
    · split at h
      · rename_i hemp
        have : old = #[] := by simpa using hemp
        rcases Nat.lt_or_ge e.born since with h' | h'
        · exfalso
          have : e ∈ old := by
            subst hold hleft
            exact Array.mem_filter.2 ⟨Array.mem_filter.2 ⟨by simpa using he, by simp only [hs]; rfl⟩, by simpa using h'⟩
          rw [‹old = #[]›] at this
          simp at this
        · exact h'
      · simp at h
    · simp at h
  have hpos : 0 < cands.size := by
    subst hcs
    by_cases h : old.isEmpty = true
    · simp [h]; omega
    · have : old.size ≠ 0 := by simpa using h
      simp; omega
  obtain ⟨n, w', hrun, hheap, hkp, hn⟩ := run_choose (P := P) (w := w) (q := .mapNext cands.size)
  have hlt : n < cands.size := by
    rcases hn with ⟨rfl, _⟩ | ⟨t, rfl⟩
    · exact hpos
    · exact Nat.mod_lt _ hpos
  simp only [hrun, Array.getElem?_eq_getElem hlt]
  have hin : cands[n] ∈ cands := Array.getElem_mem hlt
  cases hc : cands[n] with
  | none =>
    rw [hc] at hin
    exact ⟨_, _, rfl, hkp, by rw [hheap]; exact h2 (hnone hin)⟩
  | some e =>
    rw [hc] at hin
    obtain ⟨a, b⟩ := hmem e hin
    have hr' : w'.heap[r]? = some (.mapIter (some m) since seen last) := by rw [hheap]; exact hr
    have := h1 e a b
    refine ⟨_, { w' with heap := w'.heap.setIfInBounds r (.mapIter (some m) since (seen.push e.born) c) }, ?_, ?_, by simp only []; rw [hheap]; exact this⟩
    · simp only [Sem.run_bind, run_setO hr' (by simp), Result.andThen, Sem.run_pure]
    · exact hkp.trans (Keeps.obj hr' (by simp) (by simp) w'.drawn (Nat.le_refl _))

theorem wrap_small {n : Int} (h1 : -9223372036854775808 ≤ n) (h2 : n ≤ 9223372036854775807) : IntKind.i64.wrap n = n := by
  unfold IntKind.wrap; simp [IntKind.min, IntKind.max, IntKind.bits, IntKind.signed]; omega

theorem run_makeSlice {t e : TypeId} {i : TypeInfo} {z : Value} {n m : Nat} (ht : P.underlying t = some (.slice e)) (hi : P.info? e = some i) (hz : i.zero = some z) (hsz : z.cells.size = i.size)
    (hn : n ≤ m) (hb : m * i.bytes ≤ 2 ^ 47) (hm : m ≤ 2 ^ 47) : (Instr.makeSlice t (.int .i64 n) (.int .i64 m)).run P w =
      .ok (.slice (some ⟨w.heap.size, 0, none⟩) n m) { w with heap := w.heap.push (.cells (Builtin.zeroCells z.cells m) e) } := by
  have wr : ∀ k : Nat, k ≤ m → IntKind.i64.wrap (k : Int) = k := by
    intro k hk
    have hm' : m ≤ 140737488355328 := hm
    exact wrap_small (by omega) (by omega)
  have h1 : (i.bytes : Int) * m ≤ 140737488355328 := by have : i.bytes * m ≤ 140737488355328 := by rw [Nat.mul_comm]; exact hb
                                                        have := Int.ofNat_le.2 this
                                                        rw [Int.natCast_mul] at this
                                                        exact this
  have hz' : Builtin.zeroCells z.cells m = (Array.range (m * i.size)).map ((if m * i.size = 0 then #[] else z.cells)[· % (if m * i.size = 0 then #[] else z.cells).size]!) := by
    unfold Builtin.zeroCells
    rw [hsz]
    by_cases h0 : m * i.size = 0
    · simp [h0]
    · simp [h0, hsz]
  have hroom : ∀ n : Nat, (askRoom n).run P w = .ok () w := by intro n; unfold askRoom; split <;> rfl
  have hlarge : ∀ k : Nat, k ≤ m → (decide ((k : Int) < 0) || decide ((i.bytes : Int) * k > 2 ^ 48)) = false := by
    intro k hk
    have e48 : (2 : Int) ^ 48 = 281474976710656 := by decide
    rw [e48]
    have : i.bytes * k ≤ i.bytes * m := Nat.mul_le_mul_left _ hk
    have := Int.ofNat_le.2 this
    rw [Int.natCast_mul, Int.natCast_mul] at this
    simp; omega
  unfold Instr.makeSlice
  simp only [Sem.run_bind, run_underlying ht, Result.andThen, asInt, asIntOf, Sem.run_pure, run_typeInfo hi, wr n hn, wr m (Nat.le_refl _)]
  rw [if_neg (by have := hlarge m (Nat.le_refl _); rw [this]; simp only [Bool.false_or, Bool.or_eq_true, decide_eq_true_eq]; omega)]
  simp only [Sem.run_bind, Result.andThen, run_sizeOf hi, Int.toNat_natCast, hroom]
  by_cases h0 : m * i.size = 0
  · simp only [if_pos h0, Sem.run_bind, Result.andThen, Sem.run_pure, hz', run_newRow]
  · simp only [if_neg h0, Sem.run_bind, run_zeroValue hi hz, Result.andThen, Sem.run_pure, hz', run_newRow]

end
end Go.SL

set_option linter.unusedSimpArgs false
set_option linter.unusedVariables false
namespace Go.SL
open Go

section
variable {P : Program}

theorem map_parts {a : Act} (parts : Array (Nat × Operand)) :
    (parts.map fun (p : Nat × Operand) => (p.1, a.eval p.2)).toList = parts.toList.map fun (p : Nat × Operand) => (p.1, a.eval p.2) := by simp

theorem map_z (l : List Value) (a : Act) : (l.map Src.z).map (evS a) = l := by
  induction l with
  | nil => rfl
  | cons v r ih => simp only [List.map_cons, evS, ih]

theorem slice_lo {a : Act} {ρ : Env} {N : Nat} (ha : Agrees a ρ N) {x : Option Operand} {d y : Nat} {code : BoundsCode} {r : Nat} {w : World}
    (h : sliceLo x ρ d = some r) (hy : x.isSome = true → r ≤ y) :
    (match x.map a.eval with | some v => Instr.sliceBound v y code | none => pure d : Sem Nat).run P w = .ok r w := by
  cases x with
  | none => simp [sliceLo] at h; subst h; simp
  | some o =>
    simp only [sliceLo] at h
    split at h
    · rename_i k n hev
      split at h
      · rename_i h0
        simp at h
        subst h
        have := hy rfl
        simp only [Option.map_some, ha.ev hev, Instr.sliceBound, asIntOf, Sem.run_bind, Sem.run_pure, Result.andThen]
        rw [if_pos ⟨h0, by omega⟩]
        simp
      · simp at h
    · simp at h

theorem run_slice {a : Act} {ρ : Env} {N : Nat} (ha : Agrees a ρ N) {t e : TypeId} {i : TypeInfo} {x : Operand} {lo hi mx : Option Operand} {b : Option Addr} {len cap l u m : Nat} {w : World}
    (hu : P.underlying t = some (.slice e)) (hI : P.info? e = some i) (hx : ρ.ev x = some (.slice b len cap))
    (hm : sliceLo mx ρ cap = some m) (hmc : m ≤ cap) (hmh : mx.isSome = true → hi.isSome = true)
    (hh : sliceLo hi ρ len = some u) (hum : hi.isSome = true → u ≤ m) (hl : sliceLo lo ρ 0 = some l) (hlu : lo.isSome = true → l ≤ u) :
    (Instr.sliceAt t (a.eval x) (lo.map a.eval) (hi.map a.eval) (mx.map a.eval)).run P w =
      .ok (.slice (if m = l then b else b.map (·.add (l * i.size))) (u - l) (m - l)) w := by
  have hM := fun code => slice_lo (P := P) ha (code := code) (y := cap) (w := w) hm (fun _ => hmc)
  have hH := fun code => slice_lo (P := P) ha (code := code) (y := m) (w := w) hh hum
  have hL := fun code => slice_lo (P := P) ha (code := code) (y := u) (w := w) hl hlu
  have hb : (Instr.sliceBounds true len cap (lo.map a.eval) (hi.map a.eval) (mx.map a.eval)).run P w = .ok (l, u, m) w := by
    unfold Instr.sliceBounds
    cases mx with
    | none =>
      cases hi with
      | none =>
        cases lo with
        | none => simp_all [sliceLo]
        | some lo => simp_all [sliceLo, Sem.run_bind, Result.andThen]
      | some hi =>
        cases lo with
        | none => simp_all [sliceLo, Sem.run_bind, Result.andThen]
        | some lo => simp_all [sliceLo, Sem.run_bind, Result.andThen]
    | some mx =>
      cases hi with
      | none => simp at hmh
      | some hi =>
        cases lo with
        | none => simp_all [sliceLo, Sem.run_bind, Result.andThen]
        | some lo => simp_all [sliceLo, Sem.run_bind, Result.andThen]
  simp only [Instr.sliceAt, Sem.run_bind, run_underlying hu, Result.andThen, Instr.slice, ha.ev hx, hb, run_sizeOf hI, Sem.run_pure]

theorem run_sls {a : Act} {ρ : Env} {N : Nat} (ha : Agrees a ρ N) {t : TypeId} {x : Operand} {lo hi : Option Operand} {s : ByteArray} {l u : Nat} {w : World}
    (hu : P.underlying t = some .string) (hx : ρ.ev x = some (.string s)) (hh : sliceLo hi ρ s.size = some u) (hus : hi.isSome = true → u ≤ s.size) (hl : sliceLo lo ρ 0 = some l) (hlu : lo.isSome = true → l ≤ u) :
    (Instr.sliceAt t (a.eval x) (lo.map a.eval) (hi.map a.eval) (none.map a.eval)).run P w = .ok (.string (s.extract l u)) w := by
  have hH := fun code => slice_lo (P := P) ha (code := code) (y := s.size) (w := w) hh hus
  have hL := fun code => slice_lo (P := P) ha (code := code) (y := u) (w := w) hl hlu
  have hb : (Instr.sliceBounds false s.size s.size (lo.map a.eval) (hi.map a.eval) none).run P w = .ok (l, u, s.size) w := by
    unfold Instr.sliceBounds
    cases hi with
    | none =>
      cases lo with
      | none => simp_all [sliceLo]
      | some lo => simp_all [sliceLo, Sem.run_bind, Result.andThen]
    | some hi =>
      cases lo with
      | none => simp_all [sliceLo, Sem.run_bind, Result.andThen]
      | some lo => simp_all [sliceLo, Sem.run_bind, Result.andThen]
  simp only [Instr.sliceAt, Instr.slice, Sem.run_bind, run_underlying hu, Result.andThen, ha.ev hx, Option.map_none, hb, Option.isSome_none, Bool.false_eq_true, if_false, Sem.run_pure]

theorem run_firstCells {sz n : Nat} {v : Value} {vs : List Value} {w : World} (h : firstList w.heap sz n v = some vs) :
    (Builtin.firstCells sz n v).run P w = .ok vs.toArray w := by
  unfold firstList at h
  split at h
  · simp [Builtin.firstCells, loadCells, run_loadCells _ _ _ _ _ h]
  · simp at h; subst h; simp [Builtin.firstCells]
  · simp at h; subst h
    simp [Builtin.firstCells]
    rw [← Array.toList_inj]; simp
  · simp at h

theorem run_lenOf {v : Value} {n : Nat} {w : World} (h : lenVal v = some n) : (Builtin.lenOf v).run P w = .ok n w := by
  cases v <;> simp [lenVal] at h <;> simp [Builtin.lenOf, h]

theorem growBy_le (n : Nat) : ∀ (k c : Nat), c < n → Builtin.growBy n k c ≤ n + (n + 768) / 4
  | 0, c, h => by simp only [Builtin.growBy]; omega
  | k + 1, c, h => by
    simp only [Builtin.growBy]
    rw [if_neg (by omega)]
    by_cases h2 : c + (c + 768) / 4 < n
    · exact growBy_le n k _ h2
    · cases k with
      | zero => simp [Builtin.growBy]; try omega
      | succ k => simp only [Builtin.growBy]; rw [if_pos (by omega)]; omega

theorem nextcap_le {n c : Nat} (h : ¬ n ≤ c) : Builtin.nextslicecap n c ≤ 2 * n := by
  unfold Builtin.nextslicecap
  split
  · omega
  · split
    · omega
    · have := growBy_le n 4 c (by omega)
      omega

theorem Keeps.drewC (w : World) (c : Array Value) (T : TypeId) : Keeps w { heap := w.drew.heap.push (.cells c T), tape := w.drew.tape, drawn := w.drew.drawn, os := w.drew.os, output := w.drew.output } :=
  ⟨rfl, rfl, rfl, Nat.le_succ _, fun _ _ h => push_old (show w.drew.heap[_]? = _ from h)⟩

theorem run_append {t u e : Nat} {ty : TypeId} {d : TypeDesc} {i : TypeInfo} {z : Value} {a : Option Addr} {n c m : Nat} {v : Value} {w : World} {K : Value → Heap → Prop}
    (ht : P.underlying t = some (.slice e)) (hu : P.underlying u = some d) (hd : ∀ k, d ≠ .int k) (hi : P.info? e = some i) (hz : i.zero = some z)
    (hm : lenVal v = some m) (hb : (n + m) * i.bytes ≤ 2 ^ 47) (hb0 : 0 < i.bytes)
    (hs : if n + m ≤ c then ∃ vs h', firstList w.heap i.size m v = some vs ∧ storeAt a (n * i.size) vs w.heap h' ∧ K (.slice a (n + m) c) h'
       else ∃ us vs, firstList w.heap i.size n (.slice a n c) = some us ∧ firstList w.heap i.size m v = some vs ∧
         ∀ c', n + m ≤ c' → K (.slice (some ⟨w.heap.size, 0, none⟩) (n + m) c') (w.heap.push (.cells (us.toArray ++ vs.toArray ++ Builtin.zeroCells z.cells (c' - (n + m))) e))) :
    ∃ r w', (Builtin.append_ #[t, u] ty #[.slice a n c, v]).run P w = .ok r w' ∧ Keeps w w' ∧ K r w'.heap := by
  have hN : (n + m) * i.bytes ≤ 140737488355328 := hb
  simp [Builtin.append_, Sem.run_bind, run_underlying ht, run_underlying hu, Result.andThen, run_sizeOf hi, run_lenOf hm]
  by_cases hc : n + m ≤ c
  · rw [if_pos hc] at hs
    obtain ⟨vs, h', hf, hst, hk⟩ := hs
    simp only [if_pos hc, run_firstCells hf]
    cases a with
    | none => simp only [storeAt] at hst; subst hst; exact ⟨_, _, rfl, Keeps.refl _, hk⟩
    | some ad =>
      simp only [storeAt] at hst
      refine ⟨_, { w with heap := h' }, ?_, Keeps.store hst, hk⟩
      simp [Sem.run_bind, Result.andThen, run_storeCells _ _ _ _ _ hst]
  · rw [if_neg hc] at hs
    obtain ⟨us, vs, hf1, hf2, hk⟩ := hs
    have hcap := nextcap_le hc
    have h1 : Builtin.nextslicecap (n + m) c * i.bytes ≤ 281474976710656 := by
      have := Nat.mul_le_mul_right i.bytes hcap
      rw [Nat.mul_assoc] at this
      omega
    have h2 : ¬ i.bytes = 0 := by omega
    simp only [if_neg hc, run_typeInfo hi, h2, and_false, if_false, if_neg (show ¬ 281474976710656 < Builtin.nextslicecap (n + m) c * i.bytes by omega), Question.forced, Bool.false_eq_true,
      run_firstCells (w := w.drew) hf1, run_firstCells (w := w.drew) hf2, run_zeroValue hi hz, run_newRow]
    refine ⟨_, _, rfl, Keeps.drewC w _ _, ?_⟩
    have := hk (Question.cut (.appendCap (n + m) c e) (w.tape w.drawn (.appendCap (n + m) c e))) (by simp [Question.cut])
    rw [Array.append_assoc] at this
    exact this

theorem run_clear {t e ty : TypeId} {z : Value} {a : Option Addr} {n c : Nat} {h' : Heap} {w : World} (ht : P.underlying t = some (.slice e)) (hz : (P.info? e).bind (·.zero) = some z)
    (hst : if n = 0 then h' = w.heap else storeAt a 0 (Builtin.zeroCells z.cells n).toList w.heap h') :
    Keeps w { w with heap := h' } ∧ (Builtin.clear_ #[t] ty #[.slice a n c]).run P w = .ok (.tuple #[]) { w with heap := h' } := by
  obtain ⟨i, hi, hzi⟩ := Option.bind_eq_some_iff.1 hz
  by_cases h0 : n = 0
  · subst h0
    rw [if_pos rfl] at hst
    subst hst
    refine ⟨Keeps.refl _, ?_⟩
    cases a <;> simp [Builtin.clear_, Sem.run_bind, run_underlying ht, Result.andThen]
  · rw [if_neg h0] at hst
    refine ⟨Keeps.storeAt hst, ?_⟩
    cases a with
    | none => simp only [storeAt] at hst; subst hst; simp [Builtin.clear_, Sem.run_bind, run_underlying ht, Result.andThen]
    | some ad =>
      simp only [storeAt] at hst
      have hs := run_storeCells (P := P) _ _ _ w _ hst
      have : ad.add 0 = ad := by simp [Addr.add]
      rw [this] at hs
      obtain ⟨n, rfl⟩ : ∃ m, n = m + 1 := ⟨n - 1, by omega⟩
      simp [Builtin.clear_, Sem.run_bind, run_underlying ht, Result.andThen, run_zeroValue hi hzi, hs]

theorem run_copy {t e ty : TypeId} {ts : List TypeId} {i : TypeInfo} {a : Option Addr} {n c m : Nat} {v : Value} {vs : List Value} {h' : Heap} {w : World} (ht : P.underlying t = some (.slice e)) (hi : P.info? e = some i)
    (hm : lenVal v = some m) (hf : firstList w.heap i.size (Nat.min m n) v = some vs) (hst : storeAt a 0 vs w.heap h') :
    (Builtin.copy_ (t :: ts).toArray ty #[.slice a n c, v]).run P w = .ok (.int .i64 (Nat.min m n : Nat)) { w with heap := h' } := by
  unfold Builtin.copy_
  simp only [List.getElem?_toArray, List.getElem?_cons_zero, show (#[Value.slice a n c, v] : Array Value)[0]? = some (.slice a n c) from rfl, show (#[Value.slice a n c, v] : Array Value)[1]? = some v from rfl,
    Sem.run_bind, Sem.run_pure, Result.andThen, run_underlying ht, run_lenOf hm, run_sizeOf hi, run_firstCells hf]
  cases a with
  | none => simp only [storeAt] at hst; subst hst; simp [goInt]
  | some ad =>
    simp only [storeAt] at hst
    have hs := run_storeCells (P := P) _ _ _ w _ hst
    have : ad.add 0 = ad := by simp [Addr.add]
    rw [this] at hs
    simp [Sem.run_bind, Result.andThen, hs, goInt]

theorem keeps_put {w : World} {b c : Nat} {es : Array MapEntry} {key v : Value} {r : Option (Nat × Value)} (h : w.heap[b]? = some (.map es c)) : Keeps w { w with heap := w.heap.setIfInBounds b (mapPut es c key v r) } := by
  cases r <;> exact Keeps.map h
theorem keeps_ent {w : World} {b c : Nat} {es : Array MapEntry} {key v : Value} {r : Option (Nat × Value)} (h : w.heap[b]? = some (.map es c)) : Keeps w { w with heap := w.heap.setIfInBounds b (entPut es c key v r) } := by
  cases r <;> exact Keeps.map h
theorem keeps_del {w : World} {b c : Nat} {es : Array MapEntry} {r : Option (Nat × Value)} (h : w.heap[b]? = some (.map es c)) : Keeps w { w with heap := w.heap.setIfInBounds b (mapDel es c r) } := by
  cases r <;> exact Keeps.map h

theorem run_fieldAt {s f : Nat} {fs : Array Field} {fd : Field} {i : TypeInfo} {ad : Addr} {w : World} (hu : P.underlying s = some (.struct fs)) (hf : fs[f]? = some fd)
    (hi : P.info? fd.type = some i) (h0 : ¬ i.size = 0) : (Instr.fieldAt s (.pointer (some ad)) f).run P w = .ok (.pointer (some (ad.add fd.offset))) w := by
  simp [Instr.fieldAt, Sem.run_bind, run_underlying hu, Result.andThen, hf, Instr.sureAddr, fieldPlace, run_sizeOf hi, h0]

theorem run_field {s f : Nat} {fs : Array Field} {fd : Field} {i : TypeInfo} {b : Bool} {cs : Array Value} {v : Value} {w : World} (hu : P.underlying s = some (.struct fs)) (hf : fs[f]? = some fd)
    (hA : isAggT P fd.type = some b) (hi : P.info? fd.type = some i) (hv : if b then v = .agg (cs.extract fd.offset (fd.offset + i.size)) else cs[fd.offset]? = some v) :
    (Instr.field s (.agg cs) f).run P w = .ok v w := by
  cases b
  · simp at hv
    simp [Instr.field, Sem.run_bind, run_underlying hu, Result.andThen, hf, part, run_isAgg hA, asAgg, hv]
  · simp at hv
    simp [Instr.field, Sem.run_bind, run_underlying hu, Result.andThen, hf, part, run_isAgg hA, asAgg, hv, run_sizeOf hi]

theorem run_indexAt {t e : Nat} {i : TypeInfo} {ad : Addr} {len cap : Nat} {k : IntKind} {n : Int} {w : World} (hu : P.underlying t = some (.slice e)) (hi : P.info? e = some i)
    (h0 : 0 ≤ n) (h1 : n < len) : (Instr.indexAt t (.slice (some ad) len cap) (.int k n)).run P w = .ok (.pointer (some (ad.add (n.toNat * i.size)))) w := by
  simp [Instr.indexAt, asIntOf, Sem.run_bind, run_underlying hu, Result.andThen, h0, h1, run_sizeOf hi]

theorem run_indexAtA {t e : Nat} {i : TypeInfo} {ad : Addr} {len : Nat} {k : IntKind} {n : Int} {w : World} (hu : P.underlying t = some (.array len e)) (hi : P.info? e = some i)
    (h0 : 0 ≤ n) (h1 : n < len) : (Instr.indexAt t (.pointer (some ad)) (.int k n)).run P w = .ok (.pointer (some (ad.add (n.toNat * i.size)))) w := by
  simp [Instr.indexAt, asIntOf, Sem.run_bind, run_underlying hu, Result.andThen, h0, h1, run_sizeOf hi, Instr.sureAddr]

theorem run_callFunc {f : Nat} {args : Array Value} {w : World} (h : (P.funcs[f]?.any fun fn => fn.body.isSome && fn.name != "runtime.NumGoroutine") = true) :
    (callFunc f args).run P w = .ok (.enter f args) w := by
  cases hf : P.funcs[f]? with
  | none => simp [hf] at h
  | some fn =>
    simp [hf] at h
    obtain ⟨h1, h2⟩ := h
    have h3 : fn.body.isNone = false := by cases hb : fn.body <;> simp_all
    have h4 : (fn.name == "runtime.NumGoroutine") = false := by simpa using h2
    simp only [callFunc, Sem.run_bind, run_program, Result.andThen, hf, h4, h3, Bool.false_eq_true, if_false, Sem.run_pure]

theorem run_mkI {t : Nat} {d : TypeDesc} {v : Value} {w : World} (hu : P.underlying t = some d) (hd : ∀ ms, d ≠ .interface ms) :
    (Instr.makeInterface t v).run P w = .ok (.iface t v) w := by
  cases d <;> simp_all [Instr.makeInterface, Sem.run_bind, run_underlying hu, Result.andThen]

theorem run_convInt {s d k k' : Nat} {ds : TypeDesc} {kk : IntKind} {k0 : IntKind} {n : Int} {w : World} (hs : P.underlying s = some ds) (hd : P.underlying d = some (.int kk)) :
    (convert s d (.int k0 n)).run P w = .ok (.int kk (kk.wrap n)) w := by
  simp only [convert, Sem.run_bind, run_underlying hs, run_underlying hd, Result.andThen]
  cases ds <;> simp [Conv.intToInt]

theorem EqC.len {fl : List Fl} {u v : List Value} {b : Bool} (h : EqC fl u v b) : u.length = fl.length ∧ v.length = fl.length := by
  induction h with
  | nil => simp
  | i _ ih => simp [ih.1, ih.2]
  | b _ ih => simp [ih.1, ih.2]
  | s _ ih => simp [ih.1, ih.2]

theorem EqC.split {fa : List Fl} : ∀ {fb : List Fl} {u v : List Value} {b : Bool}, EqC (fa ++ fb) u v b →
    ∃ b1 b2, EqC fa (u.take fa.length) (v.take fa.length) b1 ∧ EqC fb (u.drop fa.length) (v.drop fa.length) b2 ∧ b = (b1 && b2) := by
  induction fa with
  | nil => intro fb u v b h; exact ⟨true, b, by simpa using EqC.nil, by simpa using h, by simp⟩
  | cons f fa ih =>
    intro fb u v b h
    rw [List.cons_append] at h
    cases h with
    | i h => obtain ⟨b1, b2, h1, h2, rfl⟩ := ih h; exact ⟨_, b2, .i h1, h2, by simp [Bool.and_assoc]⟩
    | b h => obtain ⟨b1, b2, h1, h2, rfl⟩ := ih h; exact ⟨_, b2, .b h1, h2, by simp [Bool.and_assoc]⟩
    | s h => obtain ⟨b1, b2, h1, h2, rfl⟩ := ih h; exact ⟨_, b2, .s h1, h2, by simp [Bool.and_assoc]⟩

/-- The value of a plain type out of its cells. -/
def asVal (agg : Bool) (u : List Value) : Value := if agg then .agg u.toArray else u.headD undef

theorem flat_agg {d t : Nat} {fl : List Fl} (h : flatF P d t = some fl) : isAggT P t = some true ∨ (isAggT P t = some false ∧ fl.length = 1) := by
  cases d with
  | zero => simp [flatF] at h
  | succ d =>
    simp only [flatF] at h
    unfold isAggT
    split at h
    · rename_i h1; simp [h1] at h ⊢; simp [← h]
    · rename_i h1; simp [h1] at h ⊢; simp [← h]
    · rename_i h1; simp [h1] at h ⊢; simp [← h]
    · rename_i h1; simp [h1]
    · simp at h

theorem run_part {t off : Nat} {i : TypeInfo} {fl : List Fl} {ag : Bool} {u : List Value} {w : World} (hA : isAggT P t = some ag) (hi : P.info? t = some i) (hsz : i.size = fl.length) (h1 : ag = false → fl.length = 1)
    (hl : off + fl.length ≤ u.length) : (part t u.toArray off).run P w = .ok (asVal ag ((u.drop off).take fl.length)) w := by
  cases ag
  · have h1 := h1 rfl
    have hlt : off < u.length := by omega
    have hd : (u.drop off).take fl.length = [u[off]] := by rw [h1, List.drop_eq_getElem_cons hlt]; rfl
    simp only [part, Sem.run_bind, run_isAgg hA, Result.andThen, Bool.false_eq_true, if_false, List.getElem?_toArray, List.getElem?_eq_getElem hlt, Sem.run_pure, hd, asVal, List.headD]
  · simp only [part, Sem.run_bind, run_isAgg hA, Result.andThen, if_true, run_sizeOf hi, Sem.run_pure, asVal, hsz]
    congr 2
    rw [← Array.toList_inj]; simp [List.drop_take]

theorem run_flat : ∀ (d : Nat) (t : TypeId) (fl : List Fl), flatF P d t = some fl → ∀ (ag : Bool), isAggT P t = some ag → ∀ (u v : List Value) (b : Bool), EqC fl u v b → ∀ (e : Nat) (w : World), d ≤ e →
    (Op.equalIn e t (asVal ag u) (asVal ag v)).run P w = .ok b w := by
  intro d
  induction d with
  | zero => intro t fl h; simp [flatF] at h
  | succ d ih =>
    intro t fl h ag hA u v b hE e w he
    obtain ⟨e, rfl⟩ : ∃ e', e = e' + 1 := ⟨e - 1, by omega⟩
    simp only [flatF] at h
    split at h
    · rename_i k hu
      simp at h; subst h
      have : ag = false := by simp [isAggT, hu] at hA; exact hA
      subst this
      cases hE with
      | i h => cases h; simp only [asVal, Bool.false_eq_true, if_false, List.headD]; rw [run_equalIn_int w e t _ _ _ _ hu]; simp; rfl
    · rename_i hu
      simp at h; subst h
      have : ag = false := by simp [isAggT, hu] at hA; exact hA
      subst this
      cases hE with
      | b h => cases h; simp only [asVal, Bool.false_eq_true, if_false, List.headD]; rw [run_equalIn_bool' w e t _ _ hu]; simp
    · rename_i hu
      simp at h; subst h
      have : ag = false := by simp [isAggT, hu] at hA; exact hA
      subst this
      cases hE with
      | s h => cases h; simp only [asVal, Bool.false_eq_true, if_false, List.headD]; rw [run_equalIn_string w e t _ _ hu]; simp
    · rename_i fs hu
      split at h
      · simp at h
      · rename_i hst
        have : ag = true := by simp [isAggT, hu] at hA; exact hA
        subst this
        have hf : P.fieldsOf t = fs := by simp [Program.fieldsOf, hu]
        simp only [asVal, if_true]
        rw [run_equalIn_struct w e t _ _ (by rw [hf]; exact hu) (by simpa using hst), hf]
        have key : ∀ (l : List Field) (off : Nat) (fl : List Fl) (b : Bool), goF P (flatF P d) l off = some fl → EqC fl (u.drop off) (v.drop off) b → (Op.eqFields e u.toArray v.toArray l).run P w = .ok b w := by
          intro l
          induction l with
          | nil => intro off fl b hg hE; simp [goF] at hg; subst hg; generalize List.drop off u = x at hE; generalize List.drop off v = y at hE; cases hE; simp [Op.eqFields]
          | cons f r ihl =>
            intro off fl b hg hE
            simp only [goF] at hg
            split at hg
            · rename_i hc
              split at hg
              · rename_i a i ha hi
                split at hg
                · rename_i hsz
                  simp only [Option.map_eq_some_iff] at hg
                  obtain ⟨fr, hr, rfl⟩ := hg
                  obtain ⟨b1, b2, h1, h2, rfl⟩ := EqC.split hE
                  obtain ⟨l1, l2⟩ := EqC.len h1
                  rw [List.drop_drop, List.drop_drop] at h2
                  obtain ⟨agf, hAf, h1f⟩ : ∃ agf, isAggT P f.type = some agf ∧ (agf = false → a.length = 1) := by
                    rcases flat_agg ha with h | ⟨h, h'⟩
                    · exact ⟨true, h, by simp⟩
                    · exact ⟨false, h, fun _ => h'⟩
                  have hlu : off + a.length ≤ u.length ∨ a.length = 0 := by simp at l1; omega
                  have hlv : off + a.length ≤ v.length ∨ a.length = 0 := by simp at l2; omega
                  have hpu : (part f.type u.toArray f.offset).run P w = .ok (asVal agf ((u.drop off).take a.length)) w := by
                    rw [hc.2]
                    rcases hlu with h | h
                    · exact run_part hAf hi hsz h1f h
                    · cases agf
                      · have := h1f rfl; omega
                      · simp only [part, Sem.run_bind, run_isAgg hAf, Result.andThen, if_true, run_sizeOf hi, Sem.run_pure, asVal, hsz, h]
                        congr 2; rw [← Array.toList_inj]; simp
                  have hpv : (part f.type v.toArray f.offset).run P w = .ok (asVal agf ((v.drop off).take a.length)) w := by
                    rw [hc.2]
                    rcases hlv with h | h
                    · exact run_part hAf hi hsz h1f h
                    · cases agf
                      · have := h1f rfl; omega
                      · simp only [part, Sem.run_bind, run_isAgg hAf, Result.andThen, if_true, run_sizeOf hi, Sem.run_pure, asVal, hsz, h]
                        congr 2; rw [← Array.toList_inj]; simp
                  have heq := ih f.type a ha agf hAf _ _ b1 h1 e w (by omega)
                  simp only [Op.eqFields, if_pos hc.1, Sem.run_bind, hpu, hpv, Result.andThen, heq]
                  cases b1
                  · simp
                  · simp only [Bool.not_true, Bool.false_eq_true, if_false, Bool.true_and]
                    exact ihl _ _ _ hr h2
                · simp at hg
              · simp at hg
            · simp at hg
        exact key fs.toList 0 fl b h (by simpa using hE)
    · simp at h

theorem run_eqs {t : TypeId} {fl : List Fl} {fs : Array Field} {x y : Operand} {u v : Array Value} {b neg : Bool} {w : World} (hu : P.underlying t = some (.struct fs)) (hf : flatF P 20 t = some fl) (hg : ¬ P.eqGuardType P.depth t = true) (h : EqC fl u.toList v.toList b) :
    (do eqGuard (if neg then .neq else .eql) t x y (.agg u) (.agg v); binOp (if neg then .neq else .eql) t (.agg u) (.agg v) : Sem Value).run P w = .ok (.bool (b != neg)) w := by
  have hA : isAggT P t = some true := by simp [isAggT, hu]
  have := run_flat 20 t fl hf true hA u.toList v.toList b h 10000 w (by omega)
  simp only [asVal, if_true, Array.toArray_toList] at this
  rw [Sem.run_bind, run_eqGuard_agg w _ t x y u v (by simpa using hg)]
  cases neg
  · simp only [Bool.false_eq_true, if_false, Result.andThen, run_eql_struct, this]; simp
  · simp only [if_true, Result.andThen, run_neq_struct, this]; simp

theorem run_scalEq {sc : Sc} {t : TypeId} {d : TypeDesc} {u v : Value} {b : Bool} {w : World} (n : Nat) (hu : P.underlying t = some d) (hd : scalT d = some sc) (h : scalEq sc u v = some b) :
    (Op.equalIn (n + 1) t u v).run P w = .ok b w := by
  unfold scalEq at h
  split at h <;> (try (split at h <;> (try split at h))) <;> simp only [Option.some.injEq, reduceCtorEq] at h <;> subst h <;> cases d <;> simp only [scalT, Option.some.injEq, reduceCtorEq] at hd <;>
    simp only [Op.equalIn, Sem.run_bind, run_underlying hu, Result.andThen] <;> first | rfl | (simp; done) | (simp [beq_toListBytes]; done) | (cases ‹Option Addr› <;> rfl) | (cases ‹Option Nat› <;> rfl) | (cases ‹Option Addr› <;> cases ‹Option Addr› <;> rfl) | (cases ‹Option Nat› <;> cases ‹Option Nat› <;> rfl)

theorem run_scal {op : BinOp} {sc : Sc} {t : TypeId} {d : TypeDesc} {x y : Operand} {u v : Value} {b : Bool} {w : World} (hu : P.underlying t = some d) (hd : scalT d = some sc) (ho : op = .eql ∨ op = .neq) (h : scalEq sc u v = some b) :
    (do eqGuard op t x y u v; binOp op t u v : Sem Value).run P w = .ok (.bool (b != (op == .neq))) w := by
  have he := run_scalEq (P := P) (w := w) 9999 hu hd h
  have e2 : Op.equal t u v = Op.equalIn (9999 + 1) t u v := rfl
  unfold scalEq at h
  split at h <;> (try (split at h <;> (try split at h))) <;> simp only [Option.some.injEq, reduceCtorEq] at h <;> subst h <;> rcases ho with rfl | rfl <;>
    simp only [eqGuard, binOp, Op.stringOp, Sem.run_bind, Result.andThen, Sem.run_pure, e2, he] <;> first | rfl | (simp [Sem.run_bind, Result.andThen, e2, he]; done) | (simp [Sem.run_bind, Result.andThen, e2, he, show (BinOp.eql == BinOp.neq) = false from rfl]; done)

theorem run_intBin {op : BinOp} {k k' : IntKind} {n m : Int} {r : Value} {t : TypeId} {x y : Operand} {w : World} (hkk : isShift op = true ∨ k = k') (h : intBin op k n m = some r) :
    (do eqGuard op t x y (.int k n) (.int k' m); binOp op t (.int k n) (.int k' m) : Sem Value).run P w = .ok r w := by
  have hg : (eqGuard op t x y (.int k n) (.int k' m)).run P w = .ok () w := by
    cases op <;> simp [eqGuard]
  rw [Sem.run_bind, hg]
  simp only [Result.andThen]
  cases op <;> simp only [isShift, Bool.false_eq_true, false_or, true_or] at hkk <;> (try subst hkk) <;>
    simp [intBin] at h <;>
    (try (obtain ⟨h0, h⟩ := h)) <;> (try subst h) <;>
    simp_all [binOp, Op.intArith, Op.intDiv, Op.intBits, Op.intCmp, Op.shift] <;> (try rfl) <;> (intro hlt; omega)

set_option maxHeartbeats 1000000 in
theorem K_sound {o : Oper} {k : Kd} {a : Act} {ρ : Env} {N : Nat} {w : World} {Kt : Value → Heap → Prop} 
    (hk : cleanK P o = some k) (ha : Agrees a ρ N) (hs : k.sem P ρ w.heap Kt) : RunOk P (execOp a.eval o) w Kt := by
  obtain ⟨dst, op, type, pos, after, guard⟩ := o
  have raw : ∀ o' : Oper, o'.dst = dst → (Kd.raw o').sem P ρ w.heap Kt → RunOk P (execOp a.eval o') w Kt := by
    intro o' hd h
    obtain ⟨v, w', hr, hkp, hK⟩ := h a w N ha rfl
    exact .value hr hkp hK
  cases op <;> simp only [cleanK] at hk
  case move x =>
    cases hk
    obtain ⟨v, hv, hK⟩ := hs
    exact RunOk.same (by simp [execOp, ha.ev hv]) hK
  case assign x =>
    cases hk
    obtain ⟨v, hv, hK⟩ := hs
    exact RunOk.same (by simp [execOp, ha.ev hv]) hK
  case pick c x y =>
    cases hk
    obtain ⟨t, v, hc, hv, hK⟩ := hs
    refine RunOk.same (v := v) ?_ hK
    cases t
    · simp at hv; simp [execOp, ha.ev hc, ha.ev hv, asBool]
    · simp at hv; simp [execOp, ha.ev hc, ha.ev hv, asBool]
  case alloc T =>
    simp only [Option.bind_eq_some_iff, Option.map_eq_some_iff] at hk
    obtain ⟨i, hi, z, hz, rfl⟩ := hk
    refine RunOk.value (w' := { w with heap := w.heap.push (.cells z.cells T) }) (run_v ?_) (Keeps.cells _ _ _) hs
    simp [Instr.alloc, Sem.run_bind, run_zeroValue hi hz, Result.andThen, newVar, run_newRow]
  case box T x =>
    cases hk
    obtain ⟨v, hv, hK⟩ := hs
    refine RunOk.value (w' := { w with heap := w.heap.push (.cells v.cells T) }) (run_v ?_) (Keeps.cells _ _ _) hK
    simp [Instr.box, Sem.run_bind, Result.andThen, newVar, run_newRow, ha.ev hv]
  case load t x =>
    split at hk
    · rename_i i hA hi
      cases hk
      obtain ⟨ad, vs, hx, hc, hK⟩ := hs
      refine RunOk.same (run_v ?_) hK
      simp [Instr.loadAt, Sem.run_bind, ha.ev hx, Instr.sureAddr, Result.andThen, run_loadVar hA hi hc]
    · rename_i hA hi
      cases hk
      obtain ⟨ad, v, hx, hc, hK⟩ := hs
      refine RunOk.same (run_v ?_) hK
      simp [Instr.loadAt, Sem.run_bind, ha.ev hx, Instr.sureAddr, Result.andThen, run_loadVar1 hA hc]
    · simp at hk
  case store t x y =>
    simp only [Option.map_eq_some_iff] at hk
    obtain ⟨i, hi, rfl⟩ := hk
    obtain ⟨ad, v, h', hx, hy, hsz, hst, hK⟩ := hs
    refine RunOk.skip (w' := { w with heap := h' }) (run_u ?_) (Keeps.store hst) hK
    simp [Instr.storeAt, Sem.run_bind, ha.ev hx, Instr.sureAddr, Result.andThen, ha.ev hy, run_storeVar hi hsz hst]
  case nilCheck x =>
    cases hk
    obtain ⟨v, hv, hm, hK⟩ := hs
    refine RunOk.same ?_ hK
    simp only [execOp, ha.ev hv]
    split at hm
    · simp
    · simp
    · exact hm.elim
  case binOp op t x y u =>
    split at hk
    · split at hk
      · cases hk
        obtain ⟨k, n, k', m, r, hx, hy, hkk, hr, hK⟩ := hs
        refine RunOk.same (run_v ?_) hK
        simp only [ha.ev hx, ha.ev hy]
        exact run_intBin hkk hr
      · have gen : k = .bin op t x y → RunOk P (execOp a.eval { dst := dst, op := Op.binOp op t x y u, type := type, pos := pos, after := after, guard := guard }) w Kt := by
          intro hk
          subst hk
          obtain ⟨p, q, r, hx, hy, hr, hK⟩ := hs
          refine RunOk.same (run_v ?_) hK
          simp only [ha.ev hx, ha.ev hy]
          exact hr w rfl
        split at hk
        · rename_i sc hsc
          cases hk
          obtain ⟨p, q, bb, hx, hy, hE, hK⟩ := hs
          refine RunOk.same (run_v ?_) hK
          simp only [ha.ev hx, ha.ev hy]
          exact run_scal (op := .eql) (by assumption) hsc (.inl rfl) hE
        · rename_i sc hsc
          cases hk
          obtain ⟨p, q, bb, hx, hy, hE, hK⟩ := hs
          refine RunOk.same (run_v ?_) hK
          simp only [ha.ev hx, ha.ev hy]
          exact run_scal (op := .neq) (by assumption) hsc (.inr rfl) hE
        split at hk
        · rename_i hd
          split at hk
          · rename_i fl hfl
            split at hk
            · simp at hk
            · rename_i hg
              cases hk
              obtain ⟨p, q, b, hx, hy, hE, hK⟩ := hs
              refine RunOk.same (run_v ?_) hK
              simp only [ha.ev hx, ha.ev hy]
              exact run_eqs (neg := false) (by assumption) hfl hg hE
          · cases hk; exact gen rfl
        · rename_i hd
          split at hk
          · rename_i fl hfl
            split at hk
            · simp at hk
            · rename_i hg
              cases hk
              obtain ⟨p, q, b, hx, hy, hE, hK⟩ := hs
              refine RunOk.same (run_v ?_) hK
              simp only [ha.ev hx, ha.ev hy]
              exact run_eqs (neg := true) (by assumption) hfl hg hE
          · cases hk; exact gen rfl
        · cases hk; exact gen rfl
    · simp at hk
  case unOp op t x =>
    cases hk
    obtain ⟨u, r, hx, hr, hK⟩ := hs
    refine RunOk.same (run_v ?_) hK
    rw [ha.ev hx]; exact hr w
  case convert s d x =>
    split at hk
    · rename_i ds kk h1 h2
      cases hk
      obtain ⟨k', n, hx, hK⟩ := hs
      refine RunOk.same (run_v ?_) hK
      rw [ha.ev hx]
      exact run_convInt (k := 0) (k' := 0) h1 h2
    · cases hk; exact raw _ rfl hs
  case fieldAddr s x f =>
    split at hk
    · rename_i fs hu
      split at hk
      · rename_i fd hf
        split at hk
        · rename_i i hi
          split at hk
          · simp at hk
          · rename_i h0
            cases hk
            obtain ⟨ad, hx, hK⟩ := hs
            refine RunOk.same (run_v ?_) hK
            rw [ha.ev hx]
            exact run_fieldAt hu hf hi h0
        · simp at hk
      · simp at hk
    · simp at hk
  case field s x f =>
    split at hk
    · rename_i fs hu
      split at hk
      · rename_i fd hf
        split at hk
        · rename_i b i hA hi
          cases hk
          obtain ⟨cs, v, hx, hv, hK⟩ := hs
          refine RunOk.same (run_v ?_) hK
          rw [ha.ev hx]
          exact run_field hu hf hA hi hv
        · simp at hk
      · simp at hk
    · simp at hk
  case indexAddr t x y =>
    split at hk
    · rename_i e hu
      simp only [Option.map_eq_some_iff] at hk
      obtain ⟨i, hi, rfl⟩ := hk
      obtain ⟨ad, len, cap, k, n, hx, hy, h0, h1, hK⟩ := hs
      refine RunOk.same (run_v ?_) hK
      rw [ha.ev hx, ha.ev hy]
      exact run_indexAt hu hi h0 h1
    · rename_i len e hu
      simp only [Option.map_eq_some_iff] at hk
      obtain ⟨i, hi, rfl⟩ := hk
      obtain ⟨ad, k, n, hx, hy, h0, h1, hK⟩ := hs
      refine RunOk.same (run_v ?_) hK
      rw [ha.ev hx, ha.ev hy]
      exact run_indexAtA hu hi h0 h1
    · simp at hk
  case slice t x lo hi mx =>
    split at hk
    · rename_i e hu
      simp only [Option.map_eq_some_iff] at hk
      obtain ⟨i, hI, rfl⟩ := hk
      obtain ⟨b, len, cap, l, u, m, hx, hm, hmc, hmh, hh, hum, hl, hlu, hK⟩ := hs
      refine RunOk.same (run_v ?_) hK
      exact run_slice ha hu hI hx hm hmc hmh hh hum hl hlu
    · rename_i hu
      by_cases hmx : mx.isNone = true
      · rw [if_pos hmx] at hk
        cases hk
        have hmx' : mx = none := by simpa using hmx
        subst hmx'
        obtain ⟨s, l, u, hx, hh, hus, hl, hlu, hK⟩ := hs
        refine RunOk.same (run_v ?_) hK
        exact run_sls ha hu hx hh hus hl hlu
      · rw [if_neg hmx] at hk; cases hk; exact raw _ rfl hs
    · cases hk; exact raw _ rfl hs
  case index t x i =>
    split at hk
    · rename_i hu
      cases hk
      obtain ⟨s, kk, n, b, hx, hi, h0, hb, hK⟩ := hs
      refine RunOk.same (run_v ?_) hK
      rw [ha.ev hx, ha.ev hi]
      simp [Instr.index, asIntOf, Sem.run_bind, Result.andThen, run_underlying hu, h0, hb]
    · cases hk; exact raw _ rfl hs
  case lookup t x i ok =>
    split at hk
    · rename_i kt et hu
      split at hk
      · rename_i z hz
        cases hk
        obtain ⟨m, key, es, r, hx, hi, hm, hkey, hK⟩ := hs
        refine RunOk.same (run_v ?_) hK
        rw [ha.ev hx, ha.ev hi]
        exact run_lookup hu hz hm hkey
      · cases hk; exact raw _ rfl hs
    · cases hk; exact raw _ rfl hs
  case mapUpdate t m k v =>
    split at hk
    · rename_i kt et hu
      cases hk
      obtain ⟨b, es, c, key, val, r, hm, hkk, hv, hb, hkey, hK⟩ := hs
      refine RunOk.skip (w' := { w with heap := w.heap.setIfInBounds b (mapPut es c key val r) }) (run_u ?_) (keeps_put hb) hK
      rw [ha.ev hm, ha.ev hkk, ha.ev hv]
      exact run_mapUpdate hu hb hkey
    · cases hk; exact raw _ rfl hs
  case insert t m k v =>
    split at hk
    · rename_i kt et hu
      cases hk
      obtain ⟨b, es, c, key, val, r, hm, hkk, hv, hb, hkey, hK⟩ := hs
      refine RunOk.skip (w' := { w with heap := w.heap.setIfInBounds b (mapPut es c key val r) }) (run_u ?_) (keeps_put hb) hK
      rw [ha.ev hm, ha.ev hkk, ha.ev hv]
      exact run_mapUpdate hu hb hkey
    · cases hk; exact raw _ rfl hs
  case mapEntry t m k =>
    split at hk
    · rename_i kt et hu
      split at hk
      · rename_i z hz
        cases hk
        obtain ⟨b, es, c, key, r, hm, hkk, hb, hkey, hK⟩ := hs
        refine RunOk.value (w' := { w with heap := w.heap.setIfInBounds b (entPut es c key z r) }) (run_v ?_) (keeps_ent hb) hK
        rw [ha.ev hm, ha.ev hkk]
        exact run_mapEntry hu hz hb hkey
      · cases hk; exact raw _ rfl hs
    · cases hk; exact raw _ rfl hs
  case entryStore t m s v =>
    cases hk
    obtain ⟨b, es, c, kk, born, val, i, hm, hss, hv, hb, hi, hK⟩ := hs
    refine RunOk.skip (w' := { w with heap := w.heap.setIfInBounds b (.map (es.modify i fun e => { e with val := val }) c) }) (run_u ?_) (Keeps.map hb) hK
    rw [ha.ev hm, ha.ev hss, ha.ev hv]
    exact run_entryStore hb hi
  case makeMap t res =>
    cases res with
    | none =>
      cases hk
      refine RunOk.value (w' := { w with heap := w.heap.push (.map #[] 0) }) (run_v ?_) (Keeps.push _ _ (by simp)) hs
      simp [Instr.makeMap, Sem.run_bind, Result.andThen, run_newO]
    | some _ => cases hk; exact raw _ rfl hs
  case range t x =>
    split at hk
    · rename_i kt et hu
      cases hk
      obtain ⟨b, es, c, hx, hb, hK⟩ := hs
      refine RunOk.value (w' := { w with heap := w.heap.push (.mapIter (some b) c #[] c) }) (run_v ?_) (Keeps.push _ _ (by simp)) hK
      rw [ha.ev hx]
      exact run_range hu hb
    · cases hk; exact raw _ rfl hs
  case next it isS =>
    cases isS with
    | false =>
      cases hk
      obtain ⟨r, m, since, seen, last, es, c, hx, hr, hm, hg, h1, h2⟩ := hs
      obtain ⟨v, w', hrun, hkp, hK⟩ := run_next (ty := type) hr hm hg h1 h2
      refine RunOk.value (w' := w') (v := v) (run_v ?_) hkp hK
      rw [ha.ev hx]; exact hrun
    | true => cases hk; exact raw _ rfl hs
  case entry it =>
    cases hk
    obtain ⟨r, m, since, seen, last, es, c, stamp, e, hx, hr, hst, hm, hc, he, hK⟩ := hs
    refine RunOk.same (run_v ?_) hK
    rw [ha.ev hx]
    exact run_entry hr hst hm hc he
  case makeSlice t l c =>
    split at hk
    · rename_i e hu
      split at hk
      · rename_i i hi
        split at hk
        · rename_i z hz
          by_cases hsz : z.cells.size = i.size
          · rw [if_pos hsz] at hk
            cases hk
            obtain ⟨n, m, hl, hc, hnm, hb, hm, hK⟩ := hs
            refine RunOk.value (w' := { w with heap := w.heap.push (.cells (Builtin.zeroCells z.cells m) e) }) (run_v ?_) (Keeps.cells _ _ _) hK
            rw [ha.ev hl, ha.ev hc]
            exact run_makeSlice hu hi hz hsz hnm hb hm
          · rw [if_neg hsz] at hk; cases hk; exact raw _ rfl hs
        · cases hk; exact raw _ rfl hs
      · cases hk; exact raw _ rfl hs
    · cases hk; exact raw _ rfl hs
  case extract x i =>
    cases hk
    obtain ⟨vs, v, hx, hv, hK⟩ := hs
    refine RunOk.same (run_v ?_) hK
    simp [ha.ev hx, Instr.extract, hv]
  case makeInterface t x =>
    split at hk
    · simp at hk
    · rename_i d hd hu
      cases hk
      obtain ⟨v, hx, hK⟩ := hs
      refine RunOk.same (run_v ?_) hK
      rw [ha.ev hx]
      exact run_mkI hu (fun ms hms => hd ms hms)
    · simp at hk
  case makeFunc fn first captured =>
    split at hk
    · rename_i f
      split at hk
      · rename_i h0
        cases hk
        obtain ⟨vs, hvs, hK⟩ := hs
        refine RunOk.same (run_v ?_) hK
        have e1 : first = #[] := Array.eq_empty_of_size_eq_zero h0
        have e2 : captured.map a.eval = vs.toArray := by rw [← Array.toList_inj]; simpa using ha.evs hvs
        simp [e1, Instr.makeFunc, e2]
      · simp at hk
    · simp at hk
  case build t parts =>
    have main : ∀ {place : Nat → Option (Nat × Nat)} {z : Value} {src : List Src}, buildSrc place (z.cells.toList.map .z) parts.toList = some src →
        k = .agg src → (∀ cells, Instr.fill place z.cells (parts.map fun (i, x) => (i, a.eval x)).toList = some cells → P.built t (parts.map fun (i, x) => (i, a.eval x)).toList = some cells) →
        RunOk P (execOp a.eval { dst := dst, op := Op.build t parts, type := type, pos := pos, after := after, guard := guard }) w Kt := by
      intro place z src hb hk hcells
      subst hk
      obtain ⟨cs, hcs, hK⟩ := hs
      obtain ⟨e1, e2⟩ := Cells.spec ha hcs
      have hf := fill_src (a := a) hb e2
      rw [map_z, Array.toArray_toList, ← e1] at hf
      refine RunOk.same (run_v ?_) hK
      exact run_build w t _ _ (hcells _ (by rw [← hf]; congr 1; simp))
    split at hk
    · rename_i it fs hit hu
      split at hk
      · rename_i z ss hz hp
        simp only [Option.map_eq_some_iff] at hk
        obtain ⟨src, hb, hk⟩ := hk
        exact main hb hk.symm (fun cells h => by simp only [Program.built, hit, hu, hz, hp]; exact h)
      · simp at hk
    · rename_i it l e hit hu
      split at hk
      · rename_i z i hz hi
        simp only [Option.map_eq_some_iff] at hk
        obtain ⟨src, hb, hk⟩ := hk
        exact main hb hk.symm (fun cells h => by simp only [Program.built, hit, hu, hz, hi]; exact h)
      · simp at hk
    · simp at hk
  case buildSlice t len parts =>
    split at hk
    · rename_i e hu
      split at hk
      · rename_i i hi
        split at hk
        · rename_i z hz
          split at hk
          · rename_i hlim
            simp only [Option.map_eq_some_iff] at hk
            obtain ⟨src, hb, rfl⟩ := hk
            obtain ⟨cs, hcs, hK⟩ := hs
            obtain ⟨e1, e2⟩ := Cells.spec ha hcs
            have hf := fill_src (a := a) hb e2
            rw [map_z, Array.toArray_toList, ← e1] at hf
            refine RunOk.value (w' := { w with heap := w.heap.push (.cells cs.toArray e) }) (run_v ?_) (Keeps.cells _ _ _) hK
            have hf' : Instr.fill (fun j => some (j * i.size, i.size)) ((Array.range (len * i.size)).map fun j => z.cells[j % z.cells.size]!) (parts.map fun (i, x) => (i, a.eval x)).toList = some cs.toArray := by
              rw [← hf]; congr 1; simp
            by_cases h0 : len * i.size = 0
            · have hf0 : Instr.fill (fun j => some (j * i.size, i.size)) #[] (parts.map fun (i, x) => (i, a.eval x)).toList = some cs.toArray := by
                rw [h0, show Array.range 0 = #[] from rfl, Array.map_empty] at hf'; exact hf'
              simp only [Instr.buildSlice, Sem.run_bind, run_underlying hu, Result.andThen, run_sizeOf hi, h0, if_true, show ¬ (0 > 2 ^ 24) by omega, if_false, Sem.run_pure,
                show Array.range 0 = #[] from rfl, Array.map_empty, hf0, run_newRow]
            · simp only [Instr.buildSlice, Sem.run_bind, run_underlying hu, Result.andThen, run_sizeOf hi]
              rw [if_neg (by omega)]
              simp only [if_neg h0, Sem.run_bind, run_zeroValue hi hz, Result.andThen, Sem.run_pure, hf', run_newRow]
          · simp at hk
        · simp at hk
      · simp at hk
    · simp at hk
  case call c =>
    obtain ⟨callee, args, argTypes⟩ := c
    simp only [cleanCall] at hk
    split at hk
    · rename_i f
      cases hk
      obtain ⟨fid, cap, vs, hf, hvs, hcv⟩ := hs
      have e2 : args.map a.eval = vs.toArray := by rw [← Array.toList_inj]; simpa using ha.evs hvs
      cases fid with
      | func fid =>
        obtain ⟨hok, hC⟩ := hcv
        simp only [RunOk, execOp, resolve, ha.ev hf, e2, Deferred.ofValue, Sem.run_bind, Sem.run_pure, Result.andThen, invoke, Array.empty_append, run_callFunc hok]
        exact ⟨trivial, hC w rfl⟩
      | yield l =>
        obtain ⟨rfl, hC⟩ := hcv
        obtain ⟨fn, tmps, as, bd, h1, h2⟩ := hC w rfl
        simp only [RunOk, execOp, resolve, ha.ev hf, e2, Deferred.ofValue, Sem.run_bind, Sem.run_pure, Result.andThen, invoke, Array.empty_append, Array.append_empty, h1]
        exact ⟨trivial, h2⟩
      | _ => exact hcv.elim
    · rename_i b
      split at hk
      · rename_i x t h1 h2
        have e1 : args = #[x] := by rw [← Array.toList_inj]; exact h1
        have e2 : argTypes = #[t] := by rw [← Array.toList_inj]; exact h2
        subst e1 e2
        split at hk
        · rename_i e hu
          cases hk
          obtain ⟨b, n, c, hx, hK⟩ := hs
          refine RunOk.same ?_ hK
          simp [execOp, resolve, Sem.run_bind, Result.andThen, invoke, builtin, ha.ev hx, Builtin.len_, run_underlying hu, goInt]
        · rename_i hu
          cases hk
          obtain ⟨s, hx, hK⟩ := hs
          refine RunOk.same ?_ hK
          simp [execOp, resolve, Sem.run_bind, Result.andThen, invoke, builtin, ha.ev hx, Builtin.len_, run_underlying hu, goInt]
        · rename_i kt et hu
          cases hk
          obtain ⟨r, hx, hK⟩ := hs
          cases r with
          | none =>
            refine RunOk.same (v := .int .i64 0) ?_ hK
            simp [execOp, resolve, Sem.run_bind, Result.andThen, invoke, builtin, ha.ev hx, Builtin.len_, run_underlying hu, goInt]
          | some r =>
            obtain ⟨es, c, hh, hK⟩ := hK
            refine RunOk.same (v := .int .i64 es.size) ?_ hK
            have hg : (getObj r).run P w = .ok (.map es c) w := by simp [getObj, Sem.run, hh]
            simp [execOp, resolve, Sem.run_bind, Result.andThen, invoke, builtin, ha.ev hx, Builtin.len_, run_underlying hu, goInt, hg]
        · cases hk; exact raw _ rfl hs
      · rename_i x y t u h1 h2
        have e1 : args = #[x, y] := by rw [← Array.toList_inj]; exact h1
        have e2 : argTypes = #[t, u] := by rw [← Array.toList_inj]; exact h2
        subst e1 e2
        split at hk
        · rename_i e d ht hu
          split at hk
          · cases hk; exact raw _ rfl hs
          · rename_i hd
            split at hk
            · rename_i i hi
              split at hk
              · rename_i z hz
                split at hk
                rotate_left
                · simp at hk
                cases hk
                obtain ⟨b, n, c, v, m, hx, hy, hm, hb, hb0, hs⟩ := hs
                obtain ⟨r, w', hr, hkp, hK⟩ := run_append (ty := type) ht hu (by intro k hk; subst hk; simp [isIntT] at hd) hi hz hm hb hb0 hs
                refine RunOk.value ?_ hkp hK
                simp only [execOp, resolve, Sem.run_bind, Sem.run_pure, Result.andThen, invoke, builtin, List.map_toArray, List.map_cons, List.map_nil, ha.ev hx, ha.ev hy, hr]
              · simp at hk
            · simp at hk
        · cases hk; exact raw _ rfl hs
      · rename_i x t h1 h2
        have e1 : args = #[x] := by rw [← Array.toList_inj]; exact h1
        have e2 : argTypes = #[t] := by rw [← Array.toList_inj]; exact h2
        subst e1 e2
        split at hk
        · rename_i e hu
          cases hk
          obtain ⟨b, n, c, hx, hK⟩ := hs
          refine RunOk.same ?_ hK
          simp [execOp, resolve, Sem.run_bind, Result.andThen, invoke, builtin, ha.ev hx, Builtin.cap_, run_underlying hu, goInt]
        · cases hk; exact raw _ rfl hs
      · rename_i x y h1
        have e1 : args = #[x, y] := by rw [← Array.toList_inj]; exact h1
        subst e1
        cases hk
        obtain ⟨k, n, k', m, hx, hy, hK⟩ := hs
        refine RunOk.same ?_ hK
        simp [execOp, resolve, Sem.run_bind, Result.andThen, invoke, builtin, ha.ev hx, ha.ev hy, Builtin.min_, Builtin.min2]
      · rename_i x y h1
        have e1 : args = #[x, y] := by rw [← Array.toList_inj]; exact h1
        subst e1
        cases hk
        obtain ⟨k, n, k', m, hx, hy, hK⟩ := hs
        refine RunOk.same ?_ hK
        simp [execOp, resolve, Sem.run_bind, Result.andThen, invoke, builtin, ha.ev hx, ha.ev hy, Builtin.max_, Builtin.max2]
      · rename_i m k t tl h1 h2
        have e1 : args = #[m, k] := by rw [← Array.toList_inj]; exact h1
        have e2 : argTypes = (t :: tl).toArray := by rw [← Array.toList_inj]; simpa using h2
        subst e1 e2
        split at hk
        · rename_i kt et hu
          cases hk
          obtain ⟨b, es, c, key, r, hm, hkk, hb, hkey, hK⟩ := hs
          refine RunOk.value (w' := { w with heap := w.heap.setIfInBounds b (mapDel es c r) }) ?_ (keeps_del hb) hK
          have := run_delete (ty := type) (ts := tl) hu hb hkey
          simp only [execOp, resolve, Sem.run_bind, Sem.run_pure, Result.andThen, invoke, builtin, List.map_toArray, List.map_cons, List.map_nil, ha.ev hm, ha.ev hkk, this]
        · cases hk; exact raw _ rfl hs
      · rename_i x t h1 h2
        have e1 : args = #[x] := by rw [← Array.toList_inj]; exact h1
        have e2 : argTypes = #[t] := by rw [← Array.toList_inj]; exact h2
        subst e1 e2
        split at hk
        · rename_i e hu
          split at hk
          · rename_i z hz
            cases hk
            obtain ⟨b, n, c, h', hx, hst, hK⟩ := hs
            obtain ⟨hkp, hrun⟩ := run_clear (ty := type) (c := c) hu hz hst
            refine RunOk.value (w' := { w with heap := h' }) ?_ hkp hK
            simp only [execOp, resolve, Sem.run_bind, Sem.run_pure, Result.andThen, invoke, builtin, List.map_toArray, List.map_cons, List.map_nil, ha.ev hx, hrun]
          · cases hk; exact raw _ rfl hs
        · cases hk; exact raw _ rfl hs
      · rename_i x y t tl h1 h2
        have e1 : args = #[x, y] := by rw [← Array.toList_inj]; exact h1
        have e2 : argTypes = (t :: tl).toArray := by rw [← Array.toList_inj]; simpa using h2
        subst e1 e2
        split at hk
        · rename_i e hu
          split at hk
          · rename_i i hi
            cases hk
            obtain ⟨b, n, c, v, m, vs, h', hx, hy, hm, hf, hst, hK⟩ := hs
            have hrun := run_copy (ty := type) (ts := tl) (c := c) hu hi hm hf hst
            refine RunOk.value (w' := { w with heap := h' }) ?_ (Keeps.storeAt hst) hK
            simp only [execOp, resolve, Sem.run_bind, Sem.run_pure, Result.andThen, invoke, builtin, List.map_toArray, List.map_cons, List.map_nil, ha.ev hx, ha.ev hy, hrun]
          · cases hk; exact raw _ rfl hs
        · cases hk; exact raw _ rfl hs
      · cases hk; exact raw _ rfl hs
    · cases hk; exact raw _ rfl hs
  all_goals first | (cases hk; exact raw _ rfl hs) | (simp at hk; done)

end
end Go.SL
