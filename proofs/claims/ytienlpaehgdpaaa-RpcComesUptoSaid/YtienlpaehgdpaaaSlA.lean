/- The walk's own words, part A: a region's operations without their noise ('COp'), what each does to a heap ('Kd.sem'), and that the model's operation does just this. Conditions: none. -/
import Derived.Calls
import Derived.Orders
import Derived.Laws.World
import Derived.Laws.Cells
import Derived.WalkKit
set_option linter.unusedVariables false
namespace Go.SL
open Go

abbrev Heap := Array Obj
abbrev Env := List (Nat × Value)

def Env.lk : Env → Nat → Option Value
  | [], _ => none
  | (k, v) :: r, t => bif Nat.beq k t then some v else Env.lk r t

def Env.ev (ρ : Env) : Operand → Option Value
  | .tmp t => ρ.lk t
  | .const v => some v
  | .global g => some (.pointer (some ⟨g, 0, none⟩))
  | .func f => some (.func (.func f) #[] #[])

def Env.evs (ρ : Env) : List Operand → Option (List Value)
  | [] => some []
  | x :: r => match ρ.ev x, Env.evs ρ r with
    | some v, some vs => some (v :: vs)
    | _, _ => none

/-- What is known of a frame. -/
structure Agrees (a : Act) (ρ : Env) (N : Nat) : Prop where
  defers : a.defers = []
  size : a.tmps.size = N
  lk : ∀ t v, ρ.lk t = some v → a.tmps.getD t undef = v

theorem lk_cons (k : Nat) (v : Value) (r : Env) (t : Nat) : Env.lk ((k, v) :: r) t = if k = t then some v else Env.lk r t := by
  by_cases h : k = t
  · subst h; simp [Env.lk]
  · have : Nat.beq k t = false := by
      cases hb : Nat.beq k t
      · rfl
      · exact absurd (Nat.eq_of_beq_eq_true hb) h
    simp [Env.lk, this, h]

theorem Agrees.ev {a : Act} {ρ : Env} {N : Nat} (h : Agrees a ρ N) {x : Operand} {v : Value} (hx : ρ.ev x = some v) : a.eval x = v := by
  cases x with
  | tmp t => exact h.lk t v hx
  | const c => simp [Env.ev] at hx; exact hx
  | global g => simp [Env.ev] at hx; exact hx
  | func f => simp [Env.ev] at hx; exact hx

theorem Agrees.evs {a : Act} {ρ : Env} {N : Nat} (h : Agrees a ρ N) : ∀ {xs : List Operand} {vs : List Value}, ρ.evs xs = some vs → xs.map a.eval = vs
  | [], vs, hx => by simp [Env.evs] at hx; simp [hx]
  | x :: r, vs, hx => by
    simp only [Env.evs] at hx
    cases h1 : ρ.ev x with
    | none => simp [h1] at hx
    | some v =>
      cases h2 : Env.evs ρ r with
      | none => simp [h1, h2] at hx
      | some ws =>
        simp [h1, h2] at hx
        subst hx
        simp [h.ev h1, h.evs h2]

def Env.put (ρ : Env) : Option Nat → Value → Env
  | some d, v => (d, v) :: ρ
  | none, _ => ρ

theorem Agrees.put {a : Act} {ρ : Env} {N : Nat} (h : Agrees a ρ N) {dst : Option Nat} (hd : ∀ d, dst = some d → d < N) (v : Value) :
    Agrees (a.put dst v) (ρ.put dst v) N := by
  cases dst with
  | none => exact h
  | some d =>
    have hlt := hd d rfl
    refine ⟨h.defers, by simp [Act.put, h.size], fun t u ht => ?_⟩
    simp only [Env.put, lk_cons] at ht
    by_cases hdt : d = t
    · subst hdt
      simp at ht
      subst ht
      have : d < a.tmps.size := by rw [h.size]; exact hlt
      simp [Act.put, this]
    · simp [hdt] at ht
      have := h.lk t u ht
      simp [Act.put, Array.getElem?_setIfInBounds_ne hdt] at this ⊢
      exact this

theorem Agrees.weaken {a : Act} {ρ ρ' : Env} {N : Nat} (h : Agrees a ρ N) (hs : ∀ t v, ρ'.lk t = some v → ρ.lk t = some v) : Agrees a ρ' N :=
  ⟨h.defers, h.size, fun t v ht => h.lk t v (hs t v ht)⟩

/-- Where a cell of a composite value comes from. -/
inductive Src where
  | z (v : Value)
  | c (x : Operand) (j n : Nat)

/-- The kinds of cells that are compared one by one. -/
inductive Fl where
  | i
  | b
  | s

/-- Two values of a plain type, cell by cell. -/
inductive EqC : List Fl → List Value → List Value → Bool → Prop
  | nil : EqC [] [] [] true
  | i {k n m r u v b} (h : EqC r u v b) : EqC (.i :: r) (.int k n :: u) (.int k m :: v) (decide (n = m) && b)
  | b {n m r u v b} (h : EqC r u v b) : EqC (.b :: r) (.bool n :: u) (.bool m :: v) (n == m && b)
  | s {n m r u v b} (h : EqC r u v b) : EqC (.s :: r) (.string n :: u) (.string m :: v) (n.toList == m.toList && b)

/-- The kinds of values of one cell that '==' asks without memory. -/
inductive Sc where
  | b | s | p | sl | m | f
  deriving DecidableEq

/-- The kinds of operations, what the tables say of their types read off. -/
inductive Kd where
  | mv (x : Operand)
  | pick (c a b : Operand)
  | new (T : TypeId) (cells : Array Value)
  | box (T : TypeId) (x : Operand)
  | agg (src : List Src)
  | bsl (T : TypeId) (src : List Src) (len : Nat)
  | ld (n : Option Nat) (a : Operand)
  | st (n : Nat) (a x : Operand)
  | nilc (x : Operand)
  | bin (op : BinOp) (t : TypeId) (x y : Operand)
  | bini (op : BinOp) (x y : Operand)
  | eqs (neg : Bool) (fl : List Fl) (x y : Operand)
  | un (op : UnOp) (x : Operand)
  | cv (k : IntKind) (x : Operand)
  | fa (off : Nat) (x : Operand)
  | fld (agg : Bool) (n off : Nat) (x : Operand)
  | ia (sz : Nat) (x i : Operand)
  | iaa (len sz : Nat) (x i : Operand)
  | sl (sz : Nat) (x : Operand) (lo hi mx : Option Operand)
  | ln (x : Operand)
  | lns (x : Operand)
  | lnm (x : Operand)
  | ap (T : TypeId) (sz bytes : Nat) (zero : Array Value) (x y : Operand)
  | ext (x : Operand) (i : Nat)
  | call (f : Operand) (args : List Operand)
  | cmp (sc : Sc) (neg : Bool) (x y : Operand)
  | cap (x : Operand)
  | lkp (ok : Bool) (kt : TypeId) (zero : Value) (x i : Operand)
  | idx (x i : Operand)
  | mm (mx : Bool) (x y : Operand)
  | sls (x : Operand) (lo hi : Option Operand)
  | ent (x : Operand)
  | mkm
  | mup (kt : TypeId) (m k v : Operand)
  | mpe (kt : TypeId) (zero : Value) (m k : Operand)
  | ens (m s v : Operand)
  | del (kt : TypeId) (m k : Operand)
  | rng (x : Operand)
  | nxt (x : Operand)
  | mks (T sz bytes : Nat) (zero : Array Value) (l c : Operand)
  | cpy (sz : Nat) (x y : Operand)
  | clr (zero : Array Value) (x : Operand)
  | mki (t : TypeId) (x : Operand)
  | mkf (f : FuncId) (captured : List Operand)
  | raw (o : Oper)

/-- All but the heap's rows is as it was; no row's lock turned. -/
structure Keeps (w w' : World) : Prop where
  os : w'.os = w.os
  output : w'.output = w.output
  tape : w'.tape = w.tape
  drawn : w.drawn ≤ w'.drawn

theorem Keeps.refl (w : World) : Keeps w w := ⟨rfl, rfl, rfl, Nat.le_refl _⟩
theorem Keeps.trans {w w1 w2 : World} (h : Keeps w w1) (h' : Keeps w1 w2) : Keeps w w2 := ⟨h'.os.trans h.os, h'.output.trans h.output, h'.tape.trans h.tape, Nat.le_trans h.drawn h'.drawn⟩

/-- '==' of two values of one cell, where it asks no memory. -/
def scalEq : Sc → Value → Value → Option Bool
  | .b, .bool a, .bool b => some (a == b)
  | .s, .string a, .string b => some (a.toList == b.toList)
  | .p, .pointer a, .pointer b => match b with
    | none => some a.isNone
    | some _ => match a with
      | none => some false
      | some _ => none
  | .sl, .slice a _ _, .slice b _ _ => match b with
    | none => some a.isNone
    | some _ => match a with
      | none => some false
      | some _ => none
  | .m, .map a, .map b => match b with
    | none => some a.isNone
    | some _ => match a with
      | none => some false
      | some _ => none
  | .f, .nilFunc, .nilFunc => some true
  | .f, .nilFunc, .func _ _ _ => some false
  | .f, .func _ _ _, .nilFunc => some false
  | _, _, _ => none

/-- A call, said of heaps. -/
def CallsH (P : Program) (f : FuncId) (args : Array Value) (h : Heap) (R : Value → Heap → Prop) : Prop :=
  (P.funcs[f]?.any fun fn => fn.body.isSome && fn.name != "runtime.NumGoroutine") = true ∧
  ∀ w : World, w.heap = h → Calls P f args w fun e w' => ∃ v, e = .returned v ∧ Keeps w w' ∧ R v w'.heap

/-- The cells of a composite value. -/
inductive Cells (ρ : Env) : List Src → List Value → Prop
  | nil : Cells ρ [] []
  | z {v r out} (h : Cells ρ r out) : Cells ρ (.z v :: r) (v :: out)
  | c {x j n v u r out} (hx : ρ.ev x = some v) (hn : v.cells.size = n) (hu : v.cells[j]? = some u) (h : Cells ρ r out) : Cells ρ (.c x j n :: r) (u :: out)

def heapCell (h : Heap) (a : Addr) : Option Value :=
  match h[a.block]? with
  | some (.cells c _ _) => if a.spot.isSome then none else c[a.off]?
  | _ => none

def heapCells (h : Heap) (a : Addr) : Nat → Nat → Option (List Value)
  | _, 0 => some []
  | i, n + 1 => match heapCell h (a.add i), heapCells h a (i + 1) n with
    | some v, some vs => some (v :: vs)
    | _, _ => none

/-- A value of one cell. -/
def isOne : Value → Bool
  | .agg _ | .tuple _ => false
  | _ => true

def setHeapCell (h : Heap) (a : Addr) (v : Value) : Heap :=
  h.modify a.block fun
    | .cells c elem frozen => .cells (if a.spot.isSome then c else c.setIfInBounds a.off v) elem frozen
    | o => o

def heapFrozen (h : Heap) (a : Addr) : Bool :=
  match h[a.block]? with
  | some (.cells _ _ (lo, hi)) => lo ≤ a.off && a.off < hi
  | _ => false

/-- A store of some cells, one behind the other. -/
def storeList (a : Addr) : List Value → Nat → Heap → Option Heap
  | [], _, h => some h
  | v :: r, i, h =>
    if isOne v then
      match heapCell h (a.add i) with
      | some _ => if heapFrozen h (a.add i) then none else storeList a r (i + 1) (setHeapCell h (a.add i) v)
      | none => none
    else none

def storeAt (a : Option Addr) (k : Nat) (vs : List Value) (h h' : Heap) : Prop :=
  match a with
  | none => h' = h
  | some ad => storeList (ad.add k) vs 0 h = some h'

def sliceLo (x : Option Operand) (ρ : Env) (d : Nat) : Option Nat :=
  match x with
  | none => some d
  | some o => match ρ.ev o with
    | some (.int _ n) => if 0 ≤ n then some n.toNat else none
    | _ => none

/-- The first n elements' cells of what is appended. -/
def firstList (h : Heap) (sz n : Nat) : Value → Option (List Value)
  | .slice (some a) _ _ => heapCells h a 0 (n * sz)
  | .slice none _ _ => some []
  | .string s => some ((s.extract 0 n).data.toList.map fun b => .int .u8 b.toNat)
  | _ => none

def lenVal : Value → Option Nat
  | .slice _ n _ => some n
  | .string s => some s.size
  | _ => none

def isShift : BinOp → Bool
  | .shl | .shr => true
  | _ => false

/-- An operation on two integers; none: it panics, or is none of theirs. -/
def intBin (op : BinOp) (k : IntKind) (n m : Int) : Option Value :=
  match op with
  | .add => some (.int k (k.wrap (n + m)))
  | .sub => some (.int k (k.wrap (n - m)))
  | .mul => some (.int k (k.wrap (n * m)))
  | .quo => if m = 0 then none else some (.int k (k.wrap (n.tdiv m)))
  | .rem => if m = 0 then none else some (.int k (n.tmod m))
  | .and => some (.int k (k.wrap (BitVec.ofInt k.bits n &&& BitVec.ofInt k.bits m).toNat))
  | .or => some (.int k (k.wrap (BitVec.ofInt k.bits n ||| BitVec.ofInt k.bits m).toNat))
  | .xor => some (.int k (k.wrap (BitVec.ofInt k.bits n ^^^ BitVec.ofInt k.bits m).toNat))
  | .andNot => some (.int k (k.wrap (BitVec.ofInt k.bits n &&& ~~~ BitVec.ofInt k.bits m).toNat))
  | .shl => if m < 0 then none else some (.int k (k.wrap (n * 2 ^ (min m.toNat k.bits))))
  | .shr => if m < 0 then none else some (.int k (n.fdiv (2 ^ (min m.toNat k.bits))))
  | .eql => some (.bool (decide (n = m)))
  | .neq => some (.bool (!decide (n = m)))
  | .lss => some (.bool (decide (n < m)))
  | .leq => some (.bool (decide (n ≤ m)))
  | .gtr => some (.bool (decide (m < n)))
  | .geq => some (.bool (decide (m ≤ n)))

/-- What a look for a key in a map's rows comes to. -/
def KeyAt (P : Program) (kt : TypeId) (es : Array MapEntry) (key : Value) (r : Option (Nat × Value)) : Prop :=
  (∀ (e : Bool) (w : World), (Instr.checkKey e 10000 kt key).run P w = .ok () w) ∧ (∀ w : World, (Instr.findKey kt key es.toList).run P w = .ok r w) ∧
  ∀ i v, r = some (i, v) → Instr.sameBits 10000 (((es[i]?).map (·.key)).getD key) key = true

def mapOf (h : Heap) (x : Value) (es : Array MapEntry) : Prop :=
  match x with
  | .map none => es = #[]
  | .map (some b) => ∃ c, h[b]? = some (.map es c)
  | _ => False

def mapPut (es : Array MapEntry) (c : Nat) (key v : Value) (r : Option (Nat × Value)) : Obj :=
  match r with
  | some (i, _) => .map (es.modify i fun e => { e with key := key, val := v }) c
  | none => .map (es.push { key := key, val := v, born := c }) (c + 1)

def entPut (es : Array MapEntry) (c : Nat) (key zero : Value) (r : Option (Nat × Value)) : Obj :=
  match r with
  | some (i, _) => .map (es.modify i fun e => { e with key := key }) c
  | none => .map (es.push { key := key, val := zero, born := c }) (c + 1)

def entVal (es : Array MapEntry) (c : Nat) (zero : Value) (r : Option (Nat × Value)) : Value :=
  match r with
  | some (i, v) => .tuple #[v, .int .i64 (((es[i]?).map (·.born)).getD 0)]
  | none => .tuple #[zero, .int .i64 c]

def mapDel (es : Array MapEntry) (c : Nat) (r : Option (Nat × Value)) : Obj :=
  match r with
  | some (i, _) => .map (es.eraseIdxIfInBounds i) c
  | none => .map es c

/-- What an operation does: to a frame of which ρ is known, to a heap. -/
def Kd.sem (P : Program) (k : Kd) (ρ : Env) (h : Heap) (K : Value → Heap → Prop) : Prop :=
  match k with
  | .mv x => ∃ v, ρ.ev x = some v ∧ K v h
  | .pick c a b => ∃ t v, ρ.ev c = some (.bool t) ∧ (if t then ρ.ev a = some v else ρ.ev b = some v) ∧ K v h
  | .new T cells => K (.pointer (some ⟨h.size, 0, none⟩)) (h.push (.cells cells T))
  | .box T x => ∃ v, ρ.ev x = some v ∧ K (.pointer (some ⟨h.size, 0, none⟩)) (h.push (.cells v.cells T))
  | .agg src => ∃ cs, Cells ρ src cs ∧ K (.agg cs.toArray) h
  | .bsl T src len => ∃ cs, Cells ρ src cs ∧ K (.slice (some ⟨h.size, 0, none⟩) len len) (h.push (.cells cs.toArray T))
  | .ld none a => ∃ ad v, ρ.ev a = some (.pointer (some ad)) ∧ heapCell h ad = some v ∧ K v h
  | .ld (some n) a => ∃ ad vs, ρ.ev a = some (.pointer (some ad)) ∧ heapCells h ad 0 n = some vs ∧ K (.agg vs.toArray) h
  | .st n a x => ∃ ad v h', ρ.ev a = some (.pointer (some ad)) ∧ ρ.ev x = some v ∧ v.cells.size = n ∧ storeList ad v.cells.toList 0 h = some h' ∧ K undef h'
  | .nilc x => ∃ v, ρ.ev x = some v ∧ (match v with | .pointer (some _) => True | .func (.func _) _ _ => True | _ => False) ∧ K v h
  | .bin op t x y => ∃ u v r, ρ.ev x = some u ∧ ρ.ev y = some v ∧ (∀ w : World, w.heap = h → (do eqGuard op t x y u v; binOp op t u v).run P w = .ok r w) ∧ K r h
  | .bini op x y => ∃ k n k' m r, ρ.ev x = some (.int k n) ∧ ρ.ev y = some (.int k' m) ∧ (isShift op = true ∨ k = k') ∧ intBin op k n m = some r ∧ K r h
  | .eqs neg fl x y => ∃ u v b, ρ.ev x = some (.agg u) ∧ ρ.ev y = some (.agg v) ∧ EqC fl u.toList v.toList b ∧ K (.bool (b != neg)) h
  | .un op x => ∃ u r, ρ.ev x = some u ∧ (∀ w, (Op.unary op u).run P w = .ok r w) ∧ K r h
  | .cv k x => ∃ k' n, ρ.ev x = some (.int k' n) ∧ K (.int k (k.wrap n)) h
  | .fa off x => ∃ ad, ρ.ev x = some (.pointer (some ad)) ∧ K (.pointer (some (ad.add off))) h
  | .fld ag n off x => ∃ cs v, ρ.ev x = some (.agg cs) ∧ (if ag then v = .agg (cs.extract off (off + n)) else cs[off]? = some v) ∧ K v h
  | .ia sz x i => ∃ ad len cap k n, ρ.ev x = some (.slice (some ad) len cap) ∧ ρ.ev i = some (.int k n) ∧ 0 ≤ n ∧ n < len ∧ K (.pointer (some (ad.add (n.toNat * sz)))) h
  | .iaa len sz x i => ∃ ad k n, ρ.ev x = some (.pointer (some ad)) ∧ ρ.ev i = some (.int k n) ∧ 0 ≤ n ∧ n < len ∧ K (.pointer (some (ad.add (n.toNat * sz)))) h
  | .sl sz x lo hi mx => ∃ a len cap l u m, ρ.ev x = some (.slice a len cap) ∧ sliceLo mx ρ cap = some m ∧ m ≤ cap ∧ (mx.isSome = true → hi.isSome = true) ∧
      sliceLo hi ρ len = some u ∧ (hi.isSome = true → u ≤ m) ∧ sliceLo lo ρ 0 = some l ∧ (lo.isSome = true → l ≤ u) ∧
      K (.slice (if m = l then a else a.map (·.add (l * sz))) (u - l) (m - l)) h
  | .ln x => ∃ a n c, ρ.ev x = some (.slice a n c) ∧ K (.int .i64 n) h
  | .lns x => ∃ s, ρ.ev x = some (.string s) ∧ K (.int .i64 s.size) h
  | .lnm x => ∃ r, ρ.ev x = some (.map r) ∧ (match r with | none => K (.int .i64 0) h | some r => ∃ es c, h[r]? = some (.map es c) ∧ K (.int .i64 es.size) h)
  | .ap T sz bytes zero x y => ∃ a n c v m, ρ.ev x = some (.slice a n c) ∧ ρ.ev y = some v ∧ lenVal v = some m ∧ (n + m) * bytes ≤ 2 ^ 47 ∧ 0 < bytes ∧
      (if n + m ≤ c then ∃ vs h', firstList h sz m v = some vs ∧ storeAt a (n * sz) vs h h' ∧ K (.slice a (n + m) c) h'
       else ∃ us vs, firstList h sz n (.slice a n c) = some us ∧ firstList h sz m v = some vs ∧
         ∀ c', n + m ≤ c' → K (.slice (some ⟨h.size, 0, none⟩) (n + m) c') (h.push (.cells (us.toArray ++ vs.toArray ++ Builtin.zeroCells zero (c' - (n + m))) T)))
  | .cmp sc neg x y => ∃ u v b, ρ.ev x = some u ∧ ρ.ev y = some v ∧ scalEq sc u v = some b ∧ K (.bool (b != neg)) h
  | .cap x => ∃ a n c, ρ.ev x = some (.slice a n c) ∧ K (.int .i64 c) h
  | .lkp ok kt zero x i => ∃ m key es r, ρ.ev x = some m ∧ ρ.ev i = some key ∧ mapOf h m es ∧ KeyAt P kt es key r ∧
      K (if ok then .tuple #[(r.map (·.2)).getD zero, .bool r.isSome] else (r.map (·.2)).getD zero) h
  | .idx x i => ∃ s k n b, ρ.ev x = some (.string s) ∧ ρ.ev i = some (.int k n) ∧ 0 ≤ n ∧ s[n.toNat]? = some b ∧ K (.int .u8 b.toNat) h
  | .mm mx x y => ∃ k n k' m, ρ.ev x = some (.int k n) ∧ ρ.ev y = some (.int k' m) ∧ K (.int k (if mx then (if m > n then m else n) else (if m < n then m else n))) h
  | .sls x lo hi => ∃ s l u, ρ.ev x = some (.string s) ∧ sliceLo hi ρ s.size = some u ∧ (hi.isSome = true → u ≤ s.size) ∧ sliceLo lo ρ 0 = some l ∧ (lo.isSome = true → l ≤ u) ∧ K (.string (s.extract l u)) h
  | .ent x => ∃ r m since seen last es c stamp e, ρ.ev x = some (.pointer (some ⟨r, 0, none⟩)) ∧ h[r]? = some (.mapIter (some m) since seen last) ∧ seen.back? = some stamp ∧ h[m]? = some (.map es c) ∧ c = last ∧
      es.find? (·.born == stamp) = some e ∧ K (.tuple #[e.key, e.val]) h
  | .mkm => K (.map (some h.size)) (h.push (.map #[] 0))
  | .mup kt m k v => ∃ b es c key val r, ρ.ev m = some (.map (some b)) ∧ ρ.ev k = some key ∧ ρ.ev v = some val ∧ h[b]? = some (.map es c) ∧ KeyAt P kt es key r ∧ K undef (h.setIfInBounds b (mapPut es c key val r))
  | .mpe kt zero m k => ∃ b es c key r, ρ.ev m = some (.map (some b)) ∧ ρ.ev k = some key ∧ h[b]? = some (.map es c) ∧ KeyAt P kt es key r ∧ K (entVal es c zero r) (h.setIfInBounds b (entPut es c key zero r))
  | .ens m s v => ∃ b es c kk born val i, ρ.ev m = some (.map (some b)) ∧ ρ.ev s = some (.int kk born) ∧ ρ.ev v = some val ∧ h[b]? = some (.map es c) ∧ es.findIdx? (fun e => (e.born : Int) == born) = some i ∧
      K undef (h.setIfInBounds b (.map (es.modify i fun e => { e with val := val }) c))
  | .del kt m k => ∃ b es c key r, ρ.ev m = some (.map (some b)) ∧ ρ.ev k = some key ∧ h[b]? = some (.map es c) ∧ KeyAt P kt es key r ∧ K (.tuple #[]) (h.setIfInBounds b (mapDel es c r))
  | .rng x => ∃ b es c, ρ.ev x = some (.map (some b)) ∧ h[b]? = some (.map es c) ∧ K (.pointer (some ⟨h.size, 0, none⟩)) (h.push (.mapIter (some b) c #[] c))
  | .nxt x => ∃ r m since seen last es c, ρ.ev x = some (.pointer (some ⟨r, 0, none⟩)) ∧ h[r]? = some (.mapIter (some m) since seen last) ∧ h[m]? = some (.map es c) ∧
      (!seen.isEmpty && !es.isEmpty && es.all (·.born ≥ last)) = false ∧
      (∀ e ∈ es.toList, seen.contains e.born = false → K (.tuple #[.bool true, e.key, e.val]) (h.setIfInBounds r (.mapIter (some m) since (seen.push e.born) c))) ∧
      ((∀ e ∈ es.toList, seen.contains e.born = false → since ≤ e.born) → K (.tuple #[.bool false]) h)
  | .mks T sz bytes zero l c => ∃ n m : Nat, ρ.ev l = some (.int .i64 n) ∧ ρ.ev c = some (.int .i64 m) ∧ n ≤ m ∧ m * bytes ≤ 2 ^ 47 ∧ m ≤ 2 ^ 47 ∧
      K (.slice (some ⟨h.size, 0, none⟩) n m) (h.push (.cells (Builtin.zeroCells zero m) T))
  | .cpy sz x y => ∃ a n c v m vs h', ρ.ev x = some (.slice a n c) ∧ ρ.ev y = some v ∧ lenVal v = some m ∧ firstList h sz (Nat.min m n) v = some vs ∧ storeAt a 0 vs h h' ∧ K (.int .i64 (Nat.min m n : Nat)) h'
  | .clr zero x => ∃ a n c h', ρ.ev x = some (.slice a n c) ∧ (if n = 0 then h' = h else storeAt a 0 (Builtin.zeroCells zero n).toList h h') ∧ K (.tuple #[]) h'
  | .ext x i => ∃ vs v, ρ.ev x = some (.tuple vs) ∧ vs[i]? = some v ∧ K v h
  | .call f args => ∃ fid cap vs, ρ.ev f = some (.func (.func fid) #[] cap) ∧ ρ.evs args = some vs ∧ CallsH P fid (vs.toArray ++ cap) h K
  | .mki t x => ∃ v, ρ.ev x = some v ∧ K (.iface t v) h
  | .mkf f captured => ∃ vs, ρ.evs captured = some vs ∧ K (.func (.func f) #[] vs.toArray) h
  | .raw o => ∀ a w N, Agrees a ρ N → w.heap = h → ∃ v w', (execOp a.eval o).run P w = .ok (.value v) w' ∧ Keeps w w' ∧ K v w'.heap

structure COp where
  dst : Option Nat
  k : Kd
  guard : Option (Nat × Bool)

/-- The operations one behind the other. -/
def runL (P : Program) : List COp → Env → Heap → (Env → Heap → Prop) → Prop
  | [], ρ, h, K => K ρ h
  | c :: r, ρ, h, K => match c.guard with
    | none => c.k.sem P ρ h fun v h' => runL P r (ρ.put c.dst v) h' K
    | some (t, b) => ∃ g, ρ.lk t = some (.bool g) ∧ (g = b → c.k.sem P ρ h fun v h' => runL P r (ρ.put c.dst v) h' K) ∧ (g ≠ b → runL P r (ρ.put c.dst undef) h K)

end Go.SL
