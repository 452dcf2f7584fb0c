/- The walk's own words, part B: an operation read off the model's tables ('cleanK'), and that the model's operation does what 'Kd.sem' says. Conditions: none. -/
import Derived.Test.YtienlpaehgdpaaaSlA
set_option linter.unusedSimpArgs false
namespace Go.SL
open Go

def isZ : Src → Bool
  | .z _ => true
  | .c .. => false

def setSrc (l : List Src) (off : Nat) (x : Operand) (n : Nat) : List Src :=
  l.zipIdx.map fun (s, i) => if off ≤ i ∧ i < off + n then .c x (i - off) n else s

def buildSrc (place : Nat → Option (Nat × Nat)) : List Src → List (Nat × Operand) → Option (List Src)
  | l, [] => some l
  | l, (i, x) :: r => match place i with
    | none => none
    | some (off, n) => if off + n ≤ l.length ∧ n ≠ 0 ∧ ((l.drop off).take n).all isZ = true then buildSrc place (setSrc l off x n) r else none

def isAggT (P : Program) (t : TypeId) : Option Bool :=
  match P.underlying t with
  | some (.struct _) | some (.array _ _) => some true
  | some _ => some false
  | none => none

/-- The cells of a plain type, if it is one whose '==' asks each of them. -/
def goF (P : Program) (f : TypeId → Option (List Fl)) : List Field → Nat → Option (List Fl)
  | [], _ => some []
  | fd :: r, off => if fd.name ≠ "_" ∧ fd.offset = off then match f fd.type, P.info? fd.type with
      | some a, some i => if i.size = a.length then (goF P f r (off + a.length)).map (a ++ ·) else none
      | _, _ => none
    else none

def flatF (P : Program) : Nat → TypeId → Option (List Fl)
  | 0, _ => none
  | d + 1, t => match P.underlying t with
    | some (.int _) => some [.i]
    | some .bool => some [.b]
    | some .string => some [.s]
    | some (.struct fs) => if P.stoodInHeld t then none else goF P (flatF P d) fs.toList 0
    | _ => none

def isIntT : TypeDesc → Bool
  | .int _ => true
  | _ => false

def scalT : TypeDesc → Option Sc
  | .bool => some .b
  | .string => some .s
  | .pointer _ => some .p
  | .slice _ => some .sl
  | .map _ _ => some .m
  | .func _ _ _ => some .f
  | _ => none

def cleanCall (P : Program) (o : Oper) (c : Call) : Option Kd :=
  match c.callee with
  | .value f => some (.call f c.args.toList)
  | .builtin b => match b, c.args.toList, c.argTypes.toList with
    | .len, [x], [t] => match P.underlying t with
      | some (.slice _) => some (.ln x)
      | some .string => some (.lns x)
      | some (.map _ _) => some (.lnm x)
      | _ => some (.raw o)
    | .append, [x, y], [t, u] => match P.underlying t, P.underlying u with
      | some (.slice e), some d => if isIntT d then some (.raw o) else match P.info? e with
        | some i => match i.zero with
          | some z => if z.cells.size = i.size then some (.ap e i.size i.bytes z.cells x y) else none
          | none => none
        | none => none
      | _, _ => some (.raw o)
    | .cap, [x], [t] => match P.underlying t with
      | some (.slice _) => some (.cap x)
      | _ => some (.raw o)
    | .min, [x, y], _ => some (.mm false x y)
    | .max, [x, y], _ => some (.mm true x y)
    | .delete, [m, k], t :: _ => match P.underlying t with
      | some (.map kt _) => some (.del kt m k)
      | _ => some (.raw o)
    | .clear, [x], [t] => match P.underlying t with
      | some (.slice e) => match (P.info? e).bind (·.zero) with
        | some z => some (.clr z.cells x)
        | none => some (.raw o)
      | _ => some (.raw o)
    | .copy, [x, y], t :: _ => match P.underlying t with
      | some (.slice e) => match P.info? e with
        | some i => some (.cpy i.size x y)
        | none => some (.raw o)
      | _ => some (.raw o)
    | _, _, _ => some (.raw o)
  | _ => some (.raw o)

def cleanK (P : Program) (o : Oper) : Option Kd :=
  match o.op with
  | .move x | .assign x => some (.mv x)
  | .pick c a b => some (.pick c a b)
  | .alloc T => (P.info? T).bind fun i => i.zero.map fun z => .new T z.cells
  | .box T x => some (.box T x)
  | .build t parts => match P.info? t, P.underlying t with
    | some it, some (.struct fs) => match it.zero, fs.toList.mapM (fun f => (P.info? f.type).map fun i => (f.offset, i.size)) with
      | some z, some ss => (buildSrc (ss.toArray[·]?) (z.cells.toList.map .z) parts.toList).map .agg
      | _, _ => none
    | some it, some (.array _ e) => match it.zero, P.info? e with
      | some z, some i => (buildSrc (fun j => some (j * i.size, i.size)) (z.cells.toList.map .z) parts.toList).map .agg
      | _, _ => none
    | _, _ => none
  | .buildSlice t len parts => match P.underlying t with
    | some (.slice e) => match P.info? e with
      | some i => match i.zero with
        | some z => if len * i.size ≤ 2 ^ 24 then
            (buildSrc (fun j => some (j * i.size, i.size)) (((Array.range (len * i.size)).map fun j => z.cells[j % z.cells.size]!).toList.map .z) parts.toList).map fun s => .bsl e s len
          else none
        | none => none
      | none => none
    | _ => none
  | .load t a => match isAggT P t, P.info? t with
    | some true, some i => some (.ld (some i.size) a)
    | some false, some _ => some (.ld none a)
    | _, _ => none
  | .store t a x => (P.info? t).map fun i => .st i.size a x
  | .nilCheck x => some (.nilc x)
  | .binOp op t x y _ => match P.underlying t with
    | some d => if isIntT d then some (.bini op x y) else match scalT d, op with
      | some sc, .eql => some (.cmp sc false x y)
      | some sc, .neq => some (.cmp sc true x y)
      | _, _ => match op, d with
      | .eql, .struct _ => match flatF P 20 t with
        | some fl => if P.eqGuardType P.depth t then none else some (.eqs false fl x y)
        | none => some (.bin op t x y)
      | .neq, .struct _ => match flatF P 20 t with
        | some fl => if P.eqGuardType P.depth t then none else some (.eqs true fl x y)
        | none => some (.bin op t x y)
      | _, _ => some (.bin op t x y)
    | none => none
  | .unOp op _ x => some (.un op x)
  | .convert s d x => match P.underlying s, P.underlying d with
    | some _, some (.int k) => some (.cv k x)
    | _, _ => some (.raw o)
  | .fieldAddr s x f => match P.underlying s with
    | some (.struct fs) => match fs[f]? with
      | some fd => match P.info? fd.type with
        | some i => if i.size = 0 then none else some (.fa fd.offset x)
        | none => none
      | none => none
    | _ => none
  | .field s x f => match P.underlying s with
    | some (.struct fs) => match fs[f]? with
      | some fd => match isAggT P fd.type, P.info? fd.type with
        | some b, some i => some (.fld b i.size fd.offset x)
        | _, _ => none
      | none => none
    | _ => none
  | .indexAddr t x i => match P.underlying t with
    | some (.slice e) => (P.info? e).map fun inf => .ia inf.size x i
    | some (.array len e) => (P.info? e).map fun inf => .iaa len inf.size x i
    | _ => none
  | .slice t x lo hi mx => match P.underlying t with
    | some (.slice e) => (P.info? e).map fun inf => .sl inf.size x lo hi mx
    | some .string => if mx.isNone then some (.sls x lo hi) else some (.raw o)
    | _ => some (.raw o)
  | .index t x i => match P.underlying t with
    | some .string => some (.idx x i)
    | _ => some (.raw o)
  | .lookup t x i ok => match P.underlying t with
    | some (.map kt et) => match (P.info? et).bind (·.zero) with
      | some z => some (.lkp ok kt z x i)
      | none => some (.raw o)
    | _ => some (.raw o)
  | .mapUpdate t m k v | .insert t m k v => match P.underlying t with
    | some (.map kt _) => some (.mup kt m k v)
    | _ => some (.raw o)
  | .mapEntry t m k => match P.underlying t with
    | some (.map kt et) => match (P.info? et).bind (·.zero) with
      | some z => some (.mpe kt z m k)
      | none => some (.raw o)
    | _ => some (.raw o)
  | .entryStore _ m s v => some (.ens m s v)
  | .makeMap _ none => some .mkm
  | .range t x => match P.underlying t with
    | some (.map _ _) => some (.rng x)
    | _ => some (.raw o)
  | .next it false => some (.nxt it)
  | .entry it => some (.ent it)
  | .makeSlice t l c => match P.underlying t with
    | some (.slice e) => match P.info? e with
      | some i => match i.zero with
        | some z => if z.cells.size = i.size then some (.mks e i.size i.bytes z.cells l c) else some (.raw o)
        | none => some (.raw o)
      | none => some (.raw o)
    | _ => some (.raw o)
  | .extract x i => some (.ext x i)
  | .makeInterface t x => match P.underlying t with
    | some (.interface _) => none
    | some _ => some (.mki t x)
    | none => none
  | .makeFunc fn first captured => match fn with
    | .func f => if first.size = 0 then some (.mkf f captured.toList) else none
    | _ => none
  | .call c => cleanCall P o c
  | _ => some (.raw o)

section
variable {P : Program} {o : Oper} {a : Act} {w w' : World} {next : Act → World → Prop} {Q : Exit → Act → World → Prop} {v : Value}

/-- What an operation's run comes to. -/
def RunOk (P : Program) (s : Sem Next) (w : World) (Kt : Value → Heap → Prop) : Prop :=
  match s.run P w with
  | .ok (.value v) w' => Keeps w w' ∧ Kt v w'.heap
  | .ok .skip w' => Keeps w w' ∧ Kt undef w'.heap
  | .ok (.enter f args) w' => w' = w ∧ Calls P f args w' fun e w'' => ∃ v, e = .returned v ∧ Keeps w w'' ∧ Kt v w''.heap
  | _ => False

theorem RunOk.value {s : Sem Next} {Kt : Value → Heap → Prop} (hr : s.run P w = .ok (.value v) w') (hk : Keeps w w') (hn : Kt v w'.heap) : RunOk P s w Kt := by
  simp only [RunOk, hr]; exact ⟨hk, hn⟩

theorem RunOk.same {s : Sem Next} {Kt : Value → Heap → Prop} (hr : s.run P w = .ok (.value v) w) (hn : Kt v w.heap) : RunOk P s w Kt :=
  .value hr (Keeps.refl w) hn

theorem RunOk.skip {s : Sem Next} {Kt : Value → Heap → Prop} (hr : s.run P w = .ok .skip w') (hk : Keeps w w') (hn : Kt undef w'.heap) : RunOk P s w Kt := by
  simp only [RunOk, hr]; exact ⟨hk, hn⟩

theorem RunOk.wp {Kt : Value → Heap → Prop} (h : RunOk P (execOp a.eval o) w Kt) (hn : ∀ v w', Keeps w w' → Kt v w'.heap → next (a.put o.dst v) w') : o.wp P a w next Q := by
  unfold RunOk at h
  unfold Oper.wp
  split at h
  · rename_i v w' hr; rw [hr]; exact hn _ _ h.1 h.2
  · rename_i w' hr; rw [hr]; exact hn _ _ h.1 h.2
  · rename_i f args w' hr
    rw [hr]
    obtain ⟨rfl, h⟩ := h
    exact h.mono fun e w'' he => by obtain ⟨v, rfl, hk, hv⟩ := he; exact hn _ _ hk hv
  · exact h.elim

/-! What keeps all but rows. -/
theorem frozen_push (h : Heap) (o : Obj) (a : Addr) (ho : ∀ c T fz, o = .cells c T fz → fz = (0, 0)) : heapFrozen (h.push o) a = heapFrozen h a := by
  unfold heapFrozen
  by_cases e : a.block = h.size
  · have e1 : (h.push o)[a.block]? = some o := by rw [e]; simp
    have e2 : h[a.block]? = none := by rw [e]; simp
    rw [e1, e2]
    cases o <;> simp
    rename_i c T fz
    obtain rfl := ho c T fz rfl
    simp
  · rw [Array.getElem?_push, if_neg e]

theorem Keeps.push (w : World) (o : Obj) (ho : ∀ c T fz, o = .cells c T fz → fz = (0, 0)) : Keeps w { w with heap := w.heap.push o } :=
  ⟨rfl, rfl, rfl, Nat.le_refl _⟩
theorem Keeps.cells (w : World) (c : Array Value) (T : TypeId) : Keeps w { w with heap := w.heap.push (.cells c T) } :=
  Keeps.push w _ fun _ _ _ h => by cases h; rfl

theorem frozen_setCell (h : Heap) (a x : Addr) (v : Value) : heapFrozen (setHeapCell h a v) x = heapFrozen h x := by
  unfold heapFrozen setHeapCell
  rw [Array.getElem?_modify]
  by_cases e : a.block = x.block
  · rw [if_pos e]
    cases h[x.block]? with
    | none => rfl
    | some o => cases o <;> rfl
  · rw [if_neg e]

theorem frozen_store {a : Addr} : ∀ {vs : List Value} {i : Nat} {h h' : Heap}, storeList a vs i h = some h' → ∀ x, heapFrozen h' x = heapFrozen h x
  | [], _, h, h', e, x => by simp [storeList] at e; rw [e]
  | v :: r, i, h, h', e, x => by
    simp only [storeList] at e
    split at e
    · split at e
      · split at e
        · simp at e
        · rw [frozen_store e x, frozen_setCell]
      · simp at e
    · simp at e

theorem frozen_storeAt {a : Option Addr} {k : Nat} {vs : List Value} {h h' : Heap} (e : storeAt a k vs h h') (x : Addr) : heapFrozen h' x = heapFrozen h x := by
  cases a with
  | none => simp only [storeAt] at e; rw [e]
  | some a => exact frozen_store e x

theorem Keeps.store {w : World} {a : Addr} {vs : List Value} {i : Nat} {h' : Heap} (e : storeList a vs i w.heap = some h') : Keeps w { w with heap := h' } :=
  ⟨rfl, rfl, rfl, Nat.le_refl _⟩
theorem Keeps.storeAt {w : World} {a : Option Addr} {vs : List Value} {k : Nat} {h' : Heap} (e : SL.storeAt a k vs w.heap h') : Keeps w { w with heap := h' } :=
  ⟨rfl, rfl, rfl, Nat.le_refl _⟩

/-- What is put in the place of a row that is none of cells. -/
theorem Keeps.obj {w : World} {b : Nat} {o o' : Obj} (h : w.heap[b]? = some o) (ho : ∀ c T fz, o ≠ .cells c T fz) (ho' : ∀ c T fz, o' ≠ .cells c T fz) (n : Nat) (hn : w.drawn ≤ n) :
    Keeps w { w with heap := w.heap.setIfInBounds b o', drawn := n } := by
  exact ⟨rfl, rfl, rfl, hn⟩

theorem run_v {s : Sem Value} (h : s.run P w = .ok v w') : (do pure (Next.value (← s)) : Sem Next).run P w = .ok (.value v) w' := by
  simp [Sem.run_bind, h, Result.andThen]

theorem run_u {s : Sem Unit} (h : s.run P w = .ok () w') : (do s; pure Next.skip : Sem Next).run P w = .ok .skip w' := by
  simp [Sem.run_bind, h, Result.andThen]

theorem run_typeInfo {t : TypeId} {i : TypeInfo} (h : P.info? t = some i) : (typeInfo t).run P w = .ok i w := by
  simp [typeInfo, Sem.run_bind, Result.andThen, h]

theorem run_underlying {t : TypeId} {d : TypeDesc} (h : P.underlying t = some d) : (underlying t).run P w = .ok d w := by
  simp [underlying, Sem.run_bind, Result.andThen, h]

theorem run_sizeOf {t : TypeId} {i : TypeInfo} (h : P.info? t = some i) : (sizeOf t).run P w = .ok i.size w := by
  simp [sizeOf, Sem.run_bind, Result.andThen, run_typeInfo h]

theorem run_zeroValue {t : TypeId} {i : TypeInfo} {z : Value} (h : P.info? t = some i) (hz : i.zero = some z) : (zeroValue t).run P w = .ok z w := by
  simp [zeroValue, Sem.run_bind, Result.andThen, run_typeInfo h, hz]

theorem run_isAgg {t : TypeId} {b : Bool} (h : isAggT P t = some b) : (isAgg t).run P w = .ok b w := by
  unfold isAggT at h
  split at h
  · rename_i fs h1; simp [isAgg, Sem.run_bind, Result.andThen, run_underlying h1]; simpa using h
  · rename_i fs h1; simp [isAgg, Sem.run_bind, Result.andThen, run_underlying h1]; simpa using h
  · rename_i d h1 h2 h3
    simp [isAgg, Sem.run_bind, Result.andThen, run_underlying h3]
    cases d <;> simp_all
  · simp at h

theorem cell_eq (w : World) (ad : Addr) : w.cell? ad = heapCell w.heap ad := rfl
theorem frozen_eq (w : World) (ad : Addr) : w.frozen? ad = heapFrozen w.heap ad := rfl
theorem setCell_heap (w : World) (ad : Addr) (v : Value) : (w.setCell ad v).heap = setHeapCell w.heap ad v := rfl

theorem run_loadC {ad : Addr} {v : Value} (h : heapCell w.heap ad = some v) : (load ad).run P w = .ok v w := by
  simp [load, Sem.run, cell_eq, h]

theorem run_loadCells (ad : Addr) : ∀ (n i : Nat) (acc : Array Value) (vs : List Value), heapCells w.heap ad i n = some vs →
    (loadCellsFrom ad i n acc).run P w = .ok (acc ++ vs.toArray) w
  | 0, i, acc, vs, h => by simp [heapCells] at h; subst h; simp [loadCellsFrom]
  | n + 1, i, acc, vs, h => by
    simp only [heapCells] at h
    cases h1 : heapCell w.heap (ad.add i) with
    | none => simp [h1] at h
    | some v =>
      cases h2 : heapCells w.heap ad (i + 1) n with
      | none => simp [h1, h2] at h
      | some ws =>
        simp [h1, h2] at h
        subst h
        simp only [loadCellsFrom, Sem.run_bind, run_loadC h1, Result.andThen, run_loadCells ad n (i + 1) (acc.push v) ws h2]
        simp

theorem run_storeC {ad : Addr} {v u : Value} (hv : isOne v = true) (h : heapCell w.heap ad = some u) (hf : heapFrozen w.heap ad = false) :
    (store ad v).run P w = .ok () (w.setCell ad v) := by
  cases v <;> simp [isOne] at hv <;> simp [store, Sem.run, cell_eq, h, frozen_eq, hf]

theorem run_storeCells (ad : Addr) : ∀ (vs : List Value) (i : Nat) (w : World) (h' : Heap), storeList ad vs i w.heap = some h' →
    (storeCells ad vs i).run P w = .ok () { w with heap := h' }
  | [], i, w, h', h => by simp [storeList] at h; subst h; simp [storeCells]
  | v :: r, i, w, h', h => by
    simp only [storeList] at h
    split at h
    · rename_i hv
      split at h
      · rename_i u hu
        split at h
        · simp at h
        · rename_i hf
          have ih := run_storeCells ad r (i + 1) (w.setCell (ad.add i) v) h' (by rw [setCell_heap]; exact h)
          simp only [storeCells, Sem.run_bind, run_storeC hv hu (by simpa using hf), Result.andThen, ih]
          rfl
      · simp at h
    · simp at h

theorem run_loadVar {t : TypeId} {i : TypeInfo} {ad : Addr} {vs : List Value} (hA : isAggT P t = some true) (hi : P.info? t = some i)
    (h : heapCells w.heap ad 0 i.size = some vs) : (loadVar t ad).run P w = .ok (.agg vs.toArray) w := by
  simp [loadVar, Sem.run_bind, Result.andThen, run_isAgg hA, run_sizeOf hi, loadCells, run_loadCells ad _ _ _ _ h]

theorem run_loadVar1 {t : TypeId} {ad : Addr} {v : Value} (hA : isAggT P t = some false)
    (h : heapCell w.heap ad = some v) : (loadVar t ad).run P w = .ok v w := by
  simp [loadVar, Sem.run_bind, Result.andThen, run_isAgg hA, run_loadC h]

theorem run_storeVar {t : TypeId} {i : TypeInfo} {ad : Addr} {v : Value} {h' : Heap} (hi : P.info? t = some i) (hn : v.cells.size = i.size)
    (h : storeList ad v.cells.toList 0 w.heap = some h') : (storeVar t ad v).run P w = .ok () { w with heap := h' } := by
  simp [storeVar, Sem.run_bind, Result.andThen, run_sizeOf hi, hn, run_storeCells ad _ _ _ _ h]

theorem run_newRow {T : TypeId} {cs : Array Value} : (newRow T cs).run P w = .ok ⟨w.heap.size, 0, none⟩ { w with heap := w.heap.push (.cells cs T) } := by
  simp [newRow, Sem.run_bind, Result.andThen]

theorem run_asIntOf {k : IntKind} {n : Int} : (asIntOf (.int k n)).run P w = .ok (k, n) w := by simp [asIntOf]

/-! ### Composite values -/

def evS (a : Act) : Src → Value
  | .z v => v
  | .c x j _ => (a.eval x).cells.getD j undef

theorem Cells.spec {a : Act} {ρ : Env} {N : Nat} (ha : Agrees a ρ N) {l : List Src} {cs : List Value} (h : Cells ρ l cs) :
    cs = l.map (evS a) ∧ ∀ x j n, Src.c x j n ∈ l → (a.eval x).cells.size = n := by
  induction h with
  | nil => simp
  | z h ih => obtain ⟨h1, h2⟩ := ih; subst h1; simp [evS]; exact h2
  | c hx hn hu h ih =>
    obtain ⟨h1, h2⟩ := ih
    subst h1
    have e := ha.ev hx
    subst e
    refine ⟨by simp [evS, hu], fun x j n hm => ?_⟩
    rcases List.mem_cons.1 hm with hm | hm
    · cases hm; exact hn
    · exact h2 x j n hm

theorem setSrc_length (l : List Src) (off : Nat) (x : Operand) (n : Nat) : (setSrc l off x n).length = l.length := by simp [setSrc]

theorem setSrc_get (l : List Src) (off : Nat) (x : Operand) (n i : Nat) :
    (setSrc l off x n)[i]? = (l[i]?).map fun s => if off ≤ i ∧ i < off + n then .c x (i - off) n else s := by
  simp [setSrc, List.getElem?_map]
  cases l[i]? <;> simp

theorem setSrc_keeps {l : List Src} {off : Nat} {x : Operand} {n : Nat} (hz : ((l.drop off).take n).all isZ = true) {s : Src} (hs : isZ s = false) (hm : s ∈ l) :
    s ∈ setSrc l off x n := by
  obtain ⟨i, hi⟩ := List.mem_iff_getElem?.1 hm
  refine List.mem_iff_getElem?.2 ⟨i, ?_⟩
  rw [setSrc_get, hi]
  by_cases hc : off ≤ i ∧ i < off + n
  · exfalso
    have hmem : s ∈ (l.drop off).take n := by
      refine List.mem_iff_getElem?.2 ⟨i - off, ?_⟩
      rw [List.getElem?_take, List.getElem?_drop]
      simp [show i - off < n by omega, show off + (i - off) = i by omega, hi]
    have := List.all_eq_true.1 hz s hmem
    rw [hs] at this
    cases this
  · simp [hc]

theorem buildSrc_keeps {place : Nat → Option (Nat × Nat)} : ∀ {parts : List (Nat × Operand)} {l l' : List Src}, buildSrc place l parts = some l' →
    ∀ s, isZ s = false → s ∈ l → s ∈ l'
  | [], l, l', h, s, hs, hm => by simp [buildSrc] at h; subst h; exact hm
  | (i, x) :: r, l, l', h, s, hs, hm => by
    simp only [buildSrc] at h
    split at h
    · simp at h
    · split at h
      · rename_i off n _ hc
        exact buildSrc_keeps h s hs (setSrc_keeps hc.2.2 hs hm)
      · simp at h

theorem foldl_set (vs : List Value) (off : Nat) : ∀ (k : Nat) (cs : Array Value) (i : Nat), off + k + vs.length ≤ cs.size →
    ((vs.zipIdx k).foldl (fun (cs : Array Value) (p : Value × Nat) => cs.setIfInBounds (off + p.2) p.1) cs)[i]? =
      if off + k ≤ i ∧ i < off + k + vs.length then vs[i - (off + k)]? else cs[i]? := by
  induction vs with
  | nil => intro k cs i _; simp; omega
  | cons v r ih =>
    intro k cs i hb
    simp only [List.length_cons] at hb
    simp only [List.zipIdx_cons, List.foldl_cons]
    rw [ih (k + 1) _ i (by simp; omega)]
    simp only [List.length_cons]
    by_cases h1 : off + (k + 1) ≤ i ∧ i < off + (k + 1) + r.length
    · rw [if_pos h1, if_pos (by omega)]
      have : i - (off + k) = (i - (off + (k + 1))) + 1 := by omega
      rw [this]; simp
    · rw [if_neg h1]
      by_cases h2 : i = off + k
      · subst h2
        rw [if_pos (by omega)]
        simp [show off + k < cs.size by omega]
      · rw [if_neg (by omega)]
        rw [Array.getElem?_setIfInBounds_ne (by omega)]

theorem fill_src {a : Act} {place : Nat → Option (Nat × Nat)} : ∀ {parts : List (Nat × Operand)} {l l' : List Src}, buildSrc place l parts = some l' →
    (∀ x j n, Src.c x j n ∈ l' → (a.eval x).cells.size = n) →
    Instr.fill place (l.map (evS a)).toArray (parts.map fun (i, x) => (i, a.eval x)) = some (l'.map (evS a)).toArray
  | [], l, l', h, _ => by simp [buildSrc] at h; subst h; simp [Instr.fill]
  | (i, x) :: r, l, l', h, hsz => by
    simp only [buildSrc] at h
    split at h
    · simp at h
    · rename_i off n hp
      split at h
      · rename_i hc
        obtain ⟨h1, h2, h3⟩ := hc
        have hmem : Src.c x 0 n ∈ setSrc l off x n := by
          refine List.mem_iff_getElem?.2 ⟨off, ?_⟩
          rw [setSrc_get]
          have : off < l.length := by omega
          simp [List.getElem?_eq_getElem this]; omega
        have hs := hsz x 0 n (buildSrc_keeps h _ rfl hmem)
        have ih := fill_src (a := a) h hsz
        simp only [List.map_cons, Instr.fill, hp]
        rw [if_neg (by simp [hs]; omega)]
        rw [← ih]
        congr 1
        apply Array.ext_getElem?
        intro j
        have hf := foldl_set (a.eval x).cells.toList off 0 (l.map (evS a)).toArray j (by simp [hs]; omega)
        have hz : (a.eval x).cells.zipIdx.foldl (fun (cs : Array Value) (p : Value × Nat) => cs.setIfInBounds (off + p.2) p.1) (l.map (evS a)).toArray =
            ((a.eval x).cells.toList.zipIdx 0).foldl (fun (cs : Array Value) (p : Value × Nat) => cs.setIfInBounds (off + p.2) p.1) (l.map (evS a)).toArray := by
          rw [← Array.foldl_toList]; simp
        rw [hz, hf]
        simp only [Nat.add_zero, Array.length_toList, hs, List.getElem?_toArray, List.getElem?_map, setSrc_get]
        by_cases hj : off ≤ j ∧ j < off + n
        · rw [if_pos hj]
          have hjl : j < l.length := by omega
          simp [List.getElem?_eq_getElem hjl, hj, evS]
          rw [Array.getElem?_eq_getElem (by omega)]; simp
        · rw [if_neg hj]
          cases hlj : l[j]? <;> simp [hj]
      · simp at h

end
end Go.SL
