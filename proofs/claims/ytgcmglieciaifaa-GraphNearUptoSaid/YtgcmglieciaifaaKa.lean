/- Vectors, keys, peers as others know them; a peer's records: what the calls of layer 8 make of them (plain Lean). Conditions: none. -/
import Derived.Test.YtgcmglieciaifaaTy
set_option linter.unusedSimpArgs false
set_option linter.unusedVariables false
namespace Go.SL
open Go

structure Vec where
  len : Int
  bits : Int
  deriving DecidableEq, Inhabited
structure Key where
  rank : Int
  n : Int
  deriving DecidableEq, Inhabited
structure Ref where
  id : Int
  key : Key
  vec : Vec
  deriving DecidableEq, Inhabited

def vecC (v : Vec) : List Value := [i64 v.len, u64 v.bits]
def keyC (k : Key) : List Value := [i64 k.rank, u64 k.n]
def refC (r : Ref) : List Value := [i64 r.id, i64 r.key.rank, u64 r.key.n, i64 r.vec.len, u64 r.vec.bits]
abbrev vv (v : Vec) : Value := .agg (vecC v).toArray
abbrev kv (k : Key) : Value := .agg (keyC k).toArray
abbrev rv (r : Ref) : Value := .agg (refC r).toArray
theorem vecC_one : ∀ o : Vec, (vecC o).length = 2 ∧ ∀ v ∈ vecC o, isOne v = true := by intro o; simp [vecC, isOne]
theorem keyC_one : ∀ o : Key, (keyC o).length = 2 ∧ ∀ v ∈ keyC o, isOne v = true := by intro o; simp [keyC, isOne]
theorem refC_one : ∀ o : Ref, (refC o).length = 5 ∧ ∀ v ∈ refC o, isOne v = true := by intro o; simp [refC, isOne]
instance : EqEnc [.i, .i] vecC := ⟨fun a b => by
  have : decide (a = b) = (decide (a.len = b.len) && (decide (a.bits = b.bits) && true)) := by cases a; cases b; simp
  rw [this]; exact .i (.i .nil)⟩
instance : EqEnc [.i, .i] keyC := ⟨fun a b => by
  have : decide (a = b) = (decide (a.rank = b.rank) && (decide (a.n = b.n) && true)) := by cases a; cases b; simp
  rw [this]; exact .i (.i .nil)⟩
theorem Ref.dec (a b : Ref) : decide (a = b) = (decide (a.id = b.id) && (decide (a.key.rank = b.key.rank) && (decide (a.key.n = b.key.n) && (decide (a.vec.len = b.vec.len) && (decide (a.vec.bits = b.vec.bits) && true))))) := by
  obtain ⟨i, ⟨k, n⟩, ⟨l, m⟩⟩ := a
  obtain ⟨i', ⟨k', n'⟩, ⟨l', m'⟩⟩ := b
  rw [Bool.eq_iff_iff]; simp only [decide_eq_true_eq, Bool.and_eq_true, Ref.mk.injEq, Key.mk.injEq, Vec.mk.injEq]
  constructor
  · rintro ⟨h1, ⟨h2, h3⟩, h4, h5⟩; exact ⟨h1, h2, h3, h4, h5, trivial⟩
  · rintro ⟨h1, h2, h3, h4, h5, _⟩; exact ⟨h1, ⟨h2, h3⟩, h4, h5⟩
instance : EqEnc [.i, .i, .i, .i, .i] refC := ⟨fun a b => by rw [Ref.dec]; exact .i (.i (.i (.i (.i .nil))))⟩
instance {a b : Ref} : BP (decide (a.id = b.id) && (decide (a.key.rank = b.key.rank) && (decide (a.key.n = b.key.n) && (decide (a.vec.len = b.vec.len) && (decide (a.vec.bits = b.vec.bits) && true))))) (a = b) (¬ a = b) := by
  rw [← Ref.dec]; infer_instance
instance {a b : Vec} : BP (decide (a.len = b.len) && (decide (a.bits = b.bits) && true)) (a = b) (¬ a = b) := by
  have e : (decide (a.len = b.len) && (decide (a.bits = b.bits) && true)) = decide (a = b) := by cases a; cases b; simp
  rw [e]; infer_instance
instance : FS refC 1 2 keyC Ref.key := ⟨fun _ => rfl⟩
instance : FS refC 3 2 vecC Ref.vec := ⟨fun _ => rfl⟩

/-! ### Layers 1 and 2 -/
def vecOk (v : Vec) : Prop := 0 ≤ v.len ∧ v.len ≤ 32 ∧ v.bits ≤ 2 ^ v.len.toNat - 1
instance (v : Vec) : Decidable (vecOk v) := by unfold vecOk; infer_instance
def vRE (v : Vec) : Int := if vecOk v then 0 else 10
instance {v : Vec} : BP (decide (vRE v = 0)) (vecOk v) (¬ vecOk v) := .mk' (by simp [vRE]) .rfl
def vpre (v : Vec) (n : Int) : Vec := ⟨n, v.bits.fdiv (2 ^ (v.len - n).toNat)⟩
def vbegins (v w : Vec) : Prop := vecOk v ∧ vecOk w ∧ w.len ≤ v.len ∧ vpre v w.len = w
instance (v w : Vec) : Decidable (vbegins v w) := by unfold vbegins; infer_instance
def keyOk (k : Key) : Prop := k.rank = 2 ∨ (k.rank = 1 ∨ k.rank = 3) ∧ k.n = 0
instance (k : Key) : Decidable (keyOk k) := by unfold keyOk; infer_instance
def kCE (k : Key) : Int := if keyOk k then 0 else 20
instance {k : Key} : BP (decide (kCE k = 0)) (keyOk k) (¬ keyOk k) := .mk' (by simp [kCE]) .rfl
def icmp (a b : Int) : Int := if a < b then -1 else if b < a then 1 else 0
def kcmp (a b : Key) : Int := if icmp a.rank b.rank ≠ 0 then icmp a.rank b.rank else icmp a.n b.n
def keyLt (a b : Key) : Prop := a.rank < b.rank ∨ a.rank = b.rank ∧ a.n < b.n
instance (a b : Key) : Decidable (keyLt a b) := by unfold keyLt; infer_instance
theorem kcmp_lt (a b : Key) : (kcmp a b < 0) = keyLt a b := by unfold kcmp icmp keyLt; grind

/-! ### A peer's records -/
structure RecA where
  left : Ref
  right : Ref
  lk : LS
  deriving DecidableEq, Inhabited
structure LK where
  me : Ref
  m : List (Vec × RecA)
/-- A record as it is told. -/
structure RecS where
  w : Vec
  left : Ref
  right : Ref
  held : Bool
  owner : Owner
  waits : List Owner
  deriving DecidableEq, Inhabited
def zV : Vec := ⟨0, 0⟩
def zK : Key := ⟨0, 0⟩
def zR : Ref := ⟨0, zK, zV⟩
def zO : Owner := ⟨0, 0⟩
def RecS.zero : RecS := ⟨zV, zR, zR, false, zO, []⟩
def RecA.state (r : RecA) (w : Vec) : RecS := ⟨w, r.left, r.right, r.lk.held, r.lk.holder, r.lk.w⟩

def LK.isEnd (l : LK) : Prop := l.me.key.rank = 1 ∨ l.me.key.rank = 3
instance (l : LK) : Decidable l.isEnd := by unfold LK.isEnd; infer_instance
def LK.may (l : LK) (w : Vec) : Prop := if l.isEnd then vecOk w ∧ w.len ≤ l.me.vec.len else vbegins l.me.vec w
instance (l : LK) (w : Vec) : Decidable (l.may w) := by unfold LK.may; infer_instance
def LK.first (l : LK) : RecA := if l.me.key.rank = 1 then ⟨zR, ⟨1, ⟨3, 0⟩, l.me.vec⟩, LS.new⟩ else ⟨⟨0, ⟨1, 0⟩, l.me.vec⟩, zR, LS.new⟩
/-- The record of a list, if there is one; an end's is made where it may be. -/
def LK.rec? (l : LK) (w : Vec) : Option RecA := match alk l.m w with
  | some r => some r
  | none => if l.isEnd ∧ l.may w then some l.first else none
def LK.touch (l : LK) (w : Vec) : LK := match alk l.m w with
  | some _ => l
  | none => if l.isEnd ∧ l.may w then { l with m := aput l.m w l.first } else l
def LK.upd (l : LK) (w : Vec) (r : RecA) : LK := { l with m := aput l.m w r }
def LK.getS (l : LK) (w : Vec) : RecS := match l.rec? w with
  | some r => r.state w
  | none => RecS.zero
def LK.getB (l : LK) (w : Vec) : Bool := (l.rec? w).isSome
def LK.toLeft (l : LK) (r : Ref) : Prop := keyOk r.key ∧ keyLt r.key l.me.key
def LK.toRight (l : LK) (r : Ref) : Prop := keyOk r.key ∧ keyLt l.me.key r.key
instance (l : LK) (r : Ref) : Decidable (l.toLeft r) := by unfold LK.toLeft; infer_instance
instance (l : LK) (r : Ref) : Decidable (l.toRight r) := by unfold LK.toRight; infer_instance

def LK.put (l : LK) (w : Vec) (a b : Ref) (o : Owner) : LK × Int :=
  if l.isEnd ∨ ¬ l.may w then (l, 80)
  else if (alk l.m w).isSome then (l, 81)
  else if ¬ l.toLeft a ∨ ¬ l.toRight b then (l, 83)
  else if ckE o ≠ 0 then (l, ckE o)
  else (l.upd w ⟨a, b, (LS.new.ask o).1⟩, 0)
/-- Why a record is not an owner's. -/
def LK.ownE (l : LK) (w : Vec) (o : Owner) (e : Bool) : Int := match l.rec? w with
  | none => 82
  | some r => if e = false ∧ l.isEnd then 80 else if ckE o ≠ 0 then ckE o else if r.lk.held = false ∨ r.lk.holder ≠ o then 71 else 0
def LK.del (l : LK) (w : Vec) : LK := { l with m := adel l.m w }
def LK.out (l : LK) (w : Vec) (o : Owner) : LK × List Owner × Int := match l.rec? w with
  | some r => if l.ownE w o false = 0 then ((l.touch w).del w, r.lk.w, 0) else (l.touch w, [], l.ownE w o false)
  | none => (l.touch w, [], l.ownE w o false)
def LK.left (l : LK) (w : Vec) (a : Ref) : LK × Int := match l.rec? w with
  | none => (l.touch w, 82)
  | some r => if l.toLeft a then ((l.touch w).upd w { r with left := a }, 0) else (l.touch w, 83)
def LK.right (l : LK) (w : Vec) (a : Ref) (o : Owner) : LK × Int := match l.rec? w with
  | some r => if l.ownE w o true ≠ 0 then (l.touch w, l.ownE w o true) else if l.toRight a then ((l.touch w).upd w { r with right := a }, 0) else (l.touch w, 83)
  | none => (l.touch w, l.ownE w o true)
def LK.lock (l : LK) (w : Vec) (o : Owner) : LK × Bool × Int := match l.rec? w with
  | none => (l.touch w, false, 82)
  | some r => ((l.touch w).upd w { r with lk := (r.lk.ask o).1 }, (r.lk.ask o).2)
def LK.free (l : LK) (w : Vec) (o : Owner) : LK × Owner × Bool × Int := match l.rec? w with
  | none => (l.touch w, zO, false, 82)
  | some r => ((l.touch w).upd w { r with lk := (r.lk.free o).1 }, (r.lk.free o).2)

theorem ownE_zero {l : LK} {w : Vec} {o : Owner} {e : Bool} {a : RecA} (ha : l.rec? w = some a) (h : l.ownE w o e = 0) : ¬ (e = false ∧ l.isEnd) ∧ okO o ∧ a.lk.held = true ∧ a.lk.holder = o := by
  unfold LK.ownE at h; rw [ha] at h; simp only at h
  by_cases h1 : e = false ∧ l.isEnd
  · rw [if_pos h1] at h; cases h
  · rw [if_neg h1] at h
    by_cases ho : okO o
    · have hc : ckE o = 0 := if_pos ho
      rw [hc, if_neg (by simp)] at h
      by_cases h3 : a.lk.held = false ∨ a.lk.holder ≠ o
      · rw [if_pos h3] at h; cases h
      · refine ⟨h1, ho, ?_, ?_⟩
        · cases e : a.lk.held with
          | true => rfl
          | false => exact absurd (.inl e) h3
        · exact Decidable.byContradiction fun hh => h3 (.inr hh)
    · have hc : ckE o = 70 := if_neg ho
      rw [hc, if_pos (by decide)] at h; cases h

/-- A call of layer 8. -/
structure KOp where
  kind : Int
  w : Vec
  a : Ref
  b : Ref
  o : Owner
  deriving Inhabited
def kopC (x : KOp) : List Value := [i64 x.kind, i64 x.w.len, u64 x.w.bits, i64 x.a.id, i64 x.a.key.rank, u64 x.a.key.n, i64 x.a.vec.len, u64 x.a.vec.bits, i64 x.b.id, i64 x.b.key.rank, u64 x.b.key.n, i64 x.b.vec.len, u64 x.b.vec.bits, i64 x.o.agent, i64 x.o.op]
abbrev kov (x : KOp) : Value := .agg (kopC x).toArray
theorem kopC_one : ∀ o : KOp, (kopC o).length = 15 ∧ ∀ v ∈ kopC o, isOne v = true := by intro o; simp [kopC, isOne]
instance : FS kopC 1 2 vecC KOp.w := ⟨fun _ => rfl⟩
instance : FS kopC 3 5 refC KOp.a := ⟨fun _ => rfl⟩
instance : FS kopC 8 5 refC KOp.b := ⟨fun _ => rfl⟩
instance : FS kopC 13 2 ownerC KOp.o := ⟨fun _ => rfl⟩
/-- What a call makes of the records, and tells. -/
def LK.act (l : LK) (x : KOp) : LK × Int :=
  if x.kind = 1 then l.put x.w x.a x.b x.o
  else if x.kind = 2 then ((l.out x.w x.o).1, (l.out x.w x.o).2.2)
  else if x.kind = 3 then l.left x.w x.a
  else if x.kind = 4 then l.right x.w x.a x.o
  else if x.kind = 5 then ((l.lock x.w x.o).1, (l.lock x.w x.o).2.2)
  else if x.kind = 6 then ((l.free x.w x.o).1, (l.free x.w x.o).2.2.2)
  else (l, 0)
/-- No list's lock has more that wait than may be. -/
def LK.le (l : LK) : Prop := ∀ x ∈ l.m, x.2.lk.w.length ≤ 64


/-! ### In memory -/
def recC (r : RecA) (lb : Nat) : List Value := [i64 r.left.id, i64 r.left.key.rank, u64 r.left.key.n, i64 r.left.vec.len, u64 r.left.vec.bits, i64 r.right.id, i64 r.right.key.rank, u64 r.right.key.n, i64 r.right.vec.len, u64 r.right.vec.bits, ptr lb]
def linksC (me : Ref) (mb : Nat) : List Value := [i64 me.id, i64 me.key.rank, u64 me.key.n, i64 me.vec.len, u64 me.vec.bits, .map (some mb)]
def rsC (s : RecS) (a : Option Addr) (c : Nat) : List Value := [i64 s.w.len, u64 s.w.bits, i64 s.left.id, i64 s.left.key.rank, u64 s.left.key.n, i64 s.left.vec.len, u64 s.left.vec.bits,
  i64 s.right.id, i64 s.right.key.rank, u64 s.right.key.n, i64 s.right.vec.len, u64 s.right.vec.bits, .bool s.held, i64 s.owner.agent, i64 s.owner.op, .slice a s.waits.length c]
abbrev rsv (s : RecS) (a : Option Addr) (c : Nat) : Value := .agg (rsC s a c).toArray

/-- A record with its lock. -/
def RecP (p : Nat) (r : RecA) : Assn := ex fun x : Nat × Nat => sep [pc p x.1 (recC r x.2), LockP x.2 r.lk]
abbrev GM := List (Vec × (Nat × RecA))
def GM.er (g : GM) : List (Vec × RecA) := g.map fun x => (x.1, x.2.2)
def RecsA (g : GM) : Assn := sep (g.map fun x => RecP x.2.1 x.2.2)
abbrev MtR (mb : Nat) (g : GM) : Assn := Mt mb vv (fun x : Nat × RecA => ptr x.1) g
def LinksP (b : Nat) (l : LK) : Assn := ex fun x : Nat × Nat × GM => sep [pc b x.1 (linksC l.me x.2.1), MtR x.2.1 x.2.2, RecsA x.2.2, pur (GM.er x.2.2 = l.m)]
/-- All but the record of one list, which lies at p. -/
def LinksH (b : Nat) (l : LK) (w : Vec) (p : Nat) : Assn :=
  ex fun x : Nat × Nat × GM × Nat => sep [pc b x.1 (linksC l.me x.2.1), MtR x.2.1 x.2.2.1, RecsA (x.2.2.1.eraseIdx x.2.2.2), pur (GM.er x.2.2.1 = l.m ∧ aix x.2.2.1 w = some x.2.2.2 ∧ (x.2.2.1[x.2.2.2]?).map (fun y => y.2.1) = some p)]

/-! ### Taking one record out of them -/
theorem Imp.pull {c : Assn} {B r : List Assn} : ∀ {A : List Assn}, Imp (A ++ c :: B ++ r) (c :: (A ++ B ++ r))
  | [] => Imp.refl _
  | d :: A => Imp.trans (Imp.cons (Imp.pull (A := A))) Imp.swap
theorem Imp.push {c : Assn} {B r : List Assn} : ∀ {A : List Assn}, Imp (c :: (A ++ B ++ r)) (A ++ c :: B ++ r)
  | [] => Imp.refl _
  | d :: A => Imp.trans Imp.swap (Imp.cons (Imp.push (A := A)))
theorem sep_pull {c : Assn} {A B r : List Assn} : Imp (sep (A ++ c :: B) :: r) (c :: sep (A ++ B) :: r) :=
  Imp.trans Imp.sep_out (Imp.trans Imp.pull (Imp.cons Imp.sep_in))
theorem sep_push {c : Assn} {A B r : List Assn} : Imp (c :: sep (A ++ B) :: r) (sep (A ++ c :: B) :: r) :=
  Imp.trans (Imp.cons Imp.sep_out) (Imp.trans Imp.push Imp.sep_in)

theorem eraseIdx_split {α : Type} {g : List α} {i : Nat} {x : α} (h : g[i]? = some x) : ∃ A B, g = A ++ x :: B ∧ A.length = i ∧ g.eraseIdx i = A ++ B := by
  obtain ⟨hi, rfl⟩ := List.getElem?_eq_some_iff.1 h
  refine ⟨g.take i, g.drop (i + 1), ?_, by simp; omega, List.eraseIdx_eq_take_drop_succ _ _⟩
  rw [← List.drop_eq_getElem_cons hi, List.take_append_drop]
theorem RecsA.take {g : GM} {i p : Nat} {w : Vec} {a : RecA} (h : g[i]? = some (w, (p, a))) {r : List Assn} : Imp (RecsA g :: r) (RecP p a :: RecsA (g.eraseIdx i) :: r) := by
  obtain ⟨A, B, e, _, e2⟩ := eraseIdx_split h
  unfold RecsA; rw [e2, e, List.map_append, List.map_append, List.map_cons]; exact sep_pull
theorem RecsA.put {g : GM} {i p : Nat} {w : Vec} {a a0 : RecA} {p0 : Nat} (h : g[i]? = some (w, (p0, a0))) {r : List Assn} : Imp (RecP p a :: RecsA (g.eraseIdx i) :: r) (RecsA (g.set i (w, (p, a))) :: r) := by
  obtain ⟨A, B, e, el, e2⟩ := eraseIdx_split h
  have e3 : g.set i (w, (p, a)) = A ++ (w, (p, a)) :: B := by rw [e, ← el]; simp
  unfold RecsA; rw [e2, e3, List.map_append, List.map_append, List.map_cons]; exact sep_push
theorem RecsA.snoc {g : GM} {p : Nat} {w : Vec} {a : RecA} {r : List Assn} : Imp (RecP p a :: RecsA g :: r) (RecsA (g ++ [(w, (p, a))]) :: r) := by
  have := sep_push (c := RecP p a) (A := g.map fun x => RecP x.2.1 x.2.2) (B := []) (r := r)
  unfold RecsA; rw [List.map_append]; simpa using this

theorem er_aix (g : GM) (w : Vec) : Go.SL.aix (GM.er g) w = Go.SL.aix g w := by
  unfold Go.SL.aix GM.er; rw [List.map_map]; rfl
theorem er_alk (g : GM) (w : Vec) : Go.SL.alk (GM.er g) w = (Go.SL.alk g w).map (·.2) := by
  rw [alk_aix, alk_aix, er_aix]
  cases Go.SL.aix g w with
  | none => rfl
  | some i => simp only [Option.bind_some, GM.er, List.getElem?_map]; cases g[i]? <;> rfl
theorem er_set (g : GM) (i p : Nat) (w : Vec) (a : RecA) : GM.er (g.set i (w, (p, a))) = (GM.er g).set i (w, a) := by unfold GM.er; rw [List.map_set]
theorem er_put (g : GM) (w : Vec) (p : Nat) (a : RecA) : GM.er (aput g w (p, a)) = aput (GM.er g) w a := by
  unfold aput; rw [er_aix]
  cases Go.SL.aix g w with
  | none => simp [GM.er]
  | some i => exact er_set g i p w a
theorem er_del (g : GM) (w : Vec) : GM.er (adel g w) = adel (GM.er g) w := by
  unfold adel; rw [er_aix]
  cases Go.SL.aix g w with
  | none => rfl
  | some i => unfold GM.er; rw [map_eraseIdx]
theorem er_at {g : GM} {w : Vec} {i : Nat} {x : Nat × RecA} (h : Go.SL.aix g w = some i) (hx : Go.SL.alk g w = some x) : g[i]? = some (w, x) := by
  obtain ⟨hi, e⟩ := aix_some h
  rw [alk_aix, h] at hx
  simp only [Option.bind_some, List.getElem?_eq_getElem hi, Option.map_some, Option.some.injEq] at hx ⊢
  rw [← e, ← hx]
theorem alk_some_aix {κ β : Type} [DecidableEq κ] {m : List (κ × β)} {k : κ} {v : β} (h : Go.SL.alk m k = some v) : ∃ i, Go.SL.aix m k = some i := by
  rw [alk_aix] at h
  cases e : Go.SL.aix m k with
  | none => rw [e] at h; cases h
  | some i => exact ⟨i, rfl⟩
theorem alk_none_aix {κ β : Type} [DecidableEq κ] {m : List (κ × β)} {k : κ} (h : Go.SL.alk m k = none) : Go.SL.aix m k = none := by
  rw [alk_aix] at h
  cases e : Go.SL.aix m k with
  | none => rfl
  | some i => obtain ⟨hi, _⟩ := aix_some e; rw [e] at h; simp [List.getElem?_eq_getElem hi] at h

theorem aix_snoc {κ β : Type} [DecidableEq κ] {m : List (κ × β)} {k : κ} {v : β} (h : Go.SL.aix m k = none) : Go.SL.aix (m ++ [(k, v)]) k = some m.length := by
  unfold Go.SL.aix at h ⊢
  rw [List.map_append, List.findIdx?_append, h]; simp
theorem er_snoc (g : GM) (w : Vec) (x : Nat × RecA) (l : LK) (he : GM.er g = l.m) (hn : Go.SL.aix g w = none) : GM.er (g ++ [(w, x)]) = (l.upd w x.2).m := by
  unfold LK.upd aput
  rw [← he, er_aix, hn]; simp [GM.er]

theorem aput_same {κ β : Type} [DecidableEq κ] {m : List (κ × β)} {k : κ} {v : β} (h : Go.SL.alk m k = some v) : aput m k v = m := by
  obtain ⟨i, hi⟩ := alk_some_aix h
  unfold aput; rw [hi]
  obtain ⟨hlt, e⟩ := aix_some hi
  rw [alk_aix, hi] at h
  simp only [Option.bind_some, List.getElem?_eq_getElem hlt, Option.map_some, Option.some.injEq] at h
  have : m[i] = (k, v) := by rw [← e, ← h]
  rw [← this]; simp
theorem alk_put {κ β : Type} [DecidableEq κ] (m : List (κ × β)) (k k' : κ) (v : β) : Go.SL.alk (aput m k v) k' = if k' = k then some v else Go.SL.alk m k' := by
  unfold aput
  cases e : Go.SL.aix m k with
  | none =>
    simp only
    unfold Go.SL.alk
    rw [List.find?_append]
    by_cases hk : k' = k
    · subst hk
      have : m.find? (fun x => decide (k' = x.1)) = none := by
        rw [List.find?_eq_none]
        intro x hx
        simp only [Go.SL.aix, List.findIdx?_eq_none_iff] at e
        have := e x.1 (List.mem_map.2 ⟨x, hx, rfl⟩)
        simpa using this
      rw [this]; simp
    · simp only [if_neg hk]
      have : ([(k, v)] : List (κ × β)).find? (fun x => decide (k' = x.1)) = none := by simp [hk]
      rw [this]; simp
  | some i =>
    simp only
    obtain ⟨hi, ek⟩ := aix_some e
    have hfirst : ∀ j, j < i → ∀ (hj : j < m.length), m[j].1 ≠ k := by
      intro j hj hjl he
      simp only [Go.SL.aix] at e
      rw [List.findIdx?_eq_some_iff_getElem] at e
      have := e.2.2 j hj
      simp [he] at this
    clear e
    induction m generalizing i with
    | nil => simp at hi
    | cons x m ih =>
      cases i with
      | zero =>
        simp only [List.getElem_cons_zero] at ek
        simp only [List.set_cons_zero, Go.SL.alk, List.find?_cons]
        by_cases hk : k' = k
        · simp [hk]
        · simp [hk, ek]
      | succ i =>
        have ih := ih i (by simpa using hi) (by simpa using ek) (fun j hj hjl he => hfirst (j + 1) (by omega) (by simpa using hjl) (by simpa using he))
        simp only [List.set_cons_succ, Go.SL.alk, List.find?_cons] at ih ⊢
        have h0 : x.1 ≠ k := hfirst 0 (by omega) (by simp)
        by_cases hk : k' = x.1
        · simp only [hk, decide_true, Option.map_some]
          rw [if_neg h0]
        · simp only [hk, decide_false]
          exact ih
theorem touch_upd {l : LK} {w : Vec} {a : RecA} (h : l.rec? w = some a) : (l.touch w).upd w a = l.touch w := by
  unfold LK.upd
  have : Go.SL.alk (l.touch w).m w = some a := by
    unfold LK.rec? at h; unfold LK.touch
    cases e : Go.SL.alk l.m w with
    | some v => rw [e] at h; simp only at h ⊢; rw [e, h]
    | none =>
      rw [e] at h; simp only at h ⊢
      by_cases hc : l.isEnd ∧ l.may w
      · rw [if_pos hc] at h ⊢; simp only [alk_put, if_true]; exact h
      · rw [if_neg hc] at h; cases h
  rw [aput_same this]

section
variable {P : Program} {N : Nat} {ρ : Env} {cs r r1 r2 ds : List Assn} {cc : CC} {Q : Exit → Env → List Assn → Prop} {b p T mb lb i : Nat} {l : LK} {w : Vec} {g : GM} {a a0 : RecA}
theorem J.openLinks (hh : Has cs (LinksP b l) r) (h : ∀ T mb g, GM.er g = l.m → J P N cc ρ (pc b T (linksC l.me mb) :: MtR mb g :: RecsA g :: r) Q) : J P N cc ρ cs Q :=
  J.has hh (J.ex fun x => J.sep (J.has (Has.there (Has.there (Has.there Has.here))) (J.pur fun e => h x.1 x.2.1 x.2.2 e)))
theorem LinksP.fold (h1 : Has cs (pc b T (linksC l.me mb)) r) (h2 : Has r (MtR mb g) r1) (h3 : Has r1 (RecsA g) r2) (he : GM.er g = l.m) (h4 : Imp r2 ds) : Imp cs (LinksP b l :: ds) :=
  Imp.trans (Imp.take h1 (Imp.take h2 (Imp.take h3 (Imp.trans (Imp.trans h4 (Imp.pur_in he)) (Imp.refl _)))))
    (Imp.trans (Imp.sep_in (cs := [_, _, _, _])) (Imp.ex_in (A := fun x : Nat × Nat × GM => sep [pc b x.1 (linksC l.me x.2.1), MtR x.2.1 x.2.2, RecsA x.2.2, pur (GM.er x.2.2 = l.m)]) (T, mb, g)))
theorem J.openRec (hh : Has cs (RecP p a) r) (h : ∀ T lb, J P N cc ρ (pc p T (recC a lb) :: LockP lb a.lk :: r) Q) : J P N cc ρ cs Q := J.has hh (J.ex fun x => J.sep (h x.1 x.2))
theorem RecP.fold (h1 : Has cs (pc p T (recC a lb)) r) (h2 : Has r (LockP lb a.lk) r1) (h3 : Imp r1 ds) : Imp cs (RecP p a :: ds) :=
  Imp.trans (Imp.take h1 (Imp.take h2 h3)) (Imp.trans (Imp.sep_in (cs := [_, _])) (Imp.ex_in (A := fun x : Nat × Nat => sep [pc p x.1 (recC a x.2), LockP x.2 a.lk]) (T, lb)))
theorem LinksH.fold (h1 : Has cs (pc b T (linksC l.me mb)) r) (h2 : Has r (MtR mb g) r1) (h3 : Has r1 (RecsA (g.eraseIdx i)) r2) (he : GM.er g = l.m) (hi : aix g w = some i) (hp : (g[i]?).map (fun y => y.2.1) = some p) (h4 : Imp r2 ds) : Imp cs (LinksH b l w p :: ds) :=
  Imp.trans (Imp.take h1 (Imp.take h2 (Imp.take h3 (Imp.trans (Imp.trans h4 (Imp.pur_in ⟨he, hi, hp⟩)) (Imp.refl _)))))
    (Imp.trans (Imp.sep_in (cs := [_, _, _, _])) (Imp.ex_in (A := fun x : Nat × Nat × GM × Nat => sep [pc b x.1 (linksC l.me x.2.1), MtR x.2.1 x.2.2.1, RecsA (x.2.2.1.eraseIdx x.2.2.2), pur (GM.er x.2.2.1 = l.m ∧ aix x.2.2.1 w = some x.2.2.2 ∧ (x.2.2.1[x.2.2.2]?).map (fun y => y.2.1) = some p)]) (T, mb, g, i)))
theorem J.openLinksH (hh : Has cs (LinksH b l w p) r) (h : ∀ T mb g i, GM.er g = l.m → aix g w = some i → (∃ a0, g[i]? = some (w, (p, a0))) → J P N cc ρ (pc b T (linksC l.me mb) :: MtR mb g :: RecsA (g.eraseIdx i) :: r) Q) : J P N cc ρ cs Q :=
  J.has hh (J.ex fun x => J.sep (J.has (Has.there (Has.there (Has.there Has.here))) (J.pur fun ⟨e, hi, hp⟩ => h x.1 x.2.1 x.2.2.1 x.2.2.2 e hi (by
    obtain ⟨hlt, e⟩ := aix_some hi
    rw [List.getElem?_eq_getElem hlt] at hp ⊢
    simp only [Option.map_some, Option.some.injEq] at hp ⊢
    exact ⟨(x.2.2.1[x.2.2.2]).2.2, by rw [← e, ← hp]⟩))))
theorem JT.openRec {t : Tr} {K : Env → List Assn → Prop} (hh : Has cs (RecP p a) r) (h : ∀ T lb, JT P t ρ (pc p T (recC a lb) :: LockP lb a.lk :: r) K) : JT P t ρ cs K := JT.has hh (JT.ex fun x => JT.sep (h x.1 x.2))
theorem JT.openLinks {t : Tr} {K : Env → List Assn → Prop} (hh : Has cs (LinksP b l) r) (h : ∀ T mb g, GM.er g = l.m → JT P t ρ (pc b T (linksC l.me mb) :: MtR mb g :: RecsA g :: r) K) : JT P t ρ cs K :=
  JT.has hh (JT.ex fun x => JT.sep (JT.has (Has.there (Has.there (Has.there Has.here))) (JT.pur fun e => h x.1 x.2.1 x.2.2 e)))
theorem JT.openLinksH {t : Tr} {K : Env → List Assn → Prop} (hh : Has cs (LinksH b l w p) r) (h : ∀ T mb g i, GM.er g = l.m → aix g w = some i → (∃ a0, g[i]? = some (w, (p, a0))) → JT P t ρ (pc b T (linksC l.me mb) :: MtR mb g :: RecsA (g.eraseIdx i) :: r) K) : JT P t ρ cs K :=
  JT.has hh (JT.ex fun x => JT.sep (JT.has (Has.there (Has.there (Has.there Has.here))) (JT.pur fun ⟨e, hi, hp⟩ => h x.1 x.2.1 x.2.2.1 x.2.2.2 e hi (by
    obtain ⟨hlt, e⟩ := aix_some hi
    rw [List.getElem?_eq_getElem hlt] at hp ⊢
    simp only [Option.map_some, Option.some.injEq] at hp ⊢
    exact ⟨(x.2.2.1[x.2.2.2]).2.2, by rw [← e, ← hp]⟩))))
theorem RecsA.nil : Imp cs (RecsA [] :: cs) := Imp.sep_in (cs := [])
theorem touch_me (l : LK) (w : Vec) : (l.touch w).me = l.me := by unfold LK.touch; split <;> (try split) <;> rfl
theorem touch_isEnd (l : LK) (w : Vec) : (l.touch w).isEnd = l.isEnd := by unfold LK.isEnd; rw [touch_me]
theorem touch_may (l : LK) (w w' : Vec) : (l.touch w).may w' = l.may w' := by unfold LK.may; simp only [touch_isEnd, touch_me]
theorem touch_toLeft (l : LK) (w : Vec) (a : Ref) : (l.touch w).toLeft a = l.toLeft a := by unfold LK.toLeft; rw [touch_me]
theorem touch_toRight (l : LK) (w : Vec) (a : Ref) : (l.touch w).toRight a = l.toRight a := by unfold LK.toRight; rw [touch_me]
instance {l : LK} {w : Vec} : BP (decide (l.touch w).isEnd) l.isEnd (¬ l.isEnd) := .mk' (by simp only [touch_isEnd, decide_eq_true_eq]) .rfl
instance {l : LK} {w : Vec} {a : Ref} : BP (decide ((l.touch w).toLeft a)) (l.toLeft a) (¬ l.toLeft a) := .mk' (by simp only [touch_toLeft, decide_eq_true_eq]) .rfl
instance {l : LK} {w : Vec} {a : Ref} : BP (decide ((l.touch w).toRight a)) (l.toRight a) (¬ l.toRight a) := .mk' (by simp only [touch_toRight, decide_eq_true_eq]) .rfl
/-- The record is put back, as it is now. -/
theorem LinksH.up {cs r r1 : List Assn} {l' : LK} (h1 : Has cs (RecP p a) r) (h2 : Has r (LinksH b l w p) r1) (e : l.upd w a = l') : Up cs (LinksP b l' :: r1) := by
  subst e
  intro h hs
  have hs := hs.imp (Imp.take h1 h2)
  obtain ⟨S, H, hS, hH, hd, H1, H2, k1, k2, hd2, hc, H3, H4, k3, k4, hd3, ⟨⟨T, mb, g, i⟩, hx⟩, hr⟩ := hs
  have hs : Sat h (RecP p a :: sep [pc b T (linksC l.me mb), MtR mb g, RecsA (g.eraseIdx i), pur (GM.er g = l.m ∧ aix g w = some i ∧ (g[i]?).map (fun y => y.2.1) = some p)] :: r1) :=
    ⟨S, H, hS, hH, hd, H1, H2, k1, k2, hd2, hc, H3, H4, k3, k4, hd3, hx, hr⟩
  have hs := hs.imp (Imp.cons Imp.sep_out)
  have hpure : GM.er g = l.m ∧ aix g w = some i ∧ (g[i]?).map (fun y => y.2.1) = some p := by
    obtain ⟨S, H, _, _, _, hst⟩ := hs
    obtain ⟨_, _, _, _, _, _, hst⟩ := hst
    obtain ⟨_, _, _, _, _, _, hst⟩ := hst
    obtain ⟨_, _, _, _, _, _, hst⟩ := hst
    obtain ⟨_, _, _, _, _, _, hst⟩ := hst
    exact Imp.pur_out hst
  obtain ⟨he, hi, hp⟩ := hpure
  obtain ⟨hlt, ek⟩ := aix_some hi
  rw [List.getElem?_eq_getElem hlt] at hp
  simp only [Option.map_some, Option.some.injEq] at hp
  have hget : g[i]? = some (w, (p, (g[i]).2.2)) := by rw [List.getElem?_eq_getElem hlt, ← ek, ← hp]
  refine hs.imp ?_
  have hM : Imp [MtR mb g] [MtR mb (g.set i (w, (p, a)))] := by
    have e : (g.set i (w, (p, a))).map (fun x => (vv x.1, ptr x.2.1)) = g.map (fun x => (vv x.1, ptr x.2.1)) := by
      rw [List.map_set]
      apply List.ext_getElem? ; intro k
      rw [List.getElem?_set]
      by_cases hk : i = k
      · subst hk; rw [if_pos rfl, if_pos (by simpa using hlt), List.getElem?_map, hget]; rfl
      · simp [hk]
    rintro S H ⟨H1, H2, a1, a2, a3, ⟨x, hx⟩, a5⟩
    refine ⟨H1, H2, a1, a2, a3, ⟨x, hx.1, ?_⟩, a5⟩
    rw [e]; exact hx.2
  have hM' : ∀ r, Imp (MtR mb g :: r) (MtR mb (g.set i (w, (p, a))) :: r) := by
    intro r S H ⟨H1, H2, a1, a2, a3, a4, a5⟩
    obtain ⟨H3, H4, b1, b2, b3, b4, _⟩ := hM S H1 ⟨H1, fun _ => none, Hp.le_refl _, fun b o e => (by cases e), fun b => .inr rfl, a4, trivial⟩
    exact ⟨H1, H2, a1, a2, a3, (MtR mb (g.set i (w, (p, a)))).mono (Hp.le_refl _) b1 b4, a5⟩
  refine LinksP.fold (T := T) (mb := mb) (g := g.set i (w, (p, a))) (Has.there Has.here) (r1 := RecsA (g.set i (w, (p, a))) :: r1) ?_ Has.here ?_ (Imp.refl _)
  · refine Imp.trans Imp.swap ?_
    refine Imp.trans (Imp.cons ?_) (hM' _)
    refine Imp.trans (Imp.cons (Imp.cons Imp.drop)) ?_
    exact RecsA.put hget
  · rw [er_set, he]
    unfold LK.upd aput
    have : aix l.m w = some i := by rw [← he, er_aix, hi]
    rw [this]
end
end Go.SL
