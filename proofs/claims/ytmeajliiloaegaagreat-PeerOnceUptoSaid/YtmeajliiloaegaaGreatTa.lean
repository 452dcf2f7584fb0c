/- The walk's own words, part T: the bytes of a slice as a string. Conditions: none. -/
import Derived.Test.YtmeajliiloaegaaGreatSlQ
import Derived.Laws.BytesString
import Derived.Test.YtmeajliiloaegaaGreatVa
set_option linter.unusedSimpArgs false
set_option linter.unusedVariables false
set_option linter.unusedSectionVars false
namespace Go.SL
open Go

def byteC (b : UInt8) : List Value := [.int .u8 b.toNat]
theorem byteC_one : ∀ b : UInt8, (byteC b).length = 1 ∧ ∀ v ∈ byteC b, isOne v = true := by intro b; simp [byteC, isOne]
def strOf (xs : List UInt8) : ByteArray := ⟨xs.toArray⟩
theorem bytes_flat (xs : List UInt8) : (xs.map byteC).flatten = (xs.map fun b => (b.toNat : Int)).map (Value.int .u8) := by
  induction xs with
  | nil => rfl
  | cons b r ih => simp only [List.map_cons, List.flatten_cons, ih, byteC]; rfl
theorem fold_push (xs : List UInt8) : ∀ s : ByteArray, (xs.map fun b => (b.toNat : Int)).foldl (fun r n => r.push (UInt8.ofNat n.toNat)) s = s ++ strOf xs := by
  induction xs with
  | nil => intro s; simp only [List.map_nil, List.foldl_nil]; exact (ByteArray.append_empty).symm
  | cons b r ih =>
    intro s
    simp only [List.map_cons, List.foldl_cons]
    rw [ih]
    apply ByteArray.ext
    simp [strOf]

section
variable {P : Program} {ρ : Env} {cs r : List Assn} {t : Tr} {K : Env → List Assn → Prop}
theorem JT.bst {s d e : TypeId} {x : Operand} {dst : Nat} {o : Oper} {sv : Value} {c : Nat} {xs : List UInt8} (ho : o.op = .convert s d x) (hs : P.underlying s = some (.slice e)) (he : P.underlying e = some (.int .u8)) (hd : P.underlying d = some .string)
    [H : HS cs sv UInt8 byteC 1 c xs] (hx : ρ.ev x = some sv) (h : JT P t ((dst, .string (strOf xs)) :: ρ) cs K) : JT P (.st ⟨some dst, .raw o, none⟩ t) ρ cs K := ⟨by
  intro w0 hw
  simp only [runT, semG, Kd.sem]
  intro a w N ha hww
  obtain ⟨hz, h0, hl, ad, e1, hf⟩ := (H.h w0 hw).slice Has.here
  refine ⟨.string (strOf xs), w, ?_, Keeps.refl w, by rw [hww]; exact h.run _ hw⟩
  have hev := ha.ev hx
  unfold execOp
  rw [ho]
  refine run_v ?_
  rw [hev, e1, run_convert_bytes_string w s d e ad _ _ hs he hd]
  rw [e1] at hf
  cases ad with
  | none =>
    simp only [firstList, Option.some.injEq] at hf
    have : xs = [] := by
      cases xs with
      | nil => rfl
      | cons b r => simp [byteC] at hf
    subst this
    rfl
  | some ad =>
    simp only [firstList, Nat.mul_one] at hf
    rw [bytes_flat] at hf
    have hlc := run_loadCells (P := P) (w := w) ad xs.length 0 #[] _ (by rw [hww]; exact hf)
    rw [run_bytesToString w ad _ _ (xs.map fun b => (b.toNat : Int)) (by unfold loadCells; simpa using hlc), fold_push]
    simp [ByteArray.empty_append]⟩
end
theorem JT.cvs {α : Type} {enc : α → List Value} {sz : Nat} {s e : TypeId} {x : Operand} {dst : Nat} {o : Oper} {sv : Value} {c : Nat} {xs : List α} {P : Program} {ρ : Env} {cs r : List Assn} {t : Tr} {K : Env → List Assn → Prop}
    (ho : o.op = .convert s s x) (hs : P.underlying s = some (.slice e)) (he : P.underlying e = some (.int .u8))
    (hh : Has cs (SlT true enc sz sv c xs) r) (hne : xs ≠ []) (hx : ρ.ev x = some sv) (h : JT P t ((dst, sv) :: ρ) (SlT false enc sz sv c xs :: r) K) : JT P (.st ⟨some dst, .raw o, none⟩ t) ρ cs K := ⟨by
  intro w0 hw
  simp only [runT, semG, Kd.sem]
  intro a w N ha hww
  subst hww
  have hsat := hw.imp hh
  obtain ⟨S, H, hS, hH, hd, H1, H2, l1, l2, hd', hc, hr⟩ := hsat
  obtain ⟨hz, h0, hc⟩ := hc
  rcases hc with ⟨h1, h2, h3⟩ | ⟨b, T, pre, rest, h1, h2, h3, h4⟩
  · exact absurd (by simpa using h2) hne
  have hpt : Sat w.heap (pt b (.cells (pre ++ ((xs.map enc).flatten ++ rest)).toArray T (0, 0)) :: r) := ⟨S, H, hS, hH, hd, H1, H2, l1, l2, hd', h3, hr⟩
  have hb := hpt.get
  obtain ⟨C, hC⟩ : ∃ C, (pre ++ ((xs.map enc).flatten ++ rest)).toArray = C := ⟨_, rfl⟩
  rw [hC] at hpt hb
  have hf : (w.freeze ⟨b, C.size, none⟩ 1).heap[b]? = some (.cells C T (C.size, C.size + 1)) := by
    unfold World.freeze
    rw [if_neg (by decide)]
    simp only [Array.getElem?_modify, if_true, hb, Option.map_some]
    rfl
  have ho' : ∀ k, k ≠ b → (w.freeze ⟨b, C.size, none⟩ 1).heap[k]? = w.heap[k]? := by
    intro k hk
    unfold World.freeze
    rw [if_neg (by decide)]
    simp only [Array.getElem?_modify]
    rw [if_neg (Ne.symm hk)]
  have hev := ha.ev hx
  refine ⟨sv, w.freeze ⟨b, C.size, none⟩ 1, ?_, ?_, ?_⟩
  · unfold execOp
    rw [ho]
    refine run_v ?_
    rw [hev, h1]
    have hshape : w.shape? b = some (T, C.size) := by unfold World.shape?; rw [hb]
    simp [convert, Sem.run_bind, run_underlying hs, run_underlying he, Result.andThen, markStringish, hshape]
  · refine ⟨?_, ?_, ?_, ?_, fun k ds hk => ?_⟩
    · unfold World.freeze; rw [if_neg (by decide)]
    · unfold World.freeze; rw [if_neg (by decide)]
    · unfold World.freeze; rw [if_neg (by decide)]
    · unfold World.freeze; rw [if_neg (by decide)]; exact Nat.le_refl _
    · rw [ho' k (fun e => by subst e; rw [hb] at hk; cases hk)]; exact hk
  · refine h.run _ ?_
    have hset := hpt.set (o' := .cells C T (C.size, C.size + 1)) hf ho'
    refine hset.freeze.imp ?_
    rintro S H ⟨H1, H2, l1, l2, hd', hc, hr⟩
    refine ⟨H1, H2, l1, l2, hd', ⟨hz, h0, .inr ⟨b, pre.length, T, (C.size, C.size + 1), C, h1, h2, hc, fun i hi => ?_⟩⟩, hr⟩
    rw [← hC]
    simp only [List.getElem?_toArray]
    rw [List.getElem?_append_right (Nat.le_add_right _ _), Nat.add_sub_cancel_left, List.getElem?_append_left hi]⟩
theorem strOf_inj {xs ys : List UInt8} (h : strOf xs = strOf ys) : xs = ys := by
  have := congrArg (fun s : ByteArray => s.data.toList) h
  simpa [strOf] using this
end Go.SL

set_option linter.unusedSimpArgs false
set_option linter.unusedVariables false
namespace Go.SL
open Go
structure Ad where
  agent : Bool
  n : Int
  deriving DecidableEq, Inhabited
def adC (a : Ad) : List Value := [.bool a.agent, i64 a.n]
structure Ask where
  kind : Int
  w : Vec
  ref : Ref
  ref2 : Ref
  o : Owner
  deriving DecidableEq, Inhabited
def askC (x : Ask) : List Value := [i64 x.kind, i64 x.w.len, u64 x.w.bits, i64 x.ref.id, i64 x.ref.key.rank, u64 x.ref.key.n, i64 x.ref.vec.len, u64 x.ref.vec.bits, i64 x.ref2.id, i64 x.ref2.key.rank, u64 x.ref2.key.n, i64 x.ref2.vec.len, u64 x.ref2.vec.bits, i64 x.o.agent, i64 x.o.op]
structure Ans where
  kind : Int
  marked : Bool
  left : Ref
  right : Ref
  value : List UInt8
  deriving DecidableEq, Inhabited
/-- An answer, and where its value lies. -/
structure AnsE where
  x : Ans
  a : Option Addr
  c : Nat
  deriving Inhabited
def ansEC (y : AnsE) : List Value := [i64 y.x.kind, .bool y.x.marked, i64 y.x.left.id, i64 y.x.left.key.rank, u64 y.x.left.key.n, i64 y.x.left.vec.len, u64 y.x.left.vec.bits, i64 y.x.right.id, i64 y.x.right.key.rank, u64 y.x.right.key.n, i64 y.x.right.vec.len, u64 y.x.right.vec.bits, .slice y.a y.x.value.length y.c]
structure Pkt where
  reply : Bool
  src : Ad
  dst : Ad
  id : Int
  ask : Ask
  ans : Ans
  deriving DecidableEq, Inhabited
/-- A packet, and where its value lies. -/
structure PktE where
  p : Pkt
  a : Option Addr
  c : Nat
  deriving Inhabited
def pktEC (y : PktE) : List Value := [.bool y.p.reply, .bool y.p.src.agent, i64 y.p.src.n, .bool y.p.dst.agent, i64 y.p.dst.n, i64 y.p.id,
  i64 y.p.ask.kind, i64 y.p.ask.w.len, u64 y.p.ask.w.bits, i64 y.p.ask.ref.id, i64 y.p.ask.ref.key.rank, u64 y.p.ask.ref.key.n, i64 y.p.ask.ref.vec.len, u64 y.p.ask.ref.vec.bits, i64 y.p.ask.ref2.id, i64 y.p.ask.ref2.key.rank, u64 y.p.ask.ref2.key.n, i64 y.p.ask.ref2.vec.len, u64 y.p.ask.ref2.vec.bits, i64 y.p.ask.o.agent, i64 y.p.ask.o.op,
  i64 y.p.ans.kind, .bool y.p.ans.marked, i64 y.p.ans.left.id, i64 y.p.ans.left.key.rank, u64 y.p.ans.left.key.n, i64 y.p.ans.left.vec.len, u64 y.p.ans.left.vec.bits, i64 y.p.ans.right.id, i64 y.p.ans.right.key.rank, u64 y.p.ans.right.key.n, i64 y.p.ans.right.vec.len, u64 y.p.ans.right.vec.bits, .slice y.a y.p.ans.value.length y.c]
abbrev p0 (p : Pkt) : PktE := ⟨p, none, 0⟩
abbrev pkv (y : PktE) : Value := .agg (pktEC y).toArray
abbrev anv (y : AnsE) : Value := .agg (ansEC y).toArray
abbrev askv (y : Ask) : Value := .agg (askC y).toArray
abbrev adv (y : Ad) : Value := .agg (adC y).toArray
def zAsk : Ask := ⟨0, zV, zR, zR, zO⟩
def zAns : Ans := ⟨0, false, zR, zR, []⟩
def zAd : Ad := ⟨false, 0⟩
def zPkt : Pkt := ⟨false, zAd, zAd, 0, zAsk, zAns⟩
theorem adC_one : ∀ o : Ad, (adC o).length = 2 ∧ ∀ v ∈ adC o, isOne v = true := by intro o; simp [adC, isOne]
theorem askC_one : ∀ o : Ask, (askC o).length = 15 ∧ ∀ v ∈ askC o, isOne v = true := by intro o; simp [askC, isOne]
theorem ansEC_one : ∀ o : AnsE, (ansEC o).length = 13 ∧ ∀ v ∈ ansEC o, isOne v = true := by intro o; simp [ansEC, isOne]
theorem pktEC_one : ∀ o : PktE, (pktEC o).length = 34 ∧ ∀ v ∈ pktEC o, isOne v = true := by intro o; simp [pktEC, isOne]
instance : FS askC 1 2 vecC Ask.w := ⟨fun _ => rfl⟩
instance : FS askC 3 5 refC Ask.ref := ⟨fun _ => rfl⟩
instance : FS askC 8 5 refC Ask.ref2 := ⟨fun _ => rfl⟩
instance : FS askC 13 2 ownerC Ask.o := ⟨fun _ => rfl⟩
instance : FS ansEC 2 5 refC (fun y => y.x.left) := ⟨fun _ => rfl⟩
instance : FS ansEC 7 5 refC (fun y => y.x.right) := ⟨fun _ => rfl⟩
instance : FS pktEC 1 2 adC (fun y => y.p.src) := ⟨fun _ => rfl⟩
instance : FS pktEC 3 2 adC (fun y => y.p.dst) := ⟨fun _ => rfl⟩
instance : FS pktEC 6 15 askC (fun y => y.p.ask) := ⟨fun _ => rfl⟩
instance : FS pktEC 21 13 ansEC (fun y => ⟨y.p.ans, y.a, y.c⟩) := ⟨fun _ => rfl⟩
theorem Ad.dec (a b : Ad) : decide (a = b) = ((a.agent == b.agent) && (decide (a.n = b.n) && true)) := by cases a; cases b; rw [Bool.eq_iff_iff]; simp
instance : EqEnc [.b, .i] adC := ⟨fun a b => by rw [Ad.dec]; exact .b (.i .nil)⟩
theorem Ask.dec (a b : Ask) : decide (a = b) = (decide (a.kind = b.kind) && (decide (a.w.len = b.w.len) && (decide (a.w.bits = b.w.bits) && (decide (a.ref.id = b.ref.id) && (decide (a.ref.key.rank = b.ref.key.rank) && (decide (a.ref.key.n = b.ref.key.n) && (decide (a.ref.vec.len = b.ref.vec.len) && (decide (a.ref.vec.bits = b.ref.vec.bits) && (decide (a.ref2.id = b.ref2.id) && (decide (a.ref2.key.rank = b.ref2.key.rank) && (decide (a.ref2.key.n = b.ref2.key.n) && (decide (a.ref2.vec.len = b.ref2.vec.len) && (decide (a.ref2.vec.bits = b.ref2.vec.bits) && (decide (a.o.agent = b.o.agent) && (decide (a.o.op = b.o.op) && true))))))))))))))) := by
  obtain ⟨k, ⟨v1, v2⟩, ⟨i, ⟨k1, n1⟩, ⟨l1, m1⟩⟩, ⟨i2, ⟨k2, n2⟩, ⟨l2, m2⟩⟩, ⟨o1, o2⟩⟩ := a
  obtain ⟨k', ⟨v1', v2'⟩, ⟨i', ⟨k1', n1'⟩, ⟨l1', m1'⟩⟩, ⟨i2', ⟨k2', n2'⟩, ⟨l2', m2'⟩⟩, ⟨o1', o2'⟩⟩ := b
  rw [Bool.eq_iff_iff]; simp only [decide_eq_true_eq, Bool.and_eq_true, Ask.mk.injEq, Ref.mk.injEq, Key.mk.injEq, Vec.mk.injEq, Owner.mk.injEq, and_assoc, and_true]
instance : EqEnc [.i, .i, .i, .i, .i, .i, .i, .i, .i, .i, .i, .i, .i, .i, .i] askC := ⟨fun a b => by rw [Ask.dec]; exact .i (.i (.i (.i (.i (.i (.i (.i (.i (.i (.i (.i (.i (.i (.i .nil))))))))))))))⟩

/-- A field of pack, its bytes aside. -/
structure Fld where
  kind : Int
  n : Int
  i : Int
  t : Bool
  b : List UInt8
  v : Vec
  k : Key
  r : Ref
  deriving DecidableEq, Inhabited
def fdC (x : Fld) (a : Option Addr) (c : Nat) : List Value := [i64 x.kind, u64 x.n, i64 x.i, .bool x.t, .slice a x.b.length c, i64 x.v.len, u64 x.v.bits, i64 x.k.rank, u64 x.k.n, i64 x.r.id, i64 x.r.key.rank, u64 x.r.key.n, i64 x.r.vec.len, u64 x.r.vec.bits]
/-- Layer 4: may an ask be? -/
def refOk (r : Ref) : Prop := keyOk r.key ∧ vecOk r.vec
instance (r : Ref) : Decidable (refOk r) := by unfold refOk; infer_instance
def Ask.hasW (k : Int) : Prop := k = 1 ∨ k = 3 ∨ k = 4 ∨ k = 5 ∨ k = 6 ∨ k = 7 ∨ k = 8
def Ask.hasR (k : Int) : Prop := k = 5 ∨ k = 6 ∨ k = 7
def Ask.hasO (k : Int) : Prop := k = 3 ∨ k = 4 ∨ k = 5 ∨ k = 7 ∨ k = 8
instance (k : Int) : Decidable (Ask.hasW k) := by unfold Ask.hasW; infer_instance
instance (k : Int) : Decidable (Ask.hasR k) := by unfold Ask.hasR; infer_instance
instance (k : Int) : Decidable (Ask.hasO k) := by unfold Ask.hasO; infer_instance
/-- An ask with its kind's fields alone. -/
def Ask.only (a : Ask) : Ask := ⟨a.kind, if Ask.hasW a.kind then a.w else zV, if Ask.hasR a.kind then a.ref else zR, if a.kind = 7 then a.ref2 else zR, if Ask.hasO a.kind then a.o else zO⟩
def Ask.ok (a : Ask) : Prop := 1 ≤ a.kind ∧ a.kind ≤ 10 ∧ a = a.only ∧ (Ask.hasW a.kind → vecOk a.w) ∧ (Ask.hasR a.kind → refOk a.ref) ∧ (a.kind = 7 → refOk a.ref2)
instance (a : Ask) : Decidable a.ok := by unfold Ask.ok; infer_instance
def sideOk (r : Ref) : Prop := r = zR ∨ refOk r
instance (r : Ref) : Decidable (sideOk r) := by unfold sideOk; infer_instance
def Ans.ok (a : Ans) : Prop := (a.kind = 1 ∧ sideOk a.left ∧ sideOk a.right ∧ a.value.length ≤ 1024) ∨ (a.kind = 3 ∧ sideOk a.left ∧ sideOk a.right ∧ a.value = []) ∨ ((a.kind = 2 ∨ a.kind = 4) ∧ a = { zAns with kind := a.kind })
instance (a : Ans) : Decidable a.ok := by unfold Ans.ok; infer_instance
/-- May a packet be? -/
def Pkt.ok (p : Pkt) : Prop := 1 ≤ p.id ∧ p.id ≤ 4611686018427387904 ∧ (p.reply = true → p.ask = zAsk ∧ p.ans.ok) ∧ (p.reply = false → p.ans = zAns ∧ p.ask.ok)
instance (p : Pkt) : Decidable p.ok := by unfold Pkt.ok; infer_instance
def askE (a : Ask) : Int := if a.ok then 0 else 40
def ansE (a : Ans) : Int := if a.ok then 0 else 40
def pktE (p : Pkt) : Int := if p.ok then 0 else 40
/-- The bytes of an answer's value. -/
abbrev byO (a : Option Addr) (c : Nat) (v : List UInt8) : Assn := SlT false byteC 1 (.slice a v.length c) c v
abbrev pkO (y : PktE) : Assn := byO y.a y.c y.p.ans.value
theorem sep_snoc {α : Type} {f : α → Assn} {l : List α} {x : α} {r : List Assn} : Imp (f x :: sep (l.map f) :: r) (sep ((l ++ [x]).map f) :: r) := by
  have h := sep_push (c := f x) (A := l.map f) (B := []) (r := r)
  rw [List.append_nil] at h
  rw [List.map_append, List.map_cons, List.map_nil]; exact h
theorem sep_cons {α : Type} {f : α → Assn} {l : List α} {x : α} {r : List Assn} : Imp (f x :: sep (l.map f) :: r) (sep ((x :: l).map f) :: r) := sep_push (A := [])
theorem sep_nil {r : List Assn} : Imp r (sep [] :: r) := Imp.sep_in (cs := [])
end Go.SL
