/- Layer 6: a caller and an answerer (plain Lean); how they lie in memory. Conditions: none. -/
import Derived.Test.YtienlpaehgdpaaaTb
set_option linter.unusedSimpArgs false
set_option linter.unusedVariables false
set_option linter.unusedSectionVars false
namespace Go.SL
open Go
/-- The bytes of an answer's value. -/
abbrev byO (a : Option Addr) (c : Nat) (v : List UInt8) : Assn := SlT false byteC 1 (.slice a v.length c) c v
abbrev pkO (y : PktE) : Assn := byO y.a y.c y.p.ans.value
/-- An open request, and how old it is. -/
structure CallE where
  p : Pkt
  age : Int
  deriving DecidableEq, Inhabited
def callC (x : CallE) : List Value := [.bool x.p.reply, .bool x.p.src.agent, i64 x.p.src.n, .bool x.p.dst.agent, i64 x.p.dst.n, i64 x.p.id,
  i64 x.p.ask.kind, i64 x.p.ask.w.len, u64 x.p.ask.w.bits, i64 x.p.ask.ref.id, i64 x.p.ask.ref.key.rank, u64 x.p.ask.ref.key.n, i64 x.p.ask.ref.vec.len, u64 x.p.ask.ref.vec.bits, i64 x.p.ask.ref2.id, i64 x.p.ask.ref2.key.rank, u64 x.p.ask.ref2.key.n, i64 x.p.ask.ref2.vec.len, u64 x.p.ask.ref2.vec.bits, i64 x.p.ask.o.agent, i64 x.p.ask.o.op,
  i64 x.p.ans.kind, .bool x.p.ans.marked, i64 x.p.ans.left.id, i64 x.p.ans.left.key.rank, u64 x.p.ans.left.key.n, i64 x.p.ans.left.vec.len, u64 x.p.ans.left.vec.bits, i64 x.p.ans.right.id, i64 x.p.ans.right.key.rank, u64 x.p.ans.right.key.n, i64 x.p.ans.right.vec.len, u64 x.p.ans.right.vec.bits, .slice none x.p.ans.value.length 0, i64 x.age]
theorem callC_one : ∀ o : CallE, (callC o).length = 35 ∧ ∀ v ∈ callC o, isOne v = true := by intro o; simp [callC, isOne]
instance : FS callC 0 34 pktEC (fun x => p0 x.p) := ⟨fun _ => rfl⟩
instance : FS callC 3 2 adC (fun x => x.p.dst) := ⟨fun _ => rfl⟩
structure Clr where
  me : Ad
  again : Int
  last : Int
  L : List CallE
  deriving Inhabited
def clrC (C : Clr) (mb : Nat) : List Value := [.bool C.me.agent, i64 C.me.n, i64 C.again, i64 C.last, .map (some mb)]
/-- What holds of every caller. -/
structure Clr.Ok (C : Clr) : Prop where
  srt : C.L.Pairwise (fun x y => x.p.id < y.p.id)
  rng : ∀ x ∈ C.L, 1 ≤ x.p.id ∧ x.p.id ≤ C.last
  ans : ∀ x ∈ C.L, x.p.ans = zAns
  age : ∀ x ∈ C.L, 0 ≤ x.age
  len : C.L.length ≤ 256
  lst : 0 ≤ C.last ∧ C.last ≤ 4611686018427387904
  agn : 1 ≤ C.again
abbrev mkReq (C : Clr) (to : Ad) (a : Ask) : Pkt := ⟨false, C.me, to, C.last + 1, a, zAns⟩
def Clr.ask (C : Clr) (to : Ad) (a : Ask) : Clr × Pkt × Int :=
  if ¬ a.ok then (C, zPkt, 40) else if 256 ≤ C.L.length then (C, zPkt, 3) else if 4611686018427387904 ≤ C.last then (C, zPkt, 60) else
  ({ C with last := C.last + 1, L := C.L ++ [⟨mkReq C to a, 0⟩] }, mkReq C to a, 0)
def Clr.ix (C : Clr) (id : Int) : Option Nat := C.L.findIdx? fun x => decide (id = x.p.id)
def Clr.fin (C : Clr) (id : Int) : Clr × Pkt × Bool := match C.ix id with
  | none => (C, zPkt, false)
  | some i => ({ C with L := C.L.eraseIdx i }, (nth C.L i).p, true)
def Clr.take (C : Clr) (p : Pkt) : Clr × Pkt × Bool :=
  if p.ok ∧ p.reply = true ∧ p.dst = C.me then match C.ix p.id with
    | none => (C, zPkt, false)
    | some i => if (nth C.L i).p.dst = p.src then C.fin p.id else (C, zPkt, false)
  else (C, zPkt, false)
def CallE.up (x : CallE) : CallE := { x with age := x.age + 1 }
def Clr.due (C : Clr) (x : CallE) : Bool := decide (Int.tmod (x.age + 1) C.again = 0)
def Clr.tick (C : Clr) : Clr × List Pkt := ({ C with L := C.L.map CallE.up }, (C.L.filter C.due).map (·.p))
def Clr.opn (C : Clr) : List Pkt := C.L.map (·.p)

/-- A request that was heard, as it lies in memory. -/
structure KnE where
  p : PktE
  done : Bool
  reply : PktE
  deriving Inhabited
def knC (x : KnE) : List Value := [.bool x.p.p.reply, .bool x.p.p.src.agent, i64 x.p.p.src.n, .bool x.p.p.dst.agent, i64 x.p.p.dst.n, i64 x.p.p.id,
  i64 x.p.p.ask.kind, i64 x.p.p.ask.w.len, u64 x.p.p.ask.w.bits, i64 x.p.p.ask.ref.id, i64 x.p.p.ask.ref.key.rank, u64 x.p.p.ask.ref.key.n, i64 x.p.p.ask.ref.vec.len, u64 x.p.p.ask.ref.vec.bits, i64 x.p.p.ask.ref2.id, i64 x.p.p.ask.ref2.key.rank, u64 x.p.p.ask.ref2.key.n, i64 x.p.p.ask.ref2.vec.len, u64 x.p.p.ask.ref2.vec.bits, i64 x.p.p.ask.o.agent, i64 x.p.p.ask.o.op,
  i64 x.p.p.ans.kind, .bool x.p.p.ans.marked, i64 x.p.p.ans.left.id, i64 x.p.p.ans.left.key.rank, u64 x.p.p.ans.left.key.n, i64 x.p.p.ans.left.vec.len, u64 x.p.p.ans.left.vec.bits, i64 x.p.p.ans.right.id, i64 x.p.p.ans.right.key.rank, u64 x.p.p.ans.right.key.n, i64 x.p.p.ans.right.vec.len, u64 x.p.p.ans.right.vec.bits, .slice x.p.a x.p.p.ans.value.length x.p.c,
  .bool x.done,
  .bool x.reply.p.reply, .bool x.reply.p.src.agent, i64 x.reply.p.src.n, .bool x.reply.p.dst.agent, i64 x.reply.p.dst.n, i64 x.reply.p.id,
  i64 x.reply.p.ask.kind, i64 x.reply.p.ask.w.len, u64 x.reply.p.ask.w.bits, i64 x.reply.p.ask.ref.id, i64 x.reply.p.ask.ref.key.rank, u64 x.reply.p.ask.ref.key.n, i64 x.reply.p.ask.ref.vec.len, u64 x.reply.p.ask.ref.vec.bits, i64 x.reply.p.ask.ref2.id, i64 x.reply.p.ask.ref2.key.rank, u64 x.reply.p.ask.ref2.key.n, i64 x.reply.p.ask.ref2.vec.len, u64 x.reply.p.ask.ref2.vec.bits, i64 x.reply.p.ask.o.agent, i64 x.reply.p.ask.o.op,
  i64 x.reply.p.ans.kind, .bool x.reply.p.ans.marked, i64 x.reply.p.ans.left.id, i64 x.reply.p.ans.left.key.rank, u64 x.reply.p.ans.left.key.n, i64 x.reply.p.ans.left.vec.len, u64 x.reply.p.ans.left.vec.bits, i64 x.reply.p.ans.right.id, i64 x.reply.p.ans.right.key.rank, u64 x.reply.p.ans.right.key.n, i64 x.reply.p.ans.right.vec.len, u64 x.reply.p.ans.right.vec.bits, .slice x.reply.a x.reply.p.ans.value.length x.reply.c]
theorem knC_one : ∀ o : KnE, (knC o).length = 69 ∧ ∀ v ∈ knC o, isOne v = true := by intro o; simp [knC, isOne]
instance : FS knC 0 34 pktEC KnE.p := ⟨fun _ => rfl⟩
instance : FS knC 35 34 pktEC KnE.reply := ⟨fun _ => rfl⟩
instance : FS knC 1 2 adC (fun x => x.p.p.src) := ⟨fun _ => rfl⟩
def KnE.pl (x : KnE) : Pkt × Option Pkt := (x.p.p, if x.done then some x.reply.p else none)
/-- Whom a request is from, and its number. -/
structure Frm where
  a : Ad
  id : Int
  deriving DecidableEq, Inhabited
def frmC (x : Frm) : List Value := [.bool x.a.agent, i64 x.a.n, i64 x.id]
theorem frmC_one : ∀ o : Frm, (frmC o).length = 3 ∧ ∀ v ∈ frmC o, isOne v = true := by intro o; simp [frmC, isOne]
theorem Frm.dec (a b : Frm) : decide (a = b) = ((a.a.agent == b.a.agent) && (decide (a.a.n = b.a.n) && (decide (a.id = b.id) && true))) := by
  obtain ⟨⟨a1, a2⟩, a3⟩ := a; obtain ⟨⟨b1, b2⟩, b3⟩ := b
  rw [Bool.eq_iff_iff]; simp [and_assoc]
instance : EqEnc [.b, .i, .i] frmC := ⟨fun a b => by rw [Frm.dec]; exact .b (.i (.i .nil))⟩
instance : FS frmC 0 2 adC Frm.a := ⟨fun _ => rfl⟩
abbrev frv (x : Frm) : Value := .agg (frmC x).toArray
structure Anr where
  me : Ad
  L : List (Pkt × Option Pkt)
  deriving Inhabited
def Anr.ix (A : Anr) (src : Ad) (id : Int) : Option Nat := A.L.findIdx? fun x => decide ((⟨src, id⟩ : Frm) = ⟨x.1.src, x.1.id⟩)
def Anr.take (A : Anr) (p : Pkt) : Anr × Pkt × Int :=
  if p.ok ∧ p.reply = false ∧ p.dst = A.me then match A.ix p.src p.id with
    | some i => match (nth A.L i).2 with
      | some r => (A, r, 3)
      | none => (A, zPkt, 2)
    | none => if 65536 ≤ A.L.length then (A, zPkt, 0) else ({ A with L := A.L ++ [(p, none)] }, zPkt, 1)
  else (A, zPkt, 0)
abbrev mkRep (p : Pkt) (x : Ans) : Pkt := ⟨true, p.dst, p.src, p.id, zAsk, x⟩
def Anr.reply (A : Anr) (src : Ad) (id : Int) (x : Ans) : Anr × Pkt × Int := match A.ix src id with
  | none => (A, zPkt, 61)
  | some i => match (nth A.L i).2 with
    | some _ => (A, zPkt, 61)
    | none => if (nth A.L i).1.ok ∧ (nth A.L i).1.reply = false ∧ x.ok then ({ A with L := A.L.set i ((nth A.L i).1, some (mkRep (nth A.L i).1 x)) }, mkRep (nth A.L i).1 x, 0) else (A, zPkt, 40)
def Anr.waits (A : Anr) : List Pkt := (A.L.filter fun x => x.2.isNone).map (·.1)

/-! ### Memory -/
abbrev CM := List (Int × (Nat × CallE))
def CallsA (g : CM) : Assn := sep (g.map fun x => pc x.2.1 132 (callC x.2.2))
abbrev MtC (mb : Nat) (g : CM) : Assn := Mt mb i64 (fun x : Nat × CallE => ptr x.1) g
def CM.of (g : CM) (L : List CallE) : Prop := g.map (fun y => y.2.2) = L ∧ ∀ y ∈ g, y.1 = y.2.2.p.id
def CallerP (b : Nat) (C : Clr) : Assn := ex fun x : Nat × CM => sep [pc b 104 (clrC C x.1), MtC x.1 x.2, CallsA x.2, pur (CM.of x.2 C.L)]
def rclrC (C : Clr) (a : Option Addr) (c : Nat) : List Value := [.bool C.me.agent, i64 C.me.n, i64 C.again, i64 C.last, .slice a C.L.length c]
def RCallerP (b : Nat) (C : Clr) : Assn := ex fun x : Option Addr × Nat => sep [pc b 127 (rclrC C x.1 x.2), SlT false callC 35 (.slice x.1 C.L.length x.2) x.2 C.L]
abbrev AM := List (Frm × (Nat × KnE))
def KnP (p : Nat) (k : KnE) : Assn := sep [pc p 144 (knC k), pkO k.p, pkO k.reply]
def KnsA (g : AM) : Assn := sep (g.map fun x => KnP x.2.1 x.2.2)
abbrev MtA (mb : Nat) (g : AM) : Assn := Mt mb frv (fun x : Nat × KnE => ptr x.1) g
def AM.of (g : AM) (L : List (Pkt × Option Pkt)) : Prop := g.map (fun y => y.2.2.pl) = L ∧ ∀ y ∈ g, y.1 = ⟨y.2.2.p.p.src, y.2.2.p.p.id⟩
def anrC (A : Anr) (mb n : Nat) (a : Option Addr) (c : Nat) : List Value := [.bool A.me.agent, i64 A.me.n, .map (some mb), .slice a n c]
def AnswererP (b : Nat) (A : Anr) : Assn := ex fun x : Nat × AM × Option Addr × Nat =>
  sep [pc b 110 (anrC A x.1 (x.2.1.map (·.1)).length x.2.2.1 x.2.2.2), MtA x.1 x.2.1, KnsA x.2.1, SlT true frmC 3 (.slice x.2.2.1 (x.2.1.map (·.1)).length x.2.2.2) x.2.2.2 (x.2.1.map (·.1)), pur (AM.of x.2.1 A.L)]
/-- The bytes of a row of packets. -/
def PksA (xs : List PktE) : Assn := sep (xs.map pkO)
def KbA (xs : List KnE) : Assn := sep [PksA (xs.map (·.p)), PksA (xs.map (·.reply))]
def ranrC (A : Anr) (n : Nat) (a : Option Addr) (c : Nat) : List Value := [.bool A.me.agent, i64 A.me.n, .slice a n c]
def RAnswererP (b : Nat) (A : Anr) : Assn := ex fun x : Option Addr × Nat × List KnE =>
  sep [pc b 94 (ranrC A x.2.2.length x.1 x.2.1), SlT false knC 69 (.slice x.1 x.2.2.length x.2.1) x.2.1 x.2.2, KbA x.2.2, pur (x.2.2.map KnE.pl = A.L)]
section
variable {P : Program} {N : Nat} {ρ : Env} {cs r r1 r2 r3 ds : List Assn} {cc : CC} {t : Tr} {K : Env → List Assn → Prop} {Q : Exit → Env → List Assn → Prop} {b mb p c i : Nat} {a : Option Addr} {C : Clr} {A : Anr} {g : CM} {h : AM}
theorem J.openClr (hh : Has cs (CallerP b C) r) (h : ∀ mb g, CM.of g C.L → J P N cc ρ (pc b 104 (clrC C mb) :: MtC mb g :: CallsA g :: r) Q) : J P N cc ρ cs Q :=
  J.has hh (J.ex fun x => J.sep (J.has (Has.there (Has.there (Has.there Has.here))) (J.pur fun e => h x.1 x.2 e)))
theorem JT.openClr (hh : Has cs (CallerP b C) r) (h : ∀ mb g, CM.of g C.L → JT P t ρ (pc b 104 (clrC C mb) :: MtC mb g :: CallsA g :: r) K) : JT P t ρ cs K :=
  JT.has hh (JT.ex fun x => JT.sep (JT.has (Has.there (Has.there (Has.there Has.here))) (JT.pur fun e => h x.1 x.2 e)))
theorem CallerP.fold (h1 : Has cs (pc b 104 (clrC C mb)) r) (h2 : Has r (MtC mb g) r1) (h3 : Has r1 (CallsA g) r2) (e : CM.of g C.L) (h4 : Imp r2 ds) : Imp cs (CallerP b C :: ds) :=
  Imp.trans (Imp.take h1 (Imp.take h2 (Imp.take h3 (Imp.trans (Imp.trans h4 (Imp.pur_in e)) (Imp.refl _)))))
    (Imp.trans (Imp.sep_in (cs := [_, _, _, _])) (Imp.ex_in (A := fun x : Nat × CM => sep [pc b 104 (clrC C x.1), MtC x.1 x.2, CallsA x.2, pur (CM.of x.2 C.L)]) (mb, g)))
theorem J.openRClr (hh : Has cs (RCallerP b C) r) (h : ∀ a c, C.L.length ≤ c → C.L.length ≤ 140737488355328 → J P N cc ρ (pc b 127 (rclrC C a c) :: SlT false callC 35 (.slice a C.L.length c) c C.L :: r) Q) : J P N cc ρ cs Q :=
  J.has hh (J.ex fun x => J.sep (J.slF (Has.there Has.here) fun h1 h2 _ => h x.1 x.2 h1 h2))
theorem RCallerP.fold (h1 : Has cs (pc b 127 (rclrC C a c)) r) (h2 : Has r (SlT false callC 35 (.slice a C.L.length c) c C.L) r1) (h3 : Imp r1 ds) : Imp cs (RCallerP b C :: ds) :=
  Imp.trans (Imp.take h1 (Imp.take h2 h3)) (Imp.trans (Imp.sep_in (cs := [_, _])) (Imp.ex_in (A := fun x : Option Addr × Nat => sep [pc b 127 (rclrC C x.1 x.2), SlT false callC 35 (.slice x.1 C.L.length x.2) x.2 C.L]) (a, c)))
theorem J.openKn {k : KnE} (hh : Has cs (KnP p k) r) (h : J P N cc ρ (pc p 144 (knC k) :: pkO k.p :: pkO k.reply :: r) Q) : J P N cc ρ cs Q := J.has hh (J.sep h)
theorem JT.openKn {k : KnE} (hh : Has cs (KnP p k) r) (h : JT P t ρ (pc p 144 (knC k) :: pkO k.p :: pkO k.reply :: r) K) : JT P t ρ cs K := JT.has hh (JT.sep h)
theorem KnP.fold {k : KnE} (h1 : Has cs (pc p 144 (knC k)) r) (h2 : Has r (pkO k.p) r1) (h3 : Has r1 (pkO k.reply) r2) (h4 : Imp r2 ds) : Imp cs (KnP p k :: ds) :=
  Imp.trans (Imp.take h1 (Imp.take h2 (Imp.take h3 h4))) (Imp.sep_in (cs := [_, _, _]))
theorem J.openAnr (hh : Has cs (AnswererP b A) r) (h : ∀ mb (g : AM) a c, AM.of g A.L → (g.map (·.1)).length ≤ c → J P N cc ρ (pc b 110 (anrC A mb (g.map (·.1)).length a c) :: MtA mb g :: KnsA g :: SlT true frmC 3 (.slice a (g.map (·.1)).length c) c (g.map (·.1)) :: r) Q) : J P N cc ρ cs Q :=
  J.has hh (J.ex fun x => J.sep (J.has (Has.there (Has.there (Has.there (Has.there Has.here)))) (J.pur fun e => J.slF (Has.there (Has.there (Has.there Has.here))) fun h1 h2 _ => h x.1 x.2.1 x.2.2.1 x.2.2.2 e h1)))
theorem JT.openAnr (hh : Has cs (AnswererP b A) r) (h : ∀ mb (g : AM) a c, AM.of g A.L → (g.map (·.1)).length ≤ c → JT P t ρ (pc b 110 (anrC A mb (g.map (·.1)).length a c) :: MtA mb g :: KnsA g :: SlT true frmC 3 (.slice a (g.map (·.1)).length c) c (g.map (·.1)) :: r) K) : JT P t ρ cs K :=
  JT.has hh (JT.ex fun x => JT.sep (JT.has (Has.there (Has.there (Has.there (Has.there Has.here)))) (JT.pur fun e => JT.fact (fun _ hs => hs.capF (Has.there (Has.there (Has.there Has.here)))) fun h1 => h x.1 x.2.1 x.2.2.1 x.2.2.2 e h1)))
theorem AnswererP.fold (h1 : Has cs (pc b 110 (anrC A mb (h.map (·.1)).length a c)) r) (h2 : Has r (MtA mb h) r1) (h3 : Has r1 (KnsA h) r2) (h4 : Has r2 (SlT true frmC 3 (.slice a (h.map (·.1)).length c) c (h.map (·.1))) r3) (e : AM.of h A.L) (h5 : Imp r3 ds) : Imp cs (AnswererP b A :: ds) :=
  Imp.trans (Imp.take h1 (Imp.take h2 (Imp.take h3 (Imp.take h4 (Imp.trans (Imp.trans h5 (Imp.pur_in e)) (Imp.refl _))))))
    (Imp.trans (Imp.sep_in (cs := [_, _, _, _, _])) (Imp.ex_in (A := fun x : Nat × AM × Option Addr × Nat =>
      sep [pc b 110 (anrC A x.1 (x.2.1.map (·.1)).length x.2.2.1 x.2.2.2), MtA x.1 x.2.1, KnsA x.2.1, SlT true frmC 3 (.slice x.2.2.1 (x.2.1.map (·.1)).length x.2.2.2) x.2.2.2 (x.2.1.map (·.1)), pur (AM.of x.2.1 A.L)]) (mb, h, a, c)))
theorem J.openRAnr (hh : Has cs (RAnswererP b A) r) (h : ∀ a c (xs : List KnE), xs.map KnE.pl = A.L → xs.length ≤ c → xs.length ≤ 140737488355328 → J P N cc ρ (pc b 94 (ranrC A xs.length a c) :: SlT false knC 69 (.slice a xs.length c) c xs :: KbA xs :: r) Q) : J P N cc ρ cs Q :=
  J.has hh (J.ex fun x => J.sep (J.has (Has.there (Has.there (Has.there Has.here))) (J.pur fun e => J.slF (Has.there Has.here) fun h1 h2 _ => h x.1 x.2.1 x.2.2 e h1 h2)))
theorem RAnswererP.fold {xs : List KnE} (h1 : Has cs (pc b 94 (ranrC A xs.length a c)) r) (h2 : Has r (SlT false knC 69 (.slice a xs.length c) c xs) r1) (h3 : Has r1 (KbA xs) r2) (e : xs.map KnE.pl = A.L) (h4 : Imp r2 ds) : Imp cs (RAnswererP b A :: ds) :=
  Imp.trans (Imp.take h1 (Imp.take h2 (Imp.take h3 (Imp.trans (Imp.trans h4 (Imp.pur_in e)) (Imp.refl _)))))
    (Imp.trans (Imp.sep_in (cs := [_, _, _, _])) (Imp.ex_in (A := fun x : Option Addr × Nat × List KnE =>
      sep [pc b 94 (ranrC A x.2.2.length x.1 x.2.1), SlT false knC 69 (.slice x.1 x.2.2.length x.2.1) x.2.1 x.2.2, KbA x.2.2, pur (x.2.2.map KnE.pl = A.L)]) (a, c, xs)))
/-! Rows of things apart -/
theorem sep_take {α : Type} {f : α → Assn} {l : List α} {i : Nat} {x : α} (h : l[i]? = some x) {r : List Assn} : Imp (sep (l.map f) :: r) (f x :: sep ((l.eraseIdx i).map f) :: r) := by
  obtain ⟨A, B, rfl, rfl, e⟩ := eraseIdx_split h
  rw [e, List.map_append, List.map_cons, List.map_append]; exact sep_pull
theorem sep_put {α : Type} {f : α → Assn} {l : List α} {i : Nat} {x y : α} (h : l[i]? = some x) {r : List Assn} : Imp (f y :: sep ((l.eraseIdx i).map f) :: r) (sep ((l.set i y).map f) :: r) := by
  obtain ⟨A, B, rfl, rfl, e⟩ := eraseIdx_split h
  rw [e, List.map_append]
  have : (A ++ x :: B).set A.length y = A ++ y :: B := by simp
  rw [this, List.map_append, List.map_cons]; exact sep_push
theorem sep_snoc {α : Type} {f : α → Assn} {l : List α} {x : α} {r : List Assn} : Imp (f x :: sep (l.map f) :: r) (sep ((l ++ [x]).map f) :: r) := by
  have h := sep_push (c := f x) (A := l.map f) (B := []) (r := r)
  rw [List.append_nil] at h
  rw [List.map_append, List.map_cons, List.map_nil]; exact h
theorem sep_cons {α : Type} {f : α → Assn} {l : List α} {x : α} {r : List Assn} : Imp (f x :: sep (l.map f) :: r) (sep ((x :: l).map f) :: r) := sep_push (A := [])
theorem sep_nil {r : List Assn} : Imp r (sep [] :: r) := Imp.sep_in (cs := [])
theorem CallsA.take {x : Int × (Nat × CallE)} (h : g[i]? = some x) : Imp (CallsA g :: r) (pc x.2.1 132 (callC x.2.2) :: CallsA (g.eraseIdx i) :: r) := sep_take (f := fun x : Int × (Nat × CallE) => pc x.2.1 132 (callC x.2.2)) h
theorem CallsA.put {x : Int × (Nat × CallE)} (y : Int × (Nat × CallE)) (h : g[i]? = some x) : Imp (pc y.2.1 132 (callC y.2.2) :: CallsA (g.eraseIdx i) :: r) (CallsA (g.set i y) :: r) := sep_put (f := fun x : Int × (Nat × CallE) => pc x.2.1 132 (callC x.2.2)) h
theorem CallsA.snoc (y : Int × (Nat × CallE)) : Imp (pc y.2.1 132 (callC y.2.2) :: CallsA g :: r) (CallsA (g ++ [y]) :: r) := sep_snoc (f := fun x : Int × (Nat × CallE) => pc x.2.1 132 (callC x.2.2))
theorem CallsA.nil : Imp r (CallsA [] :: r) := sep_nil
theorem KnsA.take {x : Frm × (Nat × KnE)} (e : h[i]? = some x) : Imp (KnsA h :: r) (KnP x.2.1 x.2.2 :: KnsA (h.eraseIdx i) :: r) := sep_take (f := fun x : Frm × (Nat × KnE) => KnP x.2.1 x.2.2) e
theorem KnsA.put {x : Frm × (Nat × KnE)} (y : Frm × (Nat × KnE)) (e : h[i]? = some x) : Imp (KnP y.2.1 y.2.2 :: KnsA (h.eraseIdx i) :: r) (KnsA (h.set i y) :: r) := sep_put (f := fun x : Frm × (Nat × KnE) => KnP x.2.1 x.2.2) e
theorem KnsA.snoc (y : Frm × (Nat × KnE)) : Imp (KnP y.2.1 y.2.2 :: KnsA h :: r) (KnsA (h ++ [y]) :: r) := sep_snoc (f := fun x : Frm × (Nat × KnE) => KnP x.2.1 x.2.2)
theorem KnsA.nil : Imp r (KnsA [] :: r) := sep_nil
theorem PksA.nil : Imp r (PksA [] :: r) := sep_nil
theorem PksA.cons {x : PktE} {xs : List PktE} : Imp (pkO x :: PksA xs :: r) (PksA (x :: xs) :: r) := sep_cons
theorem PksA.snoc {x : PktE} {xs : List PktE} : Imp (pkO x :: PksA xs :: r) (PksA (xs ++ [x]) :: r) := sep_snoc (f := pkO)
theorem sep_pers : ∀ {l : List Assn}, (∀ c ∈ l, c.pers) → (sep l).pers
  | [], _ => fun S H h => h
  | c :: l, hc => fun S H ⟨H1, H2, h1, h2, hd, h3, h4⟩ => ⟨fun _ => none, fun _ => none, fun b o e => (by cases e), fun b o e => (by cases e), fun b => .inl rfl, hc c (by simp) S H1 h3, sep_pers (fun d hd => hc d (by simp [hd])) S H2 h4⟩
theorem PksA_pers (xs : List PktE) : (PksA xs).pers := sep_pers fun c hc => by
  obtain ⟨x, _, rfl⟩ := List.mem_map.1 hc; exact SlT_pers _ _ _ _ _
theorem PksA.get {xs : List PktE} {i : Nat} (h : i < xs.length) : Imp (PksA xs :: r) (pkO (nth xs i) :: PksA xs :: r) := by
  have h1 := sep_take (f := pkO) (l := xs) (i := i) (x := nth xs i) (by rw [nth_eq h]; exact List.getElem?_eq_getElem h) (r := PksA xs :: r)
  exact Imp.trans (Has.dup (PksA_pers xs) Has.here) (Imp.trans h1 (Imp.cons Imp.drop))
theorem PksA.of {xs : List PktE} : ∀ {ys : List PktE}, (∀ y ∈ ys, y ∈ xs) → Imp (PksA xs :: r) (PksA ys :: PksA xs :: r)
  | [], _ => PksA.nil
  | y :: ys, h => by
    obtain ⟨i, hi, e⟩ := List.mem_iff_getElem.1 (h y (by simp))
    have h1 := PksA.get (r := r) hi
    rw [nth_eq hi, e] at h1
    exact Imp.trans h1 (Imp.trans (Imp.cons (PksA.of fun z hz => h z (by simp [hz]))) PksA.cons)
theorem PksA.app {xs ys : List PktE} : Imp (PksA xs :: PksA ys :: r) (PksA (xs ++ ys) :: r) := by
  refine Imp.trans Imp.sep_out (Imp.trans ?_ (Imp.sep_in (cs := (xs ++ ys).map pkO)))
  rw [List.map_append, List.append_assoc]
  have : ∀ l : List Assn, Imp (l ++ PksA ys :: r) (l ++ (ys.map pkO ++ r)) := by
    intro l
    induction l with
    | nil => exact Imp.sep_out
    | cons x l ih => exact Imp.cons ih
  exact this _
end
end Go.SL

set_option linter.unusedSimpArgs false
set_option linter.unusedVariables false
namespace Go.SL
open Go
structure EvS where
  kind : Int
  i : Int
  ask : Ask
  x : Ans
  deriving Inhabited
structure TwoS where
  C : Clr
  A : Anr
  net : List Pkt
  gave : List Pkt
  told : List Pkt
  heard : List Int
  bad : Bool
  deriving Inhabited
def agentA : Ad := ⟨true, 1⟩
def peerA : Ad := ⟨false, 2⟩
def TwoS.comes (S : TwoS) (p : Pkt) : TwoS :=
  if p.reply = true then
    if (S.C.take p).2.2 = true then { S with C := (S.C.take p).1, bad := S.bad || S.told.any (fun q => decide (q.id = p.id)) || (decide ((S.C.take p).2.1.id ≠ p.id) || !decide (p ∈ S.gave)), told := S.told ++ [p] }
    else { S with C := (S.C.take p).1 }
  else if (S.A.take p).2.2 = 1 then { S with A := (S.A.take p).1, bad := S.bad || decide (p.id ∈ S.heard), heard := S.heard ++ [p.id] }
  else if (S.A.take p).2.2 = 3 then { S with A := (S.A.take p).1, bad := S.bad || !decide ((S.A.take p).2.1 ∈ S.gave), net := S.net ++ [(S.A.take p).2.1] }
  else { S with A := (S.A.take p).1 }
def TwoS.lose (S : TwoS) (i : Nat) : TwoS := { S with net := S.net.eraseIdx i }
def TwoS.tick (S : TwoS) : TwoS := { S with C := S.C.tick.1, net := S.net ++ S.C.tick.2 }
def TwoS.ask (S : TwoS) (a : Ask) : TwoS :=
  if (S.C.ask peerA a).2.2 = 0 then { S with C := (S.C.ask peerA a).1, net := S.net ++ [(S.C.ask peerA a).2.1] } else { S with C := (S.C.ask peerA a).1 }
def TwoS.answer (S : TwoS) (p : Pkt) (x : Ans) : TwoS :=
  if (S.A.reply p.src p.id x).2.2 = 0 then { S with A := (S.A.reply p.src p.id x).1, gave := S.gave ++ [(S.A.reply p.src p.id x).2.1], net := S.net ++ [(S.A.reply p.src p.id x).2.1] }
  else { S with A := (S.A.reply p.src p.id x).1 }
def TwoS.step (S : TwoS) (e : EvS) : TwoS :=
  if e.kind = 1 then S.ask e.ask
  else if e.kind = 2 ∨ e.kind = 3 ∨ e.kind = 4 then
    if e.i < 0 ∨ (S.net.length : Int) ≤ e.i then S else
    if e.kind = 2 then (S.lose e.i.toNat).comes (nth S.net e.i.toNat)
    else if e.kind = 3 then S.comes (nth S.net e.i.toNat)
    else S.lose e.i.toNat
  else if e.kind = 5 then S.tick
  else if e.kind = 6 then
    if e.i < 0 ∨ (S.A.waits.length : Int) ≤ e.i ∨ 3000 < e.x.value.length then S else S.answer (nth S.A.waits e.i.toNat) e.x
  else S

def Pkt.req (p : Pkt) : Prop := p.reply = false ∧ p.src = agentA ∧ p.dst = peerA ∧ p.ask.ok ∧ p.ans = zAns
def Pkt.rep (p : Pkt) : Prop := p.reply = true ∧ p.src = peerA ∧ p.dst = agentA ∧ p.ask = zAsk ∧ p.ans.ok
theorem Pkt.req.ok {p : Pkt} (h : p.req) (h1 : 1 ≤ p.id) (h2 : p.id ≤ 4611686018427387904) : p.ok := ⟨h1, h2, fun e => (by rw [h.1] at e; cases e), fun _ => ⟨h.2.2.2.2, h.2.2.2.1⟩⟩
theorem Pkt.rep.ok {p : Pkt} (h : p.rep) (h1 : 1 ≤ p.id) (h2 : p.id ≤ 4611686018427387904) : p.ok := ⟨h1, h2, fun _ => ⟨h.2.2.2.1, h.2.2.2.2⟩, fun e => (by rw [h.1] at e; cases e)⟩
/-! ### Callers and answerers -/
theorem findIdx?_spec {α : Type} [Inhabited α] {l : List α} {p : α → Bool} {i : Nat} (h : l.findIdx? p = some i) : i < l.length ∧ p (nth l i) = true := by
  rw [List.findIdx?_eq_some_iff_getElem] at h
  obtain ⟨h1, h2, _⟩ := h
  exact ⟨h1, by rw [nth_eq h1]; exact h2⟩
theorem Clr.ix_some {C : Clr} {id : Int} {i : Nat} (h : C.ix id = some i) : i < C.L.length ∧ (nth C.L i).p.id = id := by
  obtain ⟨h1, h2⟩ := findIdx?_spec h
  exact ⟨h1, (of_decide_eq_true h2).symm⟩
theorem Clr.ix_none {C : Clr} {id : Int} (h : C.ix id = none) : ∀ x ∈ C.L, x.p.id ≠ id := by
  intro x hx e
  have := (List.findIdx?_eq_none_iff.1 h) x hx
  simp [e] at this
theorem mem_of_erase {α : Type} {l : List α} {i : Nat} {x : α} (h : x ∈ l.eraseIdx i) : x ∈ l := List.mem_of_mem_eraseIdx h
theorem Clr.erase_ne {C : Clr} {i : Nat} (h : C.Ok) (hi : i < C.L.length) : ∀ x ∈ C.L.eraseIdx i, x.p.id ≠ (nth C.L i).p.id := by
  intro x hx
  obtain ⟨A, B, e, hA, he⟩ := eraseIdx_split (List.getElem?_eq_getElem hi)
  rw [he] at hx
  have hs := h.srt
  rw [e] at hs
  rw [nth_eq hi]
  rw [List.pairwise_append] at hs
  obtain ⟨_, s2, s3⟩ := hs
  rw [List.pairwise_cons] at s2
  rcases List.mem_append.1 hx with h1 | h1
  · have := s3 x h1 C.L[i] (by simp); omega
  · have := s2.1 x h1; omega
theorem Clr.Ok.erase {C : Clr} (h : C.Ok) (i : Nat) : ({ C with L := C.L.eraseIdx i } : Clr).Ok :=
  ⟨h.srt.sublist (List.eraseIdx_sublist _ _), fun x hx => h.rng x (mem_of_erase hx), fun x hx => h.ans x (mem_of_erase hx), fun x hx => h.age x (mem_of_erase hx), by have := h.len; have := List.length_eraseIdx_le C.L i; simp only; omega, h.lst, h.agn⟩
theorem Clr.fin_cases (C : Clr) (id : Int) : (C.fin id = (C, zPkt, false) ∧ C.ix id = none) ∨ ∃ i, C.ix id = some i ∧ C.fin id = ({ C with L := C.L.eraseIdx i }, (nth C.L i).p, true) := by
  unfold Clr.fin
  cases h : C.ix id with
  | none => exact .inl ⟨rfl, rfl⟩
  | some i => exact .inr ⟨i, rfl, rfl⟩
theorem Clr.take_cases (C : Clr) (p : Pkt) : C.take p = (C, zPkt, false) ∨ ∃ i, C.ix p.id = some i ∧ C.take p = ({ C with L := C.L.eraseIdx i }, (nth C.L i).p, true) ∧ p.ok ∧ p.reply = true ∧ p.dst = C.me := by
  unfold Clr.take
  split
  · rename_i h0
    cases h : C.ix p.id with
    | none => exact .inl rfl
    | some i =>
      simp only
      split
      · rcases Clr.fin_cases C p.id with ⟨_, h2⟩ | ⟨j, h1, h2⟩
        · rw [h] at h2; cases h2
        · rw [h] at h1; injection h1 with h1; subst h1; exact .inr ⟨i, rfl, h2, h0⟩
      · exact .inl rfl
  · exact .inl rfl
theorem Clr.Ok.take {C : Clr} (h : C.Ok) (p : Pkt) : (C.take p).1.Ok := by
  rcases Clr.take_cases C p with e | ⟨i, _, e, _⟩ <;> rw [e]
  · exact h
  · exact h.erase i
theorem Clr.Ok.fin {C : Clr} (h : C.Ok) (id : Int) : (C.fin id).1.Ok := by
  rcases Clr.fin_cases C id with ⟨e, _⟩ | ⟨i, _, e⟩ <;> rw [e]
  · exact h
  · exact h.erase i
theorem Clr.Ok.tick {C : Clr} (h : C.Ok) : C.tick.1.Ok := by
  unfold Clr.tick
  refine ⟨?_, fun x hx => ?_, fun x hx => ?_, fun x hx => ?_, by simpa using h.len, h.lst, h.agn⟩
  · simp only [List.pairwise_map]; exact h.srt
  all_goals
    simp only [List.mem_map] at hx
    obtain ⟨y, hy, rfl⟩ := hx
  · exact h.rng y hy
  · exact h.ans y hy
  · have := h.age y hy; simp only [CallE.up]; omega
theorem Clr.ask_cases (C : Clr) (to : Ad) (a : Ask) : ((C.ask to a).1 = C ∧ (C.ask to a).2.1 = zPkt ∧ (C.ask to a).2.2 ≠ 0) ∨ (C.ask to a = ({ C with last := C.last + 1, L := C.L ++ [⟨mkReq C to a, 0⟩] }, mkReq C to a, 0) ∧ a.ok ∧ C.L.length < 256 ∧ C.last < 4611686018427387904) := by
  unfold Clr.ask
  split
  · exact .inl ⟨rfl, rfl, by simp⟩
  · split
    · exact .inl ⟨rfl, rfl, by simp⟩
    · split
      · exact .inl ⟨rfl, rfl, by simp⟩
      · rename_i h1 h2 h3
        exact .inr ⟨rfl, Decidable.not_not.1 h1, by omega, by omega⟩
theorem Clr.Ok.ask {C : Clr} (h : C.Ok) (to : Ad) (a : Ask) : (C.ask to a).1.Ok := by
  rcases Clr.ask_cases C to a with ⟨e, _⟩ | ⟨e, h1, h2, h3⟩
  · rw [e]; exact h
  · rw [e]
    have hl := h.lst
    refine ⟨?_, fun x hx => ?_, fun x hx => ?_, fun x hx => ?_, by simp only [List.length_append, List.length_cons, List.length_nil]; omega, by simp only; omega, h.agn⟩
    · simp only [List.pairwise_append]
      refine ⟨h.srt, by simp, fun x hx y hy => ?_⟩
      simp only [List.mem_singleton] at hy
      subst hy
      have := (h.rng x hx).2
      simp only [mkReq]; omega
    all_goals
      simp only [List.mem_append, List.mem_singleton] at hx
      rcases hx with hx | rfl
    · have := h.rng x hx; simp only; omega
    · simp only [mkReq]; omega
    · exact h.ans x hx
    · rfl
    · exact h.age x hx
    · simp
def Clr.new (me : Ad) (again : Int) : Clr := ⟨me, again, 0, []⟩
theorem Clr.Ok.new (me : Ad) {again : Int} (h : 1 ≤ again) : (Clr.new me again).Ok := ⟨.nil, (by intro x hx; cases hx), (by intro x hx; cases hx), (by intro x hx; cases hx), by simp [Clr.new], by simp [Clr.new], h⟩
theorem Anr.ix_some {A : Anr} {src : Ad} {id : Int} {i : Nat} (h : A.ix src id = some i) : i < A.L.length ∧ (nth A.L i).1.src = src ∧ (nth A.L i).1.id = id := by
  obtain ⟨h1, h2⟩ := findIdx?_spec h
  have := of_decide_eq_true h2
  simp only [Frm.mk.injEq] at this
  exact ⟨h1, this.1.symm, this.2.symm⟩
theorem Anr.ix_none {A : Anr} {src : Ad} {id : Int} (h : A.ix src id = none) : ∀ k ∈ A.L, ¬ (k.1.src = src ∧ k.1.id = id) := by
  rintro k hk ⟨e1, e2⟩
  have := (List.findIdx?_eq_none_iff.1 h) k hk
  simp [e1, e2] at this

/-! ### What holds always -/
structure TwoS.Inv (S : TwoS) : Prop where
  okC : S.C.Ok
  meC : S.C.me = agentA
  rqC : ∀ x ∈ S.C.L, x.p.req
  meA : S.A.me = peerA
  rqA : ∀ k ∈ S.A.L, k.1.req ∧ 1 ≤ k.1.id ∧ k.1.id ≤ S.C.last
  ndA : (S.A.L.map (fun k => k.1.id)).Nodup
  hrd : S.heard = S.A.L.map (fun k => k.1.id)
  rpA : ∀ k ∈ S.A.L, ∀ r, k.2 = some r → r ∈ S.gave ∧ r.rep ∧ r.id = k.1.id
  gvA : ∀ r ∈ S.gave, ∃ k ∈ S.A.L, k.2 = some r
  net : ∀ p ∈ S.net, (p.req ∧ 1 ≤ p.id ∧ p.id ≤ S.C.last) ∨ p ∈ S.gave
  tld : ∀ p ∈ S.told, p.id ≤ S.C.last ∧ ∀ x ∈ S.C.L, x.p.id ≠ p.id
  bad : S.bad = false
theorem TwoS.Inv.gave_rep {S : TwoS} (h : S.Inv) {r : Pkt} (hr : r ∈ S.gave) : r.rep ∧ 1 ≤ r.id ∧ r.id ≤ S.C.last := by
  obtain ⟨k, hk, e⟩ := h.gvA r hr
  obtain ⟨_, h2, h3⟩ := h.rpA k hk r e
  have := h.rqA k hk
  exact ⟨h2, by omega, by omega⟩
theorem TwoS.Inv.lose {S : TwoS} (h : S.Inv) (i : Nat) : (S.lose i).Inv := { h with net := fun p hp => h.net p (mem_of_erase hp) }
theorem TwoS.Inv.tick {S : TwoS} (h : S.Inv) : S.tick.Inv where
  okC := h.okC.tick
  meC := h.meC
  rqC := fun x hx => by
    simp only [TwoS.tick, Clr.tick, List.mem_map] at hx
    obtain ⟨y, hy, rfl⟩ := hx
    exact h.rqC y hy
  meA := h.meA
  rqA := h.rqA
  ndA := h.ndA
  hrd := h.hrd
  rpA := h.rpA
  gvA := h.gvA
  net := fun p hp => by
    simp only [TwoS.tick, List.mem_append] at hp
    rcases hp with hp | hp
    · exact h.net p hp
    · simp only [Clr.tick, List.mem_map, List.mem_filter] at hp
      obtain ⟨x, ⟨hx, _⟩, rfl⟩ := hp
      have := h.okC.rng x hx
      exact .inl ⟨h.rqC x hx, this.1, this.2⟩
  tld := fun p hp => ⟨(h.tld p hp).1, fun x hx => by
    simp only [TwoS.tick, Clr.tick, List.mem_map] at hx
    obtain ⟨y, hy, rfl⟩ := hx
    exact (h.tld p hp).2 y hy⟩
  bad := h.bad
theorem TwoS.Inv.ask {S : TwoS} (h : S.Inv) (a : Ask) : (S.ask a).Inv := by
  have hok := h.okC.ask peerA a
  unfold TwoS.ask
  rcases Clr.ask_cases S.C peerA a with ⟨e1, e2, e3⟩ | ⟨e, h1, h2, h3⟩
  · rw [if_neg e3, e1]; exact h
  · rw [e]
    rw [e] at hok
    simp only [if_true]
    refine { h with okC := hok, rqC := fun x hx => ?_, rqA := fun k hk => ?_, net := fun p hp => ?_, tld := fun p hp => ⟨?_, fun x hx => ?_⟩ }
    · simp only [List.mem_append, List.mem_singleton] at hx
      rcases hx with hx | rfl
      · exact h.rqC x hx
      · exact ⟨rfl, h.meC, rfl, h1, rfl⟩
    · have := h.rqA k hk; exact ⟨this.1, this.2.1, by simp only; omega⟩
    · simp only [List.mem_append, List.mem_singleton] at hp
      rcases hp with hp | rfl
      · rcases h.net p hp with h4 | h4
        · exact .inl ⟨h4.1, h4.2.1, by simp only; omega⟩
        · exact .inr h4
      · have := h.okC.lst
        exact .inl ⟨⟨rfl, h.meC, rfl, h1, rfl⟩, by simp only [mkReq]; omega, by simp only [mkReq]; omega⟩
    · have := (h.tld p hp).1; simp only; omega
    · simp only [List.mem_append, List.mem_singleton] at hx
      rcases hx with hx | rfl
      · exact (h.tld p hp).2 x hx
      · have := (h.tld p hp).1; simp only [mkReq]; omega
theorem TwoS.Inv.comes {S : TwoS} (h : S.Inv) {p : Pkt} (hp : (p.req ∧ 1 ≤ p.id ∧ p.id ≤ S.C.last) ∨ p ∈ S.gave) (hA : S.A.L.length < 65536) : (S.comes p).Inv := by
  have hl := h.okC.lst
  rcases hp with ⟨hq, hp1, hp2⟩ | hg
  · -- a request
    have hpk := hq.ok hp1 (by omega)
    unfold TwoS.comes
    rw [if_neg (by rw [hq.1]; decide)]
    have hc : p.ok ∧ p.reply = false ∧ p.dst = S.A.me := ⟨hpk, hq.1, by rw [h.meA]; exact hq.2.2.1⟩
    cases hi : S.A.ix p.src p.id with
    | some i =>
      obtain ⟨hlt, _, hid⟩ := Anr.ix_some hi
      cases hr : (nth S.A.L i).2 with
      | some r =>
        have ht : S.A.take p = (S.A, r, 3) := by unfold Anr.take; rw [if_pos hc, hi]; simp only; rw [hr]
        rw [ht]
        have hrg := (h.rpA _ (nth_mem hlt) r hr).1
        simp only [show ((3 : Int) = 1) = False from by decide, if_false, if_true]
        refine { h with net := fun q hq => ?_, bad := by simp [h.bad, hrg] }
        simp only [List.mem_append, List.mem_singleton] at hq
        rcases hq with hq | rfl
        · exact h.net q hq
        · exact .inr hrg
      | none =>
        have ht : S.A.take p = (S.A, zPkt, 2) := by unfold Anr.take; rw [if_pos hc, hi]; simp only; rw [hr]
        rw [ht]; exact h
    | none =>
      have ht : S.A.take p = ({ S.A with L := S.A.L ++ [(p, none)] }, zPkt, 1) := by
        unfold Anr.take; rw [if_pos hc, hi]; simp only; rw [if_neg (by omega)]
      have hno : p.id ∉ S.A.L.map (fun k => k.1.id) := by
        intro hm
        obtain ⟨k, hk, e⟩ := List.mem_map.1 hm
        exact Anr.ix_none hi k hk ⟨by rw [(h.rqA k hk).1.2.1]; exact hq.2.1.symm, e⟩
      rw [ht]
      simp only [if_true]
      refine { h with rqA := fun k hk => ?_, ndA := ?_, hrd := ?_, rpA := fun k hk r hr => ?_, gvA := fun r hr => ?_, bad := ?_ }
      · simp only [List.mem_append, List.mem_singleton] at hk
        rcases hk with hk | rfl
        · exact h.rqA k hk
        · exact ⟨hq, hp1, hp2⟩
      · simp only [List.map_append, List.map_cons, List.map_nil]
        rw [List.nodup_append]
        exact ⟨h.ndA, by simp, fun a ha b hb => by simp only [List.mem_singleton] at hb; subst hb; rintro rfl; exact hno ha⟩
      · simp [h.hrd]
      · simp only [List.mem_append, List.mem_singleton] at hk
        rcases hk with hk | rfl
        · exact h.rpA k hk r hr
        · cases hr
      · obtain ⟨k, hk, e⟩ := h.gvA r hr
        exact ⟨k, by simp [hk], e⟩
      · rw [h.bad, h.hrd]; simpa using hno
  · -- a reply
    obtain ⟨hr, hp1, hp2⟩ := h.gave_rep hg
    unfold TwoS.comes
    rw [if_pos hr.1]
    rcases Clr.take_cases S.C p with e | ⟨i, hi, e, _⟩
    · rw [e]; exact h
    · obtain ⟨hlt, hid⟩ := Clr.ix_some hi
      rw [e]
      simp only [if_true]
      refine { h with okC := h.okC.erase i, rqC := fun x hx => h.rqC x (mem_of_erase hx), tld := fun q hq => ?_, bad := ?_ }
      · simp only [List.mem_append, List.mem_singleton] at hq
        rcases hq with hq | rfl
        · exact ⟨(h.tld q hq).1, fun x hx => (h.tld q hq).2 x (mem_of_erase hx)⟩
        · exact ⟨hp2, fun x hx => by rw [← hid]; exact Clr.erase_ne h.okC hlt x hx⟩
      · have hno : S.told.any (fun q => decide (q.id = p.id)) = false := by
          rw [List.any_eq_false]
          intro q hq
          have := (h.tld q hq).2 _ (nth_mem hlt)
          simp only [decide_eq_true_eq]
          omega
        rw [h.bad, hno, hid]; simp [hg]
theorem Anr.reply_cases (A : Anr) (src : Ad) (id : Int) (x : Ans) : ((A.reply src id x).1 = A ∧ (A.reply src id x).2.1 = zPkt ∧ (A.reply src id x).2.2 ≠ 0) ∨
    ∃ i, A.ix src id = some i ∧ (nth A.L i).2 = none ∧ x.ok ∧ A.reply src id x = ({ A with L := A.L.set i ((nth A.L i).1, some (mkRep (nth A.L i).1 x)) }, mkRep (nth A.L i).1 x, 0) := by
  unfold Anr.reply
  cases hi : A.ix src id with
  | none => exact .inl ⟨rfl, rfl, by simp⟩
  | some i =>
    simp only
    cases hr : (nth A.L i).2 with
    | some r => exact .inl ⟨rfl, rfl, by simp⟩
    | none =>
      simp only
      split
      · rename_i hc; exact .inr ⟨i, rfl, hr, hc.2.2, rfl⟩
      · exact .inl ⟨rfl, rfl, by simp⟩
theorem mem_set {α : Type} [Inhabited α] {l : List α} {i : Nat} {x y : α} (h : y ∈ l.set i x) : y = x ∨ y ∈ l := (List.mem_or_eq_of_mem_set h).symm
theorem map_set_same {α β : Type} [Inhabited α] (f : α → β) {l : List α} {i : Nat} {x : α} (hi : i < l.length) (h : f x = f (nth l i)) : (l.set i x).map f = l.map f := by
  rw [List.map_set, h]; apply set_same; rw [List.getElem?_map, List.getElem?_eq_getElem hi, nth_eq hi]; rfl
theorem TwoS.Inv.answer {S : TwoS} (h : S.Inv) (p : Pkt) (x : Ans) : (S.answer p x).Inv := by
  unfold TwoS.answer
  rcases Anr.reply_cases S.A p.src p.id x with ⟨e1, e2, e3⟩ | ⟨i, hi, hn, hx, e⟩
  · rw [if_neg e3, e1]; exact h
  · obtain ⟨hlt, _, _⟩ := Anr.ix_some hi
    have hk := h.rqA _ (nth_mem hlt)
    have hid : (S.A.L.set i ((nth S.A.L i).1, some (mkRep (nth S.A.L i).1 x))).map (fun k => k.1.id) = S.A.L.map (fun k => k.1.id) := map_set_same _ hlt rfl
    have hrep : (mkRep (nth S.A.L i).1 x).rep := ⟨rfl, hk.1.2.2.1, hk.1.2.1, rfl, hx⟩
    rw [e]
    simp only [if_true]
    refine { h with rqA := fun k hk' => ?_, ndA := ?_, hrd := ?_, rpA := fun k hk' r hr => ?_, gvA := fun r hr => ?_, net := fun q hq => ?_ }
    · rcases mem_set hk' with rfl | hk'
      · exact hk
      · exact h.rqA k hk'
    · simp only; rw [hid]; exact h.ndA
    · simp only; rw [hid]; exact h.hrd
    · rcases mem_set hk' with rfl | hk'
      · simp only [Option.some.injEq] at hr; subst hr
        exact ⟨by simp, hrep, rfl⟩
      · obtain ⟨g1, g2⟩ := h.rpA k hk' r hr
        exact ⟨by simp [g1], g2⟩
    · simp only [List.mem_append, List.mem_singleton] at hr
      rcases hr with hr | rfl
      · obtain ⟨k, hk', ek⟩ := h.gvA r hr
        obtain ⟨j, hj, ej⟩ := List.mem_iff_getElem.1 hk'
        by_cases hji : j = i
        · exfalso; subst hji; rw [nth_eq hj, ej] at hn; rw [hn] at ek; cases ek
        · refine ⟨k, ?_, ek⟩
          rw [← ej]
          have : (S.A.L.set i ((nth S.A.L i).1, some (mkRep (nth S.A.L i).1 x)))[j]'(by simpa using hj) = S.A.L[j] := by rw [List.getElem_set, if_neg (Ne.symm hji)]
          rw [← this]; exact List.getElem_mem _
      · exact ⟨_, List.mem_of_getElem? (List.getElem?_set_self hlt), rfl⟩
    · simp only [List.mem_append, List.mem_singleton] at hq ⊢
      rcases hq with hq | rfl
      · rcases h.net q hq with h1 | h1
        · exact .inl h1
        · exact .inr (.inl h1)
      · exact .inr (.inr rfl)
theorem TwoS.Inv.step {S : TwoS} (h : S.Inv) (e : EvS) (hA : S.A.L.length < 65536) : (S.step e).Inv := by
  unfold TwoS.step
  split
  · exact h.ask _
  · split
    · split
      · exact h
      · rename_i hi
        have hlt : e.i.toNat < S.net.length := by omega
        have hp := h.net _ (nth_mem hlt)
        split
        · exact (h.lose _).comes hp hA
        · split
          · exact h.comes hp hA
          · exact h.lose _
    · split
      · exact h.tick
      · split
        · split
          · exact h
          · exact h.answer _ _
        · exact h
def TwoS.new (again : Int) : TwoS := ⟨Clr.new agentA again, ⟨peerA, []⟩, [], [], [], [], false⟩
theorem TwoS.Inv.new {again : Int} (h : 1 ≤ again) : (TwoS.new again).Inv :=
  ⟨.new _ h, rfl, (by intro x hx; cases hx), rfl, (by intro x hx; cases hx), by simp [TwoS.new], rfl, (by intro x hx; cases hx), (by intro x hx; cases hx), (by intro x hx; cases hx), (by intro x hx; cases hx), rfl⟩
end Go.SL
