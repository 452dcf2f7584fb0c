/- Layer 9: a peer (plain Lean); how it lies in memory. Conditions: none. -/
import Derived.Test.YtmeajliiloaegaaGreatTb
import Derived.Test.YtmeajliiloaegaaGreatKc
set_option linter.unusedSimpArgs false
set_option linter.unusedVariables false
namespace Go.SL
open Go
/-- An ask that waits. -/
structure WaitE where
  ticket : Int
  mark : Bool
  w : Vec
  o : Owner
  deriving DecidableEq, Inhabited
def waitC (x : WaitE) : List Value := [i64 x.ticket, .bool x.mark, i64 x.w.len, u64 x.w.bits, i64 x.o.agent, i64 x.o.op]
theorem waitC_one : ∀ o : WaitE, (waitC o).length = 6 ∧ ∀ v ∈ waitC o, isOne v = true := by intro o; simp [waitC, isOne]
instance : FS waitC 2 2 vecC WaitE.w := ⟨fun _ => rfl⟩
instance : FS waitC 4 2 ownerC WaitE.o := ⟨fun _ => rfl⟩
abbrev wtv (x : WaitE) : Value := .agg (waitC x).toArray
/-- A ticket's answer; where it lies. -/
structure RdyE where
  ticket : Int
  x : AnsE
  deriving Inhabited
def rdyC (y : RdyE) : List Value := [i64 y.ticket, i64 y.x.x.kind, .bool y.x.x.marked, i64 y.x.x.left.id, i64 y.x.x.left.key.rank, u64 y.x.x.left.key.n, i64 y.x.x.left.vec.len, u64 y.x.x.left.vec.bits, i64 y.x.x.right.id, i64 y.x.x.right.key.rank, u64 y.x.x.right.key.n, i64 y.x.x.right.vec.len, u64 y.x.x.right.vec.bits, .slice y.x.a y.x.x.value.length y.x.c]
theorem rdyC_one : ∀ o : RdyE, (rdyC o).length = 14 ∧ ∀ v ∈ rdyC o, isOne v = true := by intro o; simp [rdyC, isOne]
instance : FS rdyC 1 13 ansEC RdyE.x := ⟨fun _ => rfl⟩
structure Rdy where
  ticket : Int
  x : Ans
  deriving DecidableEq, Inhabited
def RdyE.pl (y : RdyE) : Rdy := ⟨y.ticket, y.x.x⟩
/-- A peer. -/
structure Pe where
  me : Ref
  value : List UInt8
  lk : LK
  joined : Bool
  marked : Bool
  waits : List WaitE
  rd : List Rdy
def Pe.new (me : Ref) (v : List UInt8) (j : Bool) : Pe := ⟨me, v, ⟨me, []⟩, j, false, [], []⟩
def Pe.isEnd (P : Pe) : Prop := P.me.key.rank ≠ 2
instance (P : Pe) : Decidable P.isEnd := by unfold Pe.isEnd; infer_instance
def Pe.tell (P : Pe) (t : Int) (a : Ans) : Pe := { P with rd := P.rd ++ [⟨t, a⟩] }
def plainA (k : Int) : Ans := ⟨k, false, zR, zR, []⟩
def Pe.plain (P : Pe) (t k : Int) : Pe := P.tell t (plainA k)
def Pe.touch (P : Pe) (w : Vec) : Pe := { P with lk := P.lk.touch w }
def Pe.recd (P : Pe) (w : Vec) : Ans := if P.lk.getB w = true then ⟨1, P.marked, (P.lk.getS w).left, (P.lk.getS w).right, []⟩ else plainA 2
/-- What waits, and is said to be served, waits no more; what is done of each. -/
def Pe.served (P : Pe) (is : WaitE → Bool) (act : Pe → WaitE → Pe) : Pe := { P.waits.foldl (fun P x => if is x then act P x else P) P with waits := P.waits.filter fun x => !is x }
def Pe.read (P : Pe) (t : Int) (w : Vec) : Pe := (P.touch w).tell t (P.recd w)
def Pe.lock (P : Pe) (t : Int) (a : Ask) : Pe :=
  if P.lk.getB a.w = false then (P.touch a.w).plain t 2
  else if (P.lk.lock a.w a.o).2.1 = true then ({ P with lk := (P.lk.lock a.w a.o).1 } : Pe).read t a.w
  else if (P.lk.lock a.w a.o).2.2 ≠ 0 ∨ a.o ∈ (P.lk.getS a.w).waits then ({ P with lk := (P.lk.lock a.w a.o).1 } : Pe).plain t 4
  else { P with lk := (P.lk.lock a.w a.o).1, waits := P.waits ++ [⟨t, false, a.w, a.o⟩] }
def Pe.free (P : Pe) (t : Int) (a : Ask) : Pe :=
  if (P.lk.free a.w a.o).2.2.2 ≠ 0 then ({ P with lk := (P.lk.free a.w a.o).1 } : Pe).plain t 4
  else if (P.lk.free a.w a.o).2.2.1 = false then ({ P with lk := (P.lk.free a.w a.o).1 } : Pe).plain t 1
  else (({ P with lk := (P.lk.free a.w a.o).1 } : Pe).plain t 1).served (fun x => !x.mark && (decide (x.w = a.w) && decide (x.o = (P.lk.free a.w a.o).2.1))) (fun P x => P.read x.ticket x.w)
def yesK (e : Int) (gone : Bool) : Int := if e = 0 then 1 else if gone = true ∧ e = 82 then 2 else 4
def Pe.out (P : Pe) (t : Int) (a : Ask) : Pe :=
  if (P.lk.out a.w a.o).2.2 = 0 then (({ P with lk := (P.lk.out a.w a.o).1 } : Pe).plain t 1).served (fun x => !x.mark && decide (x.w = a.w)) (fun P x => P.plain x.ticket 2)
  else ({ P with lk := (P.lk.out a.w a.o).1 } : Pe).plain t 4
def Pe.mark (P : Pe) (t : Int) : Pe :=
  if P.isEnd ∨ P.marked = true then P.plain t 4
  else if P.joined = false then { P with waits := P.waits ++ [⟨t, true, zV, zO⟩] }
  else ({ P with marked := true } : Pe).tell t ⟨1, false, zR, zR, P.value⟩
def Pe.join (P : Pe) (t : Int) : Pe :=
  if P.isEnd then P.plain t 4
  else (({ P with joined := true } : Pe).plain t 1).served (fun x => x.mark) (fun P x => P.mark x.ticket)
def Pe.get (P : Pe) (t : Int) : Pe := (P.touch zV).tell t (if (P.recd zV).kind = 1 then { P.recd zV with value := P.value } else P.recd zV)
/-- An ask comes. -/
def Pe.ask1 (P : Pe) (t : Int) (a : Ask) : Pe :=
  if a.kind = 1 then P.read t a.w else if a.kind = 2 then P.get t else if a.kind = 3 then P.lock t a else if a.kind = 4 then P.free t a
  else if a.kind = 5 then ({ P with lk := (P.lk.right a.w a.ref a.o).1 } : Pe).plain t (yesK (P.lk.right a.w a.ref a.o).2 false)
  else if a.kind = 6 then ({ P with lk := (P.lk.left a.w a.ref).1 } : Pe).plain t (yesK (P.lk.left a.w a.ref).2 true)
  else if a.kind = 7 then ({ P with lk := (P.lk.put a.w a.ref a.ref2 a.o).1 } : Pe).plain t (yesK (P.lk.put a.w a.ref a.ref2 a.o).2 false)
  else if a.kind = 8 then P.out t a else if a.kind = 9 then P.mark t else P.join t
def Pe.ask (P : Pe) (t : Int) (a : Ask) : Pe × Int := if a.ok then (({ P with rd := [] } : Pe).ask1 t a, 0) else (P, 91)

/-! ### Memory -/
def RdA (xs : List RdyE) : Assn := sep (xs.map fun y => byO y.x.a y.x.c y.x.x.value)
def peC (P : Pe) (lb : Nat) (va : Option Addr) (vc : Nat) (wa : Option Addr) (wc : Nat) (ra : Option Addr) (rl rc : Nat) : List Value :=
  [i64 P.me.id, i64 P.me.key.rank, u64 P.me.key.n, i64 P.me.vec.len, u64 P.me.vec.bits, .slice va P.value.length vc, ptr lb, .bool P.joined, .bool P.marked, .slice wa P.waits.length wc, .slice ra rl rc]
/-- A peer in memory; where the asks that wait lie is told. -/
def PeW (b : Nat) (P : Pe) (wa : Option Addr) (wc : Nat) : Assn := ex fun x : Nat × (Option Addr × Nat) × (Option Addr × Nat × List RdyE) =>
  sep [pc b 75 (peC P x.1 x.2.1.1 x.2.1.2 wa wc x.2.2.1 x.2.2.2.2.length x.2.2.2.1), LinksP x.1 P.lk, byO x.2.1.1 x.2.1.2 P.value, SlT true waitC 6 (.slice wa P.waits.length wc) wc P.waits,
    SlT true rdyC 14 (.slice x.2.2.1 x.2.2.2.2.length x.2.2.2.1) x.2.2.2.1 x.2.2.2.2, RdA x.2.2.2.2, pur (x.2.2.2.2.map RdyE.pl = P.rd)]
def PeP (b : Nat) (P : Pe) : Assn := ex fun x : Option Addr × Nat => PeW b P x.1 x.2
section
variable {P : Program} {n : Nat} {ρ : Env} {cs r r1 r2 r3 r4 r5 ds : List Assn} {cc : CC} {t : Tr} {K : Env → List Assn → Prop} {Q : Exit → Env → List Assn → Prop} {b lb : Nat} {me : Ref} {v : List UInt8} {lk : LK} {j m : Bool} {ws : List WaitE} {rd : List Rdy} {wa : Option Addr} {wc : Nat}
theorem J.openPe (hh : Has cs (PeW b ⟨me, v, lk, j, m, ws, rd⟩ wa wc) r)
    (h : ∀ lb va vc ra rc (rs : List RdyE), rs.map RdyE.pl = rd → ws.length ≤ wc → ws.length ≤ 140737488355328 → rs.length ≤ rc → rs.length ≤ 140737488355328 →
      J P n cc ρ (pc b 75 (peC ⟨me, v, lk, j, m, ws, rd⟩ lb va vc wa wc ra rs.length rc) :: LinksP lb lk :: byO va vc v :: SlT true waitC 6 (.slice wa ws.length wc) wc ws :: SlT true rdyC 14 (.slice ra rs.length rc) rc rs :: RdA rs :: r) Q) : J P n cc ρ cs Q :=
  J.has hh (J.ex fun x => J.sep (J.has (Has.there (Has.there (Has.there (Has.there (Has.there (Has.there Has.here)))))) (J.pur fun e =>
    J.slF (Has.there (Has.there (Has.there Has.here))) fun h1 h2 _ => J.slF (Has.there (Has.there (Has.there (Has.there Has.here)))) fun h3 h4 _ =>
      h x.1 x.2.1.1 x.2.1.2 x.2.2.1 x.2.2.2.1 x.2.2.2.2 e h1 h2 h3 h4)))
theorem JT.openPe (hh : Has cs (PeW b ⟨me, v, lk, j, m, ws, rd⟩ wa wc) r)
    (h : ∀ lb va vc ra rc (rs : List RdyE), rs.map RdyE.pl = rd → JT P t ρ (pc b 75 (peC ⟨me, v, lk, j, m, ws, rd⟩ lb va vc wa wc ra rs.length rc) :: LinksP lb lk :: byO va vc v :: SlT true waitC 6 (.slice wa ws.length wc) wc ws :: SlT true rdyC 14 (.slice ra rs.length rc) rc rs :: RdA rs :: r) K) : JT P t ρ cs K :=
  JT.has hh (JT.ex fun x => JT.sep (JT.has (Has.there (Has.there (Has.there (Has.there (Has.there (Has.there Has.here)))))) (JT.pur fun e =>
      h x.1 x.2.1.1 x.2.1.2 x.2.2.1 x.2.2.2.1 x.2.2.2.2 e)))
theorem PeW.fold {va ra : Option Addr} {vc rc : Nat} {rs : List RdyE} (h1 : Has cs (pc b 75 (peC ⟨me, v, lk, j, m, ws, rd⟩ lb va vc wa wc ra rs.length rc)) r) (h2 : Has r (LinksP lb lk) r1) (h3 : Has r1 (byO va vc v) r2) (h4 : Has r2 (SlT true waitC 6 (.slice wa ws.length wc) wc ws) r3)
    (h5 : Has r3 (SlT true rdyC 14 (.slice ra rs.length rc) rc rs) r4) (h6 : Has r4 (RdA rs) r5) (e : rs.map RdyE.pl = rd) (h7 : Imp r5 ds) : Imp cs (PeW b ⟨me, v, lk, j, m, ws, rd⟩ wa wc :: ds) :=
  Imp.trans (Imp.take h1 (Imp.take h2 (Imp.take h3 (Imp.take h4 (Imp.take h5 (Imp.take h6 (Imp.trans (Imp.trans h7 (Imp.pur_in e)) (Imp.refl _))))))))
    (Imp.trans (Imp.sep_in (cs := [_, _, _, _, _, _, _])) (Imp.ex_in (A := fun x : Nat × (Option Addr × Nat) × (Option Addr × Nat × List RdyE) =>
      sep [pc b 75 (peC ⟨me, v, lk, j, m, ws, rd⟩ x.1 x.2.1.1 x.2.1.2 wa wc x.2.2.1 x.2.2.2.2.length x.2.2.2.1), LinksP x.1 lk, byO x.2.1.1 x.2.1.2 v, SlT true waitC 6 (.slice wa ws.length wc) wc ws,
    SlT true rdyC 14 (.slice x.2.2.1 x.2.2.2.2.length x.2.2.2.1) x.2.2.2.1 x.2.2.2.2, RdA x.2.2.2.2, pur (x.2.2.2.2.map RdyE.pl = rd)]) (lb, (va, vc), (ra, rc, rs))))
theorem PeP.fold {p : Pe} (h1 : Has cs (PeW b p wa wc) r) (h2 : Imp r ds) : Imp cs (PeP b p :: ds) :=
  Imp.trans (Imp.take h1 h2) (Imp.ex_in (A := fun x : Option Addr × Nat => PeW b p x.1 x.2) (wa, wc))
theorem J.openPeP {p : Pe} (hh : Has cs (PeP b p) r) (h : ∀ wa wc, J P n cc ρ (PeW b p wa wc :: r) Q) : J P n cc ρ cs Q := J.has hh (J.ex fun x => h x.1 x.2)
theorem JT.openPeP {p : Pe} (hh : Has cs (PeP b p) r) (h : ∀ wa wc, JT P t ρ (PeW b p wa wc :: r) K) : JT P t ρ cs K := JT.has hh (JT.ex fun x => h x.1 x.2)
theorem Meets.ex {f : Nat} {args : List Value} {R : Value → List Assn → Prop} {α : Type} [Inhabited α] {A : α → Assn} (h : ∀ x, Meets P f args (A x :: cs) R) : Meets P f args (ex A :: cs) R := ⟨(h default).1, by
  intro w hs
  obtain ⟨S, H, hS, hH, hd, H1, H2, h1, h2, hd', ⟨x, hx⟩, hr⟩ := hs
  exact (h x).2 w ⟨S, H, hS, hH, hd, H1, H2, h1, h2, hd', hx, hr⟩⟩
/-- What holds wherever the asks that wait lie. -/
theorem Meets.pe {f : Nat} {args : List Value} {p p' : Pe} {v0 : Value} {F F' : List Assn} (h : ∀ wa wc, Meets P f args (PeW b p wa wc :: F) (Det v0 (PeW b p' wa wc :: F'))) : Meets P f args (PeP b p :: F) (Det v0 (PeP b p' :: F')) :=
  Meets.ex fun x => (h x.1 x.2).post fun u c hr => by
    obtain ⟨rfl, rfl⟩ := hr
    exact ⟨_, Up.of (Imp.ex_in (A := fun x : Option Addr × Nat => PeW b p' x.1 x.2) x), rfl, rfl⟩
theorem RdA.nil : Imp r (RdA [] :: r) := sep_nil
theorem RdA.fold {xs : List RdyE} {y : RdyE} (h1 : Has cs (RdA xs) r) (h2 : Has r (byO y.x.a y.x.c y.x.x.value) r1) (h3 : Imp r1 ds) : Imp cs (RdA (xs ++ [y]) :: ds) :=
  Imp.trans h1 (Imp.trans (Imp.cons (Imp.trans h2 (Imp.cons h3))) (Imp.trans Imp.swap (sep_snoc (f := fun y : RdyE => byO y.x.a y.x.c y.x.x.value))))
end
end Go.SL
