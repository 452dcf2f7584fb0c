/- Layer 6: two over a network: how they lie in memory (plain Lean). Conditions: none. -/
import Derived.Test.YtienlpaehgdpaaaTe
import Derived.Test.YtienlpaehgdpaaaTt
set_option linter.unusedSimpArgs false
set_option linter.unusedVariables false
namespace Go.SL
open Go
/-- An event of layer 6, as it lies in a row. -/
structure EvE where
  kind : Int
  i : Int
  ask : Ask
  x : AnsE
  deriving Inhabited
def evEC (o : EvE) : List Value := [i64 o.kind, i64 o.i, i64 o.ask.kind, i64 o.ask.w.len, u64 o.ask.w.bits, i64 o.ask.ref.id, i64 o.ask.ref.key.rank, u64 o.ask.ref.key.n, i64 o.ask.ref.vec.len, u64 o.ask.ref.vec.bits, i64 o.ask.ref2.id, i64 o.ask.ref2.key.rank, u64 o.ask.ref2.key.n, i64 o.ask.ref2.vec.len, u64 o.ask.ref2.vec.bits, i64 o.ask.o.agent, i64 o.ask.o.op,
  i64 o.x.x.kind, .bool o.x.x.marked, i64 o.x.x.left.id, i64 o.x.x.left.key.rank, u64 o.x.x.left.key.n, i64 o.x.x.left.vec.len, u64 o.x.x.left.vec.bits, i64 o.x.x.right.id, i64 o.x.x.right.key.rank, u64 o.x.x.right.key.n, i64 o.x.x.right.vec.len, u64 o.x.x.right.vec.bits, .slice o.x.a o.x.x.value.length o.x.c]
theorem evEC_one : ∀ o : EvE, (evEC o).length = 30 ∧ ∀ v ∈ evEC o, isOne v = true := by intro o; simp [evEC, isOne]
instance : FS evEC 2 15 askC EvE.ask := ⟨fun _ => rfl⟩
instance : FS evEC 17 13 ansEC EvE.x := ⟨fun _ => rfl⟩
abbrev evv (e : EvE) : Value := .agg (evEC e).toArray
def EvE.ev (e : EvE) : EvS := ⟨e.kind, e.i, e.ask, e.x.x⟩
/-- A row, where it lies. -/
structure RowE where
  a : Option Addr
  c : Nat
  l : List PktE
  deriving Inhabited
def twoC (p q : Nat) (an : Option Addr) (ln cn : Nat) (ag : Option Addr) (lg cg : Nat) (at' : Option Addr) (lt ct : Nat) (ah : Option Addr) (lh ch : Nat) (bad : Bool) : List Value :=
  [ptr p, ptr q, .slice an ln cn, .slice ag lg cg, .slice at' lt ct, .slice ah lh ch, .bool bad]
def TwoP (b : Nat) (S : TwoS) : Assn := ex fun x : (Nat × Nat) × RowE × RowE × RowE × (Option Addr × Nat) =>
  sep [pc b 87 (twoC x.1.1 x.1.2 x.2.1.a x.2.1.l.length x.2.1.c x.2.2.1.a x.2.2.1.l.length x.2.2.1.c x.2.2.2.1.a x.2.2.2.1.l.length x.2.2.2.1.c x.2.2.2.2.1 S.heard.length x.2.2.2.2.2 S.bad), CallerP x.1.1 S.C, AnswererP x.1.2 S.A,
    SlT true pktEC 34 (.slice x.2.1.a x.2.1.l.length x.2.1.c) x.2.1.c x.2.1.l, SlT true pktEC 34 (.slice x.2.2.1.a x.2.2.1.l.length x.2.2.1.c) x.2.2.1.c x.2.2.1.l, SlT true pktEC 34 (.slice x.2.2.2.1.a x.2.2.2.1.l.length x.2.2.2.1.c) x.2.2.2.1.c x.2.2.2.1.l,
    SlT true intE 1 (.slice x.2.2.2.2.1 S.heard.length x.2.2.2.2.2) x.2.2.2.2.2 S.heard, PksA x.2.1.l, PksA x.2.2.1.l, PksA x.2.2.2.1.l, pur (x.2.1.l.map (·.p) = S.net ∧ x.2.2.1.l.map (·.p) = S.gave ∧ x.2.2.2.1.l.map (·.p) = S.told)]
section
variable {P : Program} {n : Nat} {ρ : Env} {cs r r1 r2 r3 r4 r5 r6 r7 r8 r9 ds : List Assn} {cc : CC} {t : Tr} {K : Env → List Assn → Prop} {Q : Exit → Env → List Assn → Prop} {b p q : Nat} {C : Clr} {A : Anr} {N G T : List Pkt} {H : List Int} {B : Bool}
theorem J.openTwo (hh : Has cs (TwoP b ⟨C, A, N, G, T, H, B⟩) r)
    (h : ∀ p q an cn (net : List PktE) ag cg (gave : List PktE) at' ct (told : List PktE) ah ch, net.map (·.p) = N → gave.map (·.p) = G → told.map (·.p) = T → net.length ≤ cn → net.length ≤ 140737488355328 → gave.length ≤ cg → gave.length ≤ 140737488355328 → told.length ≤ ct → told.length ≤ 140737488355328 → H.length ≤ ch → H.length ≤ 140737488355328 →
      J P n cc ρ (pc b 87 (twoC p q an net.length cn ag gave.length cg at' told.length ct ah H.length ch B) :: CallerP p C :: AnswererP q A :: SlT true pktEC 34 (.slice an net.length cn) cn net :: SlT true pktEC 34 (.slice ag gave.length cg) cg gave :: SlT true pktEC 34 (.slice at' told.length ct) ct told :: SlT true intE 1 (.slice ah H.length ch) ch H :: PksA net :: PksA gave :: PksA told :: r) Q) : J P n cc ρ cs Q :=
  J.has hh (J.ex fun x => J.sep (J.has (Has.there (Has.there (Has.there (Has.there (Has.there (Has.there (Has.there (Has.there (Has.there (Has.there Has.here)))))))))) (J.pur fun e =>
    J.slF (Has.there (Has.there (Has.there Has.here))) fun h1 h2 _ => J.slF (Has.there (Has.there (Has.there (Has.there Has.here)))) fun h3 h4 _ => J.slF (Has.there (Has.there (Has.there (Has.there (Has.there Has.here))))) fun h5 h6 _ => J.slF (Has.there (Has.there (Has.there (Has.there (Has.there (Has.there Has.here)))))) fun h7 h8 _ =>
      h x.1.1 x.1.2 x.2.1.a x.2.1.c x.2.1.l x.2.2.1.a x.2.2.1.c x.2.2.1.l x.2.2.2.1.a x.2.2.2.1.c x.2.2.2.1.l x.2.2.2.2.1 x.2.2.2.2.2 e.1 e.2.1 e.2.2 h1 h2 h3 h4 h5 h6 h7 h8)))
theorem JT.openTwo (hh : Has cs (TwoP b ⟨C, A, N, G, T, H, B⟩) r)
    (h : ∀ p q an cn (net : List PktE) ag cg (gave : List PktE) at' ct (told : List PktE) ah ch, net.map (·.p) = N → gave.map (·.p) = G → told.map (·.p) = T →
      JT P t ρ (pc b 87 (twoC p q an net.length cn ag gave.length cg at' told.length ct ah H.length ch B) :: CallerP p C :: AnswererP q A :: SlT true pktEC 34 (.slice an net.length cn) cn net :: SlT true pktEC 34 (.slice ag gave.length cg) cg gave :: SlT true pktEC 34 (.slice at' told.length ct) ct told :: SlT true intE 1 (.slice ah H.length ch) ch H :: PksA net :: PksA gave :: PksA told :: r) K) : JT P t ρ cs K :=
  JT.has hh (JT.ex fun x => JT.sep (JT.has (Has.there (Has.there (Has.there (Has.there (Has.there (Has.there (Has.there (Has.there (Has.there (Has.there Has.here)))))))))) (JT.pur fun e =>
      h x.1.1 x.1.2 x.2.1.a x.2.1.c x.2.1.l x.2.2.1.a x.2.2.1.c x.2.2.1.l x.2.2.2.1.a x.2.2.2.1.c x.2.2.2.1.l x.2.2.2.2.1 x.2.2.2.2.2 e.1 e.2.1 e.2.2)))
theorem TwoP.fold {an ag at' ah : Option Addr} {cn cg ct ch : Nat} {net gave told : List PktE} (h1 : Has cs (pc b 87 (twoC p q an net.length cn ag gave.length cg at' told.length ct ah H.length ch B)) r) (h2 : Has r (CallerP p C) r1) (h3 : Has r1 (AnswererP q A) r2) (h4 : Has r2 (SlT true pktEC 34 (.slice an net.length cn) cn net) r3) (h5 : Has r3 (SlT true pktEC 34 (.slice ag gave.length cg) cg gave) r4) (h6 : Has r4 (SlT true pktEC 34 (.slice at' told.length ct) ct told) r5) (h7 : Has r5 (SlT true intE 1 (.slice ah H.length ch) ch H) r6)
    (h8 : Has r6 (PksA net) r7) (h9 : Has r7 (PksA gave) r8) (h10 : Has r8 (PksA told) r9) (e1 : net.map (·.p) = N) (e2 : gave.map (·.p) = G) (e3 : told.map (·.p) = T) (h11 : Imp r9 ds) : Imp cs (TwoP b ⟨C, A, N, G, T, H, B⟩ :: ds) :=
  Imp.trans (Imp.take h1 (Imp.take h2 (Imp.take h3 (Imp.take h4 (Imp.take h5 (Imp.take h6 (Imp.take h7 (Imp.take h8 (Imp.take h9 (Imp.take h10 (Imp.trans (Imp.trans h11 (Imp.pur_in ⟨e1, e2, e3⟩)) (Imp.refl _))))))))))))
    (Imp.trans (Imp.sep_in (cs := [_, _, _, _, _, _, _, _, _, _, _])) (Imp.ex_in (A := fun x : (Nat × Nat) × RowE × RowE × RowE × (Option Addr × Nat) =>
      sep [pc b 87 (twoC x.1.1 x.1.2 x.2.1.a x.2.1.l.length x.2.1.c x.2.2.1.a x.2.2.1.l.length x.2.2.1.c x.2.2.2.1.a x.2.2.2.1.l.length x.2.2.2.1.c x.2.2.2.2.1 H.length x.2.2.2.2.2 B), CallerP x.1.1 C, AnswererP x.1.2 A,
        SlT true pktEC 34 (.slice x.2.1.a x.2.1.l.length x.2.1.c) x.2.1.c x.2.1.l, SlT true pktEC 34 (.slice x.2.2.1.a x.2.2.1.l.length x.2.2.1.c) x.2.2.1.c x.2.2.1.l, SlT true pktEC 34 (.slice x.2.2.2.1.a x.2.2.2.1.l.length x.2.2.2.1.c) x.2.2.2.1.c x.2.2.2.1.l,
        SlT true intE 1 (.slice x.2.2.2.2.1 H.length x.2.2.2.2.2) x.2.2.2.2.2 H, PksA x.2.1.l, PksA x.2.2.1.l, PksA x.2.2.2.1.l, pur (x.2.1.l.map (·.p) = N ∧ x.2.2.1.l.map (·.p) = G ∧ x.2.2.2.1.l.map (·.p) = T)]) ((p, q), ⟨an, cn, net⟩, ⟨ag, cg, gave⟩, ⟨at', ct, told⟩, (ah, ch))))
end
theorem PksA.fold {xs : List PktE} {y : PktE} {cs r r1 ds : List Assn} (h1 : Has cs (PksA xs) r) (h2 : Has r (pkO y) r1) (h3 : Imp r1 ds) : Imp cs (PksA (xs ++ [y]) :: ds) :=
  Imp.trans h1 (Imp.trans (Imp.cons (Imp.trans h2 (Imp.cons h3))) (Imp.trans Imp.swap PksA.snoc))
end Go.SL
