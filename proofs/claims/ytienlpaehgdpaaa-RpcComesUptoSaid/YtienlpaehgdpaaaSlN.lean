/- The walk's own words, part N: small rules that the walks use. Conditions: none. -/
import Derived.Test.YtienlpaehgdpaaaSlQ
set_option linter.unusedSimpArgs false
set_option linter.unusedVariables false
set_option linter.unusedSectionVars false
namespace Go.SL
open Go

section
variable {P : Program} {N : Nat} {ρ : Env} {cs r : List Assn} {t : Tr} {K : Env → List Assn → Prop} {Q : Exit → Env → List Assn → Prop}

theorem seqQ_n (h : K ρ cs) : seqQ K Q .normal ρ cs := h
theorem seqQ_r (h : Q .ret ρ cs) : seqQ K Q .ret ρ cs := h
theorem seqQ_x {i : Nat} (h : Q (.exit i) ρ cs) : seqQ K Q (.exit i) ρ cs := h
theorem blockQ_n {id : Nat} (h : Q .normal ρ cs) : blockQ id Q .normal ρ cs := h
theorem blockQ_r {id : Nat} (h : Q .ret ρ cs) : blockQ id Q .ret ρ cs := h
theorem blockQ_hit {id : Nat} (h : Q .normal ρ cs) : blockQ id Q (.exit id) ρ cs := by simp only [blockQ, if_true]; exact h
theorem blockQ_miss {i id : Nat} (hi : Nat.beq i id = false) (h : Q (.exit i) ρ cs) : blockQ id Q (.exit i) ρ cs := by
  have : i ≠ id := fun e => by subst e; rw [Nat.beq_refl] at hi; cases hi
  simp only [blockQ, if_neg this]; exact h

theorem J.condT {o : Operand} {x y : CC} (hb : ρ.ev o = some (.bool true)) (h : J P N x ρ cs Q) : J P N (.cond o x y) ρ cs Q := J.cond hb (fun _ => h) (fun e => by cases e)
theorem J.condF {o : Operand} {x y : CC} (hb : ρ.ev o = some (.bool false)) (h : J P N y ρ cs Q) : J P N (.cond o x y) ρ cs Q := J.cond hb (fun e => by cases e) (fun _ => h)


theorem Rets.cw {t n b T : Nat} {l : List Value} {rs : List RV} {vs : List Value} (h : ρ.lk t = some (.pointer (some ⟨b, 0, none⟩))) (hh : Has cs (pc b T l) r) (hn : l.length = n) (hr : Rets ρ cs rs vs) :
    Rets ρ cs (.c t (some n) :: rs) (.agg l.toArray :: vs) :=
  Rets.cn h (fun w hs => by rw [cells_of (hs.pc hh) n 0 (by simp [hn])]; simp [← hn]) hr
theorem Rets.cv {t b T : Nat} {v : Value} {rs : List RV} {vs : List Value} (h : ρ.lk t = some (.pointer (some ⟨b, 0, none⟩))) (hh : Has cs (pc b T [v]) r) (hr : Rets ρ cs rs vs) :
    Rets ρ cs (.c t none :: rs) (v :: vs) :=
  Rets.c1 h (fun w hs => by rw [cell_of (hs.pc hh)]; rfl) hr

/-- It comes back with just this. -/
def Det (v0 : Value) (cs0 : List Assn) : Value → List Assn → Prop := fun v cs => v = v0 ∧ cs = cs0
/-- It comes back with one of these. -/
def Some' {α : Type} (p : α → Prop) (V : α → Value) (C : α → List Assn) : Value → List Assn → Prop := fun v cs => ∃ x, p x ∧ v = V x ∧ cs = C x

theorem JT.callD {d : Nat} {f : Operand} {args : List Operand} {fid : Nat} {vs : List Value} {cs0 cs1 : List Assn} {v0 : Value} (hf : ρ.ev f = some (.func (.func fid) #[] #[])) (ha : ρ.evs args = some vs)
    (hi : Up cs cs0) (hfn : Meets P fid vs cs0 (Det v0 cs1)) (h : JT P t ((d, v0) :: ρ) cs1 K) : JT P (.st ⟨some d, .call f args, none⟩ t) ρ cs K :=
  JT.call hf ha hfn hi fun v cs' ⟨e1, e2⟩ => by subst e1 e2; exact h
theorem JT.callS {d : Nat} {f : Operand} {args : List Operand} {fid : Nat} {vs : List Value} {cs0 : List Assn} {α : Type} {p : α → Prop} {V : α → Value} {C : α → List Assn} (hf : ρ.ev f = some (.func (.func fid) #[] #[])) (ha : ρ.evs args = some vs)
    (hi : Up cs cs0) (hfn : Meets P fid vs cs0 (Some' p V C)) (h : ∀ x, p x → JT P t ((d, V x) :: ρ) (C x) K) : JT P (.st ⟨some d, .call f args, none⟩ t) ρ cs K :=
  JT.call hf ha hfn hi fun v cs' ⟨x, hx, e1, e2⟩ => by subst e1 e2; exact h x hx
theorem JT.callD0 {f : Operand} {args : List Operand} {fid : Nat} {vs : List Value} {cs0 cs1 : List Assn} {v0 : Value} (hf : ρ.ev f = some (.func (.func fid) #[] #[])) (ha : ρ.evs args = some vs)
    (hi : Up cs cs0) (hfn : Meets P fid vs cs0 (Det v0 cs1)) (h : JT P t ρ cs1 K) : JT P (.st ⟨none, .call f args, none⟩ t) ρ cs K :=
  JT.call hf ha hfn hi fun v cs' ⟨e1, e2⟩ => by subst e1 e2; exact h
theorem JT.callS0 {f : Operand} {args : List Operand} {fid : Nat} {vs : List Value} {cs0 : List Assn} {α : Type} {p : α → Prop} {V : α → Value} {C : α → List Assn} (hf : ρ.ev f = some (.func (.func fid) #[] #[])) (ha : ρ.evs args = some vs)
    (hi : Up cs cs0) (hfn : Meets P fid vs cs0 (Some' p V C)) (h : ∀ x, p x → JT P t ρ (C x) K) : JT P (.st ⟨none, .call f args, none⟩ t) ρ cs K :=
  JT.call hf ha hfn hi fun v cs' ⟨x, hx, e1, e2⟩ => by subst e1 e2; exact h x hx

theorem retD {rs : List RV} {v0 : Value} {cs1 : List Assn} {vs : List Value} (h : Rets ρ cs rs vs) (hv : mkRet vs = v0) (hi : Up cs cs1) : ∃ vs cs2, Rets ρ cs rs vs ∧ Up cs cs2 ∧ Det v0 cs1 (mkRet vs) cs2 := ⟨vs, cs1, h, hi, hv, rfl⟩
theorem retS {rs : List RV} {α : Type} {p : α → Prop} {V : α → Value} {C : α → List Assn} {vs : List Value} (x : α) (h : Rets ρ cs rs vs) (hp : p x) (hv : mkRet vs = V x) (hi : Up cs (C x)) : ∃ vs cs2, Rets ρ cs rs vs ∧ Up cs cs2 ∧ Some' p V C (mkRet vs) cs2 := ⟨vs, C x, h, hi, x, hp, hv, rfl⟩

theorem Cells.cl {x : Operand} {j n : Nat} {v u : Value} {s : List Src} {out : List Value} (hx : ρ.ev x = some v) (hn : v.cells.toList.length = n) (hu : lnth v.cells.toList j = some u) (h : Cells ρ s out) : Cells ρ (.c x j n :: s) (u :: out) :=
  .c hx (by simpa using hn) (by rw [lnth_eq] at hu; simpa using hu) h

/-! Numbers that count -/
class IsC (z : Int) (n : outParam Nat) : Prop where
  h : z = (n : Int)
instance {n : Nat} : IsC (n : Int) n := ⟨rfl⟩
instance {n : Nat} : IsC (@OfNat.ofNat Int n (@instOfNat n)) (@OfNat.ofNat Nat n (instOfNatNat n)) := ⟨rfl⟩
theorem Ev.addN {x y : Operand} {z1 z2 : Int} {a b : Nat} [H1 : IsC z1 a] [H2 : IsC z2 b] (hx : ρ.ev x = some (.int .i64 z1)) (hy : ρ.ev y = some (.int .i64 z2)) (h : a + b ≤ 9223372036854775807) : Ev P (.bini .add x y) ρ cs (.int .i64 ((a + b : Nat) : Int)) :=
  Ev.add hx hy (by rw [H1.h, H2.h, Int.natCast_add]; exact Wr.i64 (by omega) (by omega))
theorem Ev.subN {x y : Operand} {z1 z2 : Int} {a b : Nat} [H1 : IsC z1 a] [H2 : IsC z2 b] (hx : ρ.ev x = some (.int .i64 z1)) (hy : ρ.ev y = some (.int .i64 z2)) (h : b ≤ a) (h' : a ≤ 9223372036854775807) : Ev P (.bini .sub x y) ρ cs (.int .i64 ((a - b : Nat) : Int)) :=
  Ev.sub hx hy (by rw [H1.h, H2.h, Int.ofNat_sub h]; exact Wr.i64 (by omega) (by omega))
theorem Bd.c {d n : Nat} {o : Operand} {k : IntKind} {z : Int} [H : IsC z n] (h : ρ.ev o = some (.int k z)) : Bd ρ d (some o) n := Bd.so (k := k) (by rw [h, H.h])
theorem Bd.si {d : Nat} {o : Operand} {k : IntKind} {z : Int} (h : ρ.ev o = some (.int k z)) (h0 : 0 ≤ z) : Bd ρ d (some o) z.toNat := Bd.so (k := k) (by rw [h, Int.toNat_of_nonneg h0])

/-! Comparisons that are known -/
section
variable {x y : Operand} {k : IntKind} {n m : Int}
theorem Ev.cltT (hx : ρ.ev x = some (.int k n)) (hy : ρ.ev y = some (.int k m)) (h : n < m) : Ev P (.bini .lss x y) ρ cs (.bool true) := Ev.int hx hy (by simp [intBin]; omega)
theorem Ev.cltF (hx : ρ.ev x = some (.int k n)) (hy : ρ.ev y = some (.int k m)) (h : ¬ n < m) : Ev P (.bini .lss x y) ρ cs (.bool false) := Ev.int hx hy (by simp [intBin]; omega)
theorem Ev.cgtT (hx : ρ.ev x = some (.int k n)) (hy : ρ.ev y = some (.int k m)) (h : m < n) : Ev P (.bini .gtr x y) ρ cs (.bool true) := Ev.int hx hy (by simp [intBin]; omega)
theorem Ev.cgtF (hx : ρ.ev x = some (.int k n)) (hy : ρ.ev y = some (.int k m)) (h : ¬ m < n) : Ev P (.bini .gtr x y) ρ cs (.bool false) := Ev.int hx hy (by simp [intBin]; omega)
theorem Ev.cleT (hx : ρ.ev x = some (.int k n)) (hy : ρ.ev y = some (.int k m)) (h : n ≤ m) : Ev P (.bini .leq x y) ρ cs (.bool true) := Ev.int hx hy (by simp [intBin]; omega)
theorem Ev.cleF (hx : ρ.ev x = some (.int k n)) (hy : ρ.ev y = some (.int k m)) (h : ¬ n ≤ m) : Ev P (.bini .leq x y) ρ cs (.bool false) := Ev.int hx hy (by simp [intBin]; omega)
theorem Ev.cgeT (hx : ρ.ev x = some (.int k n)) (hy : ρ.ev y = some (.int k m)) (h : m ≤ n) : Ev P (.bini .geq x y) ρ cs (.bool true) := Ev.int hx hy (by simp [intBin]; omega)
theorem Ev.cgeF (hx : ρ.ev x = some (.int k n)) (hy : ρ.ev y = some (.int k m)) (h : ¬ m ≤ n) : Ev P (.bini .geq x y) ρ cs (.bool false) := Ev.int hx hy (by simp [intBin]; omega)
theorem Ev.ceqT (hx : ρ.ev x = some (.int k n)) (hy : ρ.ev y = some (.int k m)) (h : n = m) : Ev P (.bini .eql x y) ρ cs (.bool true) := Ev.int hx hy (by simp [intBin]; omega)
theorem Ev.ceqF (hx : ρ.ev x = some (.int k n)) (hy : ρ.ev y = some (.int k m)) (h : ¬ n = m) : Ev P (.bini .eql x y) ρ cs (.bool false) := Ev.int hx hy (by simp [intBin]; omega)
theorem Ev.cneT (hx : ρ.ev x = some (.int k n)) (hy : ρ.ev y = some (.int k m)) (h : ¬ n = m) : Ev P (.bini .neq x y) ρ cs (.bool true) := Ev.int hx hy (by simp [intBin]; omega)
theorem Ev.cneF (hx : ρ.ev x = some (.int k n)) (hy : ρ.ev y = some (.int k m)) (h : n = m) : Ev P (.bini .neq x y) ρ cs (.bool false) := Ev.int hx hy (by simp [intBin]; omega)
end

/-! The frame said otherwise -/
theorem JT.envR {ρ' : Env} (e : ρ = ρ') (h : JT P t ρ' cs K) : JT P t ρ cs K := e ▸ h
theorem J.envR {cc : CC} {ρ' : Env} (e : ρ = ρ') (h : J P N cc ρ' cs Q) : J P N cc ρ cs Q := e ▸ h
theorem Ev.envR {k : Kd} {v : Value} {ρ' : Env} (e : ρ = ρ') (h : Ev P k ρ' cs v) : Ev P k ρ cs v := e ▸ h

/-! What a goal is -/
theorem imp1 {p q : Prop} (h : p → q) : p → q := h
theorem J.im {p : Prop} {cc : CC} (h : p → J P N cc ρ cs Q) : p → J P N cc ρ cs Q := h
theorem JT.im {p : Prop} (h : p → JT P t ρ cs K) : p → JT P t ρ cs K := h
theorem Ev.im {p : Prop} {k : Kd} {v : Value} (h : p → Ev P k ρ cs v) : p → Ev P k ρ cs v := h

theorem Ev.id {k : Kd} {v : Value} (h : Ev P k ρ cs v) : Ev P k ρ cs v := h
theorem JT.id (h : JT P t ρ cs K) : JT P t ρ cs K := h
theorem JT.isC {dst : Option Nat} {f : Operand} {a : List Operand} (h : JT P (.st ⟨dst, .call f a, none⟩ t) ρ cs K) : JT P (.st ⟨dst, .call f a, none⟩ t) ρ cs K := h
theorem JT.isSt {n : Nat} {a x : Operand} (h : JT P (.st ⟨none, .st n a x, none⟩ t) ρ cs K) : JT P (.st ⟨none, .st n a x, none⟩ t) ρ cs K := h
theorem JT.isSl {dst : Option Nat} {n : Nat} {x : Operand} {a b c : Option Operand} (h : JT P (.st ⟨dst, .sl n x a b c, none⟩ t) ρ cs K) : JT P (.st ⟨dst, .sl n x a b c, none⟩ t) ρ cs K := h
theorem JT.isB {dst : Option Nat} {T n : Nat} {s : List Src} (h : JT P (.st ⟨dst, .bsl T s n, none⟩ t) ρ cs K) : JT P (.st ⟨dst, .bsl T s n, none⟩ t) ρ cs K := h
theorem JT.isA {dst : Option Nat} {T s b : Nat} {z : Array Value} {x y : Operand} (h : JT P (.st ⟨dst, .ap T s b z x y, none⟩ t) ρ cs K) : JT P (.st ⟨dst, .ap T s b z x y, none⟩ t) ρ cs K := h
theorem JT.isL {dst : Option Nat} {ok : Bool} {kt : Nat} {z : Value} {x i : Operand} (h : JT P (.st ⟨dst, .lkp ok kt z x i, none⟩ t) ρ cs K) : JT P (.st ⟨dst, .lkp ok kt z x i, none⟩ t) ρ cs K := h

/-- An operation under a guard that is not known, both ways. -/
theorem JT.gV {dst : Nat} {k : Kd} {g : Nat} {b : Bool} {u : Value} (hg : ρ.lk g = some u) (h1 : u = .bool b → JT P (.st ⟨some dst, k, none⟩ t) ρ cs K) (h2 : u ≠ .bool b → JT P t ((dst, undef) :: ρ) cs K) : JT P (.st ⟨some dst, k, some (g, b)⟩ t) ρ cs K := ⟨by
  intro w hs
  simp only [runT, semG]
  refine ⟨u, hg, fun e => ?_, fun e => (h2 e).run w hs⟩
  have := (h1 e).run w hs
  simpa only [runT, semG] using this⟩
theorem JT.gs {dst : Nat} {k : Kd} {g : Nat} {x b : Bool} (hg : ρ.lk g = some (.bool x)) (h1 : x = b → JT P (.st ⟨some dst, k, none⟩ t) ρ cs K) (h2 : x = (!b) → JT P t ((dst, undef) :: ρ) cs K) : JT P (.st ⟨some dst, k, some (g, b)⟩ t) ρ cs K :=
  JT.gV hg (fun e => h1 (by injection e)) (fun e => h2 (by cases x <;> cases b <;> simp_all))
theorem JT.gs2 {dst : Nat} {k : Kd} {g : Nat} {x y b : Bool} (hg : ρ.lk g = some (gd x (.bool y))) (h1 : x = true → y = b → JT P (.st ⟨some dst, k, none⟩ t) ρ cs K) (h2 : x = true → y = (!b) → JT P t ((dst, undef) :: ρ) cs K) (h3 : x = false → JT P t ((dst, undef) :: ρ) cs K) : JT P (.st ⟨some dst, k, some (g, b)⟩ t) ρ cs K := by
  cases x with
  | false => exact JT.gV hg (fun e => absurd e undef_ne) (fun _ => h3 rfl)
  | true => exact JT.gV hg (fun e => h1 rfl (by injection e)) (fun e => h2 rfl (by cases y <;> cases b <;> simp_all [gd_true]))
theorem JT.gk {dst : Nat} {k : Kd} {g : Nat} {b : Bool} (hg : ρ.lk g = some (.bool b)) (h1 : JT P (.st ⟨some dst, k, none⟩ t) ρ cs K) : JT P (.st ⟨some dst, k, some (g, b)⟩ t) ρ cs K :=
  JT.gs hg (fun _ => h1) (fun e => by cases b <;> cases e)

/-- What is quiet and taken as it comes. -/
def yK : Kd → Bool
  | .sl .. | .lkp .. => false
  | k => quietK k
theorem yK_quiet {k : Kd} (h : yK k = true) : quietK k = true := by cases k <;> first | exact h | (simp [yK] at h)

/-! Quiet operations, what they yield told later -/
theorem JT.y {dst : Nat} {k : Kd} {v : Value} (hq : yK k = true) (he : Ev P k ρ cs v) (h : JT P t ((dst, v) :: ρ) cs K) : JT P (.st ⟨some dst, k, none⟩ t) ρ cs K := JT.q he h
theorem JT.yT {dst : Nat} {k : Kd} {v : Value} {g : Nat} {b : Bool} (hq : yK k = true) (hg : ρ.lk g = some (.bool b)) (he : Ev P k ρ cs v) (h : JT P t ((dst, v) :: ρ) cs K) : JT P (.st ⟨some dst, k, some (g, b)⟩ t) ρ cs K := JT.qT hg he h
theorem JT.yg {dst : Nat} {k : Kd} {v : Value} {g : Nat} {x : Bool} (hq : yK k = true) (hg : ρ.lk g = some (.bool x)) (he : x = true → Ev P k ρ cs v) (h : JT P t ((dst, gd x v) :: ρ) cs K) : JT P (.st ⟨some dst, k, some (g, true)⟩ t) ρ cs K := JT.qg hg he h
theorem JT.yh {dst : Nat} {k : Kd} {v : Value} {g : Nat} {x : Bool} (hq : yK k = true) (hg : ρ.lk g = some (.bool x)) (he : x = false → Ev P k ρ cs v) (h : JT P t ((dst, gd (!x) v) :: ρ) cs K) : JT P (.st ⟨some dst, k, some (g, false)⟩ t) ρ cs K := JT.qh hg he h
theorem JT.yg2 {dst : Nat} {k : Kd} {v : Value} {g : Nat} {x y : Bool} (hq : yK k = true) (hg : ρ.lk g = some (gd x (.bool y))) (he : x = true → y = true → Ev P k ρ cs v) (h : JT P t ((dst, gd (x && y) v) :: ρ) cs K) : JT P (.st ⟨some dst, k, some (g, true)⟩ t) ρ cs K := JT.qg2 hg he h
theorem JT.yh2 {dst : Nat} {k : Kd} {v : Value} {g : Nat} {x y : Bool} (hq : yK k = true) (hg : ρ.lk g = some (gd x (.bool y))) (he : x = true → y = false → Ev P k ρ cs v) (h : JT P t ((dst, gd (x && !y) v) :: ρ) cs K) : JT P (.st ⟨some dst, k, some (g, false)⟩ t) ρ cs K := JT.qh2 hg he h
theorem JT.yA {d : Nat} {k : Kd} {v : Value} (hd : ρ.lk d = some v) (he : Ev P k ρ cs v) (h : JT P t ρ cs K) : JT P (.ag ⟨some d, k, none⟩ t) ρ cs K := JT.ag he hd h
theorem JT.yB {d : Nat} {k : Kd} {v : Value} {g : Nat} {b : Bool} (hg : ρ.lk g = some (.bool b)) (hd : ρ.lk d = some v) (he : Ev P k ρ cs v) (h : JT P t ρ cs K) : JT P (.ag ⟨some d, k, some (g, b)⟩ t) ρ cs K := JT.agT hg he hd h

/-- What is known of memory says something plain. -/
theorem J.fact {cc : CC} {p : Prop} (hp : ∀ h, Sat h cs → p) (h : p → J P N cc ρ cs Q) : J P N cc ρ cs Q := ⟨fun φ ha w hs => (h (hp _ hs)).run φ ha w hs⟩
theorem JT.fact {p : Prop} (hp : ∀ h, Sat h cs → p) (h : p → JT P t ρ cs K) : JT P t ρ cs K := ⟨fun w hs => (h (hp _ hs)).run w hs⟩

theorem Sat.capF {α : Type} {m : Bool} {enc : α → List Value} {sz c : Nat} {sv : Value} {xs : List α} {h : Heap} (hs : Sat h cs) (hh : Has cs (SlT m enc sz sv c xs) r) : xs.length ≤ c := (hs.slice hh).2.2.1
theorem Sat.nilF {α : Type} {m : Bool} {enc : α → List Value} {sz c n : Nat} {a : Option Addr} {xs : List α} {h : Heap} (hs : Sat h cs) (hh : Has cs (SlT m enc sz (.slice a n c) c xs) r) : a = none → xs = [] := by
  obtain ⟨S, H, _, _, hz, h0, hc⟩ := hs.mem hh
  rintro rfl
  cases m with
  | true =>
    rcases hc with ⟨h1, h2, h3⟩ | ⟨b, T, pre, rest, h1, _⟩
    · simpa using h2
    · simp at h1
  | false =>
    rcases hc with ⟨h2, _⟩ | ⟨b, off', T, fz, C, h1, _⟩
    · simpa using h2
    · simp at h1

theorem J.slF {cc : CC} {α : Type} {m : Bool} {enc : α → List Value} {sz c n : Nat} {a : Option Addr} {xs : List α} (hh : Has cs (SlT m enc sz (.slice a n c) c xs) r)
    (h : xs.length ≤ c → xs.length ≤ 140737488355328 → (a = none → xs = []) → J P N cc ρ cs Q) : J P N cc ρ cs Q :=
  J.fact (fun _ hs => hs.capF hh) fun h1 => J.fact (fun _ hs => hs.lenF hh) fun h2 => J.fact (fun _ hs => hs.nilF hh) fun h3 => h h1 h2 h3

/-! Slices by their head's address -/
theorem JT.form {α : Type} {d : Nat} {m : Bool} {enc : α → List Value} {sz c : Nat} {xs : List α} (h : ∀ a, JT P t ((d, .slice a xs.length c) :: ρ) (SlT m enc sz (.slice a xs.length c) c xs :: cs) K) (sv : Value) :
    JT P t ((d, sv) :: ρ) (SlT m enc sz sv c xs :: cs) K := by
  refine JT.fact (p := ∃ a, sv = .slice a xs.length c) (fun w hs => ?_) fun ⟨a, e⟩ => by rw [e]; exact h a
  obtain ⟨S, H, _, _, hc⟩ := hs.mem Has.here
  obtain ⟨a, rfl, _⟩ := SlT.form hc
  exact ⟨a, rfl⟩

section
variable {α : Type} {d sz c : Nat} {x : Operand} {lo hi mx : Option Operand} {enc : α → List Value} {sv : Value} {xs : List α}
theorem JT.sF {m : Nat} (hx : ρ.ev x = some sv) (hh : Has cs (SlT false enc sz sv c xs) r) (hl : Bd ρ 0 lo 0) (hu : Bd ρ xs.length hi xs.length) (hm : Bd ρ c mx m) (hmh : mx.isSome = true → hi.isSome = true) (h3 : xs.length ≤ m) (h4 : m ≤ c)
    (h : ∀ a, JT P t ((d, .slice a xs.length m) :: ρ) (SlT false enc sz (.slice a xs.length m) m xs :: cs) K) : JT P (.st ⟨some d, .sl sz x lo hi mx, none⟩ t) ρ cs K :=
  JT.slS hx hh hm hu hl hmh (by omega) (by omega) h3 h4 (JT.form (by simpa using h))
theorem JT.sD {l m : Nat} (hx : ρ.ev x = some sv) (hh : Has cs (SlT false enc sz sv c xs) r) (hl : Bd ρ 0 lo l) (hu : Bd ρ xs.length hi xs.length) (hm : Bd ρ c mx m) (hmh : mx.isSome = true → hi.isSome = true) (h1 : l ≤ xs.length) (h3 : xs.length ≤ m) (h4 : m ≤ c)
    (h : ∀ a, JT P t ((d, .slice a (xs.drop l).length (m - l)) :: ρ) (SlT false enc sz (.slice a (xs.drop l).length (m - l)) (m - l) (xs.drop l) :: cs) K) : JT P (.st ⟨some d, .sl sz x lo hi mx, none⟩ t) ρ cs K :=
  JT.slS hx hh hm hu hl hmh h1 (by omega) h3 h4 (JT.form (by simpa using h))
theorem JT.sT {u m : Nat} (hx : ρ.ev x = some sv) (hh : Has cs (SlT false enc sz sv c xs) r) (hl : Bd ρ 0 lo 0) (hu : Bd ρ xs.length hi u) (hm : Bd ρ c mx m) (hmh : mx.isSome = true → hi.isSome = true) (h1 : u ≤ xs.length) (h3 : u ≤ m) (h4 : m ≤ c)
    (h : ∀ a, JT P t ((d, .slice a (xs.take u).length m) :: ρ) (SlT false enc sz (.slice a (xs.take u).length m) m (xs.take u) :: cs) K) : JT P (.st ⟨some d, .sl sz x lo hi mx, none⟩ t) ρ cs K :=
  JT.slS hx hh hm hu hl hmh (by omega) h1 h3 h4 (JT.form (by simpa using h))
theorem JT.sG {l u m : Nat} (hx : ρ.ev x = some sv) (hh : Has cs (SlT false enc sz sv c xs) r) (hl : Bd ρ 0 lo l) (hu : Bd ρ xs.length hi u) (hm : Bd ρ c mx m) (hmh : mx.isSome = true → hi.isSome = true) (h0 : l ≤ u) (h1 : u ≤ xs.length) (h3 : u ≤ m) (h4 : m ≤ c)
    (h : ∀ a, JT P t ((d, .slice a ((xs.take u).drop l).length (m - l)) :: ρ) (SlT false enc sz (.slice a ((xs.take u).drop l).length (m - l)) (m - l) ((xs.take u).drop l) :: cs) K) : JT P (.st ⟨some d, .sl sz x lo hi mx, none⟩ t) ρ cs K :=
  JT.slS hx hh hm hu hl hmh h0 h1 h3 h4 (JT.form h)
theorem JT.oD {l m : Nat} (hx : ρ.ev x = some sv) (hh : Has cs (SlT true enc sz sv c xs) r) (hl : Bd ρ 0 lo l) (hu : Bd ρ xs.length hi xs.length) (hm : Bd ρ c mx m) (hmh : mx.isSome = true → hi.isSome = true) (h1 : l ≤ xs.length) (h3 : xs.length ≤ m) (h4 : m ≤ c)
    (h : ∀ a, JT P t ((d, .slice a (xs.drop l).length (m - l)) :: ρ) (SlT true enc sz (.slice a (xs.drop l).length (m - l)) (m - l) (xs.drop l) :: r) K) : JT P (.st ⟨some d, .sl sz x lo hi mx, none⟩ t) ρ cs K :=
  JT.slO hx hh hm hu hl hmh h1 (by omega) h3 h4 (JT.form (by simpa using h))
theorem JT.oT {u m : Nat} (hx : ρ.ev x = some sv) (hh : Has cs (SlT true enc sz sv c xs) r) (hl : Bd ρ 0 lo 0) (hu : Bd ρ xs.length hi u) (hm : Bd ρ c mx m) (hmh : mx.isSome = true → hi.isSome = true) (h1 : u ≤ xs.length) (h3 : u ≤ m) (h4 : m ≤ c)
    (h : ∀ a, JT P t ((d, .slice a (xs.take u).length m) :: ρ) (SlT true enc sz (.slice a (xs.take u).length m) m (xs.take u) :: r) K) : JT P (.st ⟨some d, .sl sz x lo hi mx, none⟩ t) ρ cs K :=
  JT.slO hx hh hm hu hl hmh (by omega) h1 h3 h4 (JT.form (by simpa using h))
end

section
variable {α : Type} {d T sz bytes c c1 : Nat} {m m' : Bool} {zero : Array Value} {x y : Operand} {enc : α → List Value} {sv sw : Value} {xs ys : List α} {r1 : List Assn} {l : List Value}
theorem JT.aO (hx : ρ.ev x = some sv) (hh : Has cs (SlT true enc sz sv c xs) r) (hy : ρ.ev y = some sw) (hg : Rd r enc sz c1 sw ys) (hzero : zero.size = sz) (hb0 : 0 < bytes)
    (hb : (xs.length + ys.length) * bytes ≤ 140737488355328)
    (h : ∀ a c', xs.length + ys.length ≤ c' → JT P t ((d, .slice a (xs ++ ys).length c') :: ρ) (SlT true enc sz (.slice a (xs ++ ys).length c') c' (xs ++ ys) :: r) K) : JT P (.st ⟨some d, .ap T sz bytes zero x y, none⟩ t) ρ cs K :=
  JT.apO hx hh hy hg rfl hzero hb0 hb fun sv' c' hc => JT.form (fun a => h a c' hc) sv'
theorem JT.aF (hx : ρ.ev x = some sv) (hh : Rd cs enc sz c sv xs) (hy : ρ.ev y = some sw) (hg : Rd cs enc sz c1 sw ys) (hzero : zero.size = sz) (hb0 : 0 < bytes)
    (hfull : c < xs.length + ys.length) (hb : (xs.length + ys.length) * bytes ≤ 140737488355328)
    (h : ∀ a c', xs.length + ys.length ≤ c' → JT P t ((d, .slice a (xs ++ ys).length c') :: ρ) (SlT true enc sz (.slice a (xs ++ ys).length c') c' (xs ++ ys) :: cs) K) : JT P (.st ⟨some d, .ap T sz bytes zero x y, none⟩ t) ρ cs K :=
  JT.apF hx hh hy hg rfl hzero hb0 hfull hb fun sv' c' hc => JT.form (fun a => h a c' hc) sv'
theorem JT.aS (hx : ρ.ev x = some sv) (hh : Has cs (SlT false enc sz sv c xs) r) (hy : ρ.ev y = some sw) (hg : Rd cs enc sz c1 sw ys) (hzero : zero.size = sz) (hb0 : 0 < bytes)
    (hc : c = xs.length) (hb : (xs.length + ys.length) * bytes ≤ 140737488355328)
    (h : ∀ a c', JT P t ((d, .slice a (xs ++ ys).length c') :: ρ) (SlT false enc sz (.slice a (xs ++ ys).length c') c' (xs ++ ys) :: cs) K) : JT P (.st ⟨some d, .ap T sz bytes zero x y, none⟩ t) ρ cs K := by
  subst hc
  exact JT.apS hx hh hy hg rfl hzero hb0 hb fun sv' c' => JT.form (fun a => h a c') sv'
/-- One more element. -/
theorem JT.aO1 {v : α} (hx : ρ.ev x = some sv) (hh : Has cs (SlT true enc sz sv c xs) r) (hy : ρ.ev y = some sw) (hg : Rd r (fun e => e) sz 1 sw [l]) (he : l = enc v) (hzero : zero.size = sz) (hb0 : 0 < bytes)
    (hb : (xs.length + 1) * bytes ≤ 140737488355328)
    (h : ∀ a c', xs.length + 1 ≤ c' → JT P t ((d, .slice a (xs ++ [v]).length c') :: ρ) (SlT true enc sz (.slice a (xs ++ [v]).length c') c' (xs ++ [v]) :: r) K) : JT P (.st ⟨some d, .ap T sz bytes zero x y, none⟩ t) ρ cs K :=
  JT.apO (ys := [v]) hx hh hy hg (by simp [he]) hzero hb0 hb fun sv' c' hc => JT.form (fun a => h a c' hc) sv'
theorem JT.aF1 {v : α} (hx : ρ.ev x = some sv) (hh : Rd cs enc sz c sv xs) (hy : ρ.ev y = some sw) (hg : Rd cs (fun e => e) sz 1 sw [l]) (he : l = enc v) (hzero : zero.size = sz) (hb0 : 0 < bytes)
    (hfull : c < xs.length + 1) (hb : (xs.length + 1) * bytes ≤ 140737488355328)
    (h : ∀ a c', xs.length + 1 ≤ c' → JT P t ((d, .slice a (xs ++ [v]).length c') :: ρ) (SlT true enc sz (.slice a (xs ++ [v]).length c') c' (xs ++ [v]) :: cs) K) : JT P (.st ⟨some d, .ap T sz bytes zero x y, none⟩ t) ρ cs K :=
  JT.apF (ys := [v]) hx hh hy hg (by simp [he]) hzero hb0 hfull hb fun sv' c' hc => JT.form (fun a => h a c' hc) sv'

theorem JT.bsl1 {src : List Src} {l : List Value} (hc : Cells ρ src l) (hl : l.length = sz) (hz : 0 < sz) (hu : l.all isOne = true)
    (h : ∀ a, JT P t ((d, .slice a 1 1) :: ρ) (SlT true (fun e => e) sz (.slice a 1 1) 1 [l] :: cs) K) : JT P (.st ⟨some d, .bsl T src 1, none⟩ t) ρ cs K :=
  JT.bsl (es := [l]) hc (by simp) rfl hz (by decide) (fun e he => by simp at he; subst he; exact ⟨hl, fun v hv => List.all_eq_true.1 hu v hv⟩) (JT.form (xs := [l]) h)
theorem JT.bslE {src : List Src} {len : Nat} (enc : α → List Value) (xs : List α) (hc : Cells ρ src ((xs.map enc).flatten)) (hn : xs.length = len) (hz : 0 < sz) (hL : len ≤ 140737488355328) (he : ∀ x, (enc x).length = sz ∧ ∀ v ∈ enc x, isOne v = true)
    (h : ∀ a, JT P t ((d, .slice a xs.length len) :: ρ) (SlT true enc sz (.slice a xs.length len) len xs :: cs) K) : JT P (.st ⟨some d, .bsl T src len, none⟩ t) ρ cs K := ⟨by
  intro w hs
  simp only [runT, semG, Kd.sem]
  refine ⟨_, hc, (JT.form h _).run _ ?_⟩
  exact SlT.mk (hs.push (.cells ((xs.map enc).flatten).toArray T)) rfl hn hz hL (fun x _ => he x)⟩
end

/-! What is among the parts, found by instances -/
class HP (cs : List Assn) (b : Nat) (T : outParam Nat) (l : outParam (List Value)) (r : outParam (List Assn)) : Prop where
  h : Has cs (pc b T l) r
instance {b T : Nat} {l : List Value} {r : List Assn} : HP (pc b T l :: r) b T l r := ⟨Has.here⟩
instance {b T : Nat} {l : List Value} {d : Assn} {r r' : List Assn} [H : HP r b T l r'] : HP (d :: r) b T l (d :: r') := ⟨Has.there H.h⟩

/-- What is a part of which slice. -/
def vw (sv' sv : Value) (l u m sz : Nat) : Assn := pur (∃ a n c, sv = .slice a n c ∧ sv' = partV a sz l u m ∧ l ≤ u ∧ u ≤ n ∧ u ≤ m ∧ m ≤ c)
class HW (cs : List Assn) (sv' : Value) (sv : outParam Value) (l u m sz : outParam Nat) (r : outParam (List Assn)) : Prop where
  h : Has cs (vw sv' sv l u m sz) r
instance {sv' sv : Value} {l u m sz : Nat} {r : List Assn} : HW (vw sv' sv l u m sz :: r) sv' sv l u m sz r := ⟨Has.here⟩
instance {sv' sv : Value} {l u m sz : Nat} {d : Assn} {r r' : List Assn} [H : HW r sv' sv l u m sz r'] : HW (d :: r) sv' sv l u m sz (d :: r') := ⟨Has.there H.h⟩
class HS (cs : List Assn) (sv : Value) (α : outParam Type) (enc : outParam (α → List Value)) (sz c : outParam Nat) (xs : outParam (List α)) : Prop where
  h : Rd cs enc sz c sv xs
theorem Sat.vw {h : Heap} {cs r : List Assn} {sv' sv : Value} {l u m sz : Nat} (hs : Sat h cs) (hh : Has cs (vw sv' sv l u m sz) r) : ∃ a n c, sv = .slice a n c ∧ sv' = partV a sz l u m ∧ l ≤ u ∧ u ≤ n ∧ u ≤ m ∧ m ≤ c := by
  obtain ⟨S, H, _, _, hc⟩ := hs.mem hh
  exact hc
instance {α : Type} {enc : α → List Value} {sz c : Nat} {sv : Value} {xs : List α} {d : Assn} {r : List Assn} [H : HS r sv α enc sz c xs] : HS (d :: r) sv α enc sz c xs := ⟨H.h.there⟩
instance {α : Type} {m : Bool} {enc : α → List Value} {sz c : Nat} {sv : Value} {xs : List α} {r : List Assn} : HS (SlT m enc sz sv c xs :: r) sv α enc sz c xs := ⟨Rd.of Has.here⟩
instance {α : Type} {enc : α → List Value} {sz c l u m : Nat} {sv' sv : Value} {xs : List α} {cs r : List Assn} [W : HW cs sv' sv l u m sz r] [H : HS cs sv α enc sz c xs] : HS cs sv' α enc sz (m - l) ((xs.take u).drop l) := ⟨by
  intro h hs
  obtain ⟨a, n, c', e, rfl, h1, h2, h3, h4⟩ := hs.vw W.h
  have hr := H.h h hs
  obtain ⟨_, _, _, a', e', _⟩ := hr.slice Has.here
  subst e'
  injection e with e1 e2 e3
  subst e1 e2 e3
  exact (hr.part Has.here h1 h2 h3 h4).imp (Imp.cons (Imp.nil _))⟩

class HO (cs : List Assn) (sv : Value) (α : outParam Type) (enc : outParam (α → List Value)) (sz c : outParam Nat) (xs : outParam (List α)) (r : outParam (List Assn)) : Prop where
  h : Has cs (SlT true enc sz sv c xs) r
instance {α : Type} {enc : α → List Value} {sz c : Nat} {sv : Value} {xs : List α} {r : List Assn} : HO (SlT true enc sz sv c xs :: r) sv α enc sz c xs r := ⟨Has.here⟩
instance {α : Type} {enc : α → List Value} {sz c : Nat} {sv : Value} {xs : List α} {d : Assn} {r r' : List Assn} [H : HO r sv α enc sz c xs r'] : HO (d :: r) sv α enc sz c xs (d :: r') := ⟨Has.there H.h⟩

class HF (cs : List Assn) (sv : Value) (α : outParam Type) (enc : outParam (α → List Value)) (sz c : outParam Nat) (xs : outParam (List α)) (r : outParam (List Assn)) : Prop where
  h : Has cs (SlT false enc sz sv c xs) r
instance {α : Type} {enc : α → List Value} {sz c : Nat} {sv : Value} {xs : List α} {r : List Assn} : HF (SlT false enc sz sv c xs :: r) sv α enc sz c xs r := ⟨Has.here⟩
instance {α : Type} {enc : α → List Value} {sz c : Nat} {sv : Value} {xs : List α} {d : Assn} {r r' : List Assn} [H : HF r sv α enc sz c xs r'] : HF (d :: r) sv α enc sz c xs (d :: r') := ⟨Has.there H.h⟩

section
variable {α : Type} [Inhabited α] {a x i y : Operand} {m m' : Bool} {enc : α → List Value} {sz c c1 b o T n k d bytes : Nat} {kk : IntKind} {sv sw v : Value} {xs ys : List α} {z : Int} {l l' us : List Value} {r1 : List Assn} {zero : Array Value} {lo hi mx : Option Operand}
omit [Inhabited α] in
theorem Ev.rd {P : Program} {k : Kd} {ρ : Env} {cs : List Assn} {v : Value} (hr : Rd cs enc sz c sv xs) (he : Ev P k ρ [SlT false enc sz sv c xs] v) : Ev P k ρ cs v := ⟨he.q, fun h hs => he.run h (hr h hs)⟩
theorem Ev.L [H : HP cs b T l r] (h : ρ.ev a = some (.pointer (some ⟨b, o, none⟩))) (hv : lnth l o = some v) : Ev P (.ld none a) ρ cs v := Ev.ld h H.h hv
theorem Ev.Lw [H : HP cs b T l r] (h : ρ.ev a = some (.pointer (some ⟨b, 0, none⟩))) (hn : l.length = n) : Ev P (.ld (some n) a) ρ cs (.agg l.toArray) := Ev.ldw h H.h hn
theorem Ev.Lp [H : HP cs b T l r] (h : ρ.ev a = some (.pointer (some ⟨b, o, none⟩))) (hn : o + n ≤ l.length) (hu : lsub l o n = us) : Ev P (.ld (some n) a) ρ cs (.agg us.toArray) := Ev.ldp h H.h hn hu
theorem Ev.LE [H : HS cs sv α enc sz c xs] (h : ρ.ev a = some (elp sv (k * sz))) (hk : k < xs.length) : Ev P (.ld (some sz) a) ρ cs (.agg (enc (nth xs k)).toArray) := Ev.rd H.h (Ev.ldE h Has.here hk)
theorem Ev.LE1 [H : HS cs sv α enc sz c xs] (h : ρ.ev a = some (elp sv (k * sz + o))) (hk : k < xs.length) (hv : lnth (enc (nth xs k)) o = some v) (ho : o < sz) : Ev P (.ld none a) ρ cs v := Ev.rd H.h (Ev.ldE1 h Has.here hk hv ho)
theorem Ev.LE0 [H : HS cs sv α enc sz c xs] (h : ρ.ev a = some (elp sv (k * sz))) (hk : k < xs.length) (hv : lnth (enc (nth xs k)) 0 = some v) : Ev P (.ld none a) ρ cs v := Ev.rd H.h (Ev.ldE0 h Has.here hk hv)
theorem Ev.LEp [H : HS cs sv α enc sz c xs] (h : ρ.ev a = some (elp sv (k * sz + o))) (hk : k < xs.length) (hn : o + n ≤ sz) (hu : lsub (enc (nth xs k)) o n = us) : Ev P (.ld (some n) a) ρ cs (.agg us.toArray) := Ev.rd H.h (Ev.ldEp h Has.here hk hn hu)
omit [Inhabited α] in
theorem Ev.iC {k : Nat} [H : HS cs sv α enc sz c xs] [Hz : IsC z k] (hx : ρ.ev x = some sv) (hi : ρ.ev i = some (.int kk z)) (hk : k < xs.length) : Ev P (.ia sz x i) ρ cs (elp sv (k * sz)) := Ev.rd H.h (Ev.ia hx (kk := kk) (by rw [hi, Hz.h]) Has.here hk)
omit [Inhabited α] in
theorem Ev.iI [H : HS cs sv α enc sz c xs] (hx : ρ.ev x = some sv) (hi : ρ.ev i = some (.int kk z)) (h0 : 0 ≤ z) (hk : z.toNat < xs.length) : Ev P (.ia sz x i) ρ cs (elp sv (z.toNat * sz)) := Ev.rd H.h (Ev.ia hx (kk := kk) (by rw [hi, Int.toNat_of_nonneg h0]) Has.here hk)

theorem JT.w [H : HP cs b T l r] {us : List Value} (ha : ρ.ev a = some (.pointer (some ⟨b, 0, none⟩))) (hx : ρ.ev x = some (.agg us.toArray)) (hn : us.length = n) (hu : us.all isOne = true) (hl : l.length = n) (h : JT P t ρ (pc b T us :: r) K) : JT P (.st ⟨none, .st n a x, none⟩ t) ρ cs K := JT.stw ha hx hn hu H.h hl h
theorem JT.s [H : HP cs b T l r] (ha : ρ.ev a = some (.pointer (some ⟨b, o, none⟩))) (hx : ρ.ev x = some v) (hv : v.cells.toList = us) (hn : us.length = n) (hu : us.all isOne = true) (hl : o + n ≤ l.length) (hp : lput l o us = l') (h : JT P t ρ (pc b T l' :: r) K) :
    JT P (.st ⟨none, .st n a x, none⟩ t) ρ cs K := JT.stp ha hx hv hn hu H.h hl hp h
theorem JT.sE {x' : α} [H : HO cs sv α enc sz c xs r] (ha : ρ.ev a = some (elp sv (k * sz + o))) (hx : ρ.ev x = some v) (hv : v.cells.toList = us) (hn : us.length = n) (hu : us.all isOne = true) (hk : k < xs.length) (hl : o + n ≤ sz) (he : lput (enc (nth xs k)) o us = enc x')
    (h : JT P t ρ (SlT true enc sz sv c (xs.set k x') :: r) K) : JT P (.st ⟨none, .st n a x, none⟩ t) ρ cs K := JT.stE ha hx H.h hk hv hn hu hl he h
theorem JT.sE0 {x' : α} [H : HO cs sv α enc sz c xs r] (ha : ρ.ev a = some (elp sv (k * sz))) (hx : ρ.ev x = some v) (hv : v.cells.toList = us) (hn : us.length = n) (hu : us.all isOne = true) (hk : k < xs.length) (hl : n ≤ sz) (he : lput (enc (nth xs k)) 0 us = enc x')
    (h : JT P t ρ (SlT true enc sz sv c (xs.set k x') :: r) K) : JT P (.st ⟨none, .st n a x, none⟩ t) ρ cs K := JT.stE (o := 0) (by simpa using ha) hx H.h hk hv hn hu (by omega) he h

omit [Inhabited α]
theorem JT.G {l u m : Nat} [H : HF cs sv α enc sz c xs r] (hx : ρ.ev x = some sv) (hl : Bd ρ 0 lo l) (hu : Bd ρ xs.length hi u) (hm : Bd ρ c mx m) (hmh : mx.isSome = true → hi.isSome = true) (h0 : l ≤ u) (h1 : u ≤ xs.length) (h3 : u ≤ m) (h4 : m ≤ c)
    (h : ∀ a, JT P t ((d, .slice a ((xs.take u).drop l).length (m - l)) :: ρ) (SlT false enc sz (.slice a ((xs.take u).drop l).length (m - l)) (m - l) ((xs.take u).drop l) :: cs) K) : JT P (.st ⟨some d, .sl sz x lo hi mx, none⟩ t) ρ cs K :=
  JT.sG hx H.h hl hu hm hmh h0 h1 h3 h4 h
theorem JT.OG {l u m : Nat} [H : HO cs sv α enc sz c xs r] (hx : ρ.ev x = some sv) (hl : Bd ρ 0 lo l) (hu : Bd ρ xs.length hi u) (hm : Bd ρ c mx m) (hmh : mx.isSome = true → hi.isSome = true) (h0 : l ≤ u) (h1 : u ≤ xs.length) (h3 : u ≤ m) (h4 : m ≤ c)
    (h : ∀ a, JT P t ((d, .slice a ((xs.take u).drop l).length (m - l)) :: ρ) (SlT true enc sz (.slice a ((xs.take u).drop l).length (m - l)) (m - l) ((xs.take u).drop l) :: r) K) : JT P (.st ⟨some d, .sl sz x lo hi mx, none⟩ t) ρ cs K :=
  JT.slO hx H.h hm hu hl hmh h0 h1 h3 h4 (JT.form h)

theorem JT.A1 {v : α} [H : HO cs sv α enc sz c xs r] [G : HS r sw (List Value) (fun e => e) sz 1 [l]] (hx : ρ.ev x = some sv) (hy : ρ.ev y = some sw) (he : l = enc v) (hzero : zero.size = sz) (hb0 : 0 < bytes) (hb : (xs.length + 1) * bytes ≤ 140737488355328)
    (h : ∀ a c', xs.length + 1 ≤ c' → JT P t ((d, .slice a (xs ++ [v]).length c') :: ρ) (SlT true enc sz (.slice a (xs ++ [v]).length c') c' (xs ++ [v]) :: r) K) : JT P (.st ⟨some d, .ap T sz bytes zero x y, none⟩ t) ρ cs K := JT.aO1 hx H.h hy G.h he hzero hb0 hb h
theorem JT.A2 {v : α} [H : HS cs sv α enc sz c xs] [G : HS cs sw (List Value) (fun e => e) sz 1 [l]] (hx : ρ.ev x = some sv) (hy : ρ.ev y = some sw) (he : l = enc v) (hzero : zero.size = sz) (hb0 : 0 < bytes) (hfull : c < xs.length + 1) (hb : (xs.length + 1) * bytes ≤ 140737488355328)
    (h : ∀ a c', xs.length + 1 ≤ c' → JT P t ((d, .slice a (xs ++ [v]).length c') :: ρ) (SlT true enc sz (.slice a (xs ++ [v]).length c') c' (xs ++ [v]) :: cs) K) : JT P (.st ⟨some d, .ap T sz bytes zero x y, none⟩ t) ρ cs K := JT.aF1 hx H.h hy G.h he hzero hb0 hfull hb h
theorem JT.A3 [H : HO cs sv α enc sz c xs r] [G : HS r sw α enc sz c1 ys] (hx : ρ.ev x = some sv) (hy : ρ.ev y = some sw) (hzero : zero.size = sz) (hb0 : 0 < bytes) (hb : (xs.length + ys.length) * bytes ≤ 140737488355328)
    (h : ∀ a c', xs.length + ys.length ≤ c' → JT P t ((d, .slice a (xs ++ ys).length c') :: ρ) (SlT true enc sz (.slice a (xs ++ ys).length c') c' (xs ++ ys) :: r) K) : JT P (.st ⟨some d, .ap T sz bytes zero x y, none⟩ t) ρ cs K := JT.aO hx H.h hy G.h hzero hb0 hb h
theorem JT.A4 [H : HS cs sv α enc sz c xs] [G : HS cs sw α enc sz c1 ys] (hx : ρ.ev x = some sv) (hy : ρ.ev y = some sw) (hzero : zero.size = sz) (hb0 : 0 < bytes) (hfull : c < xs.length + ys.length) (hb : (xs.length + ys.length) * bytes ≤ 140737488355328)
    (h : ∀ a c', xs.length + ys.length ≤ c' → JT P t ((d, .slice a (xs ++ ys).length c') :: ρ) (SlT true enc sz (.slice a (xs ++ ys).length c') c' (xs ++ ys) :: cs) K) : JT P (.st ⟨some d, .ap T sz bytes zero x y, none⟩ t) ρ cs K := JT.aF hx H.h hy G.h hzero hb0 hfull hb h
theorem JT.A5 [H : HF cs sv α enc sz c xs r] [G : HS cs sw α enc sz c1 ys] (hx : ρ.ev x = some sv) (hy : ρ.ev y = some sw) (hzero : zero.size = sz) (hb0 : 0 < bytes) (hc : c = xs.length) (hb : (xs.length + ys.length) * bytes ≤ 140737488355328)
    (h : ∀ a c', JT P t ((d, .slice a (xs ++ ys).length c') :: ρ) (SlT false enc sz (.slice a (xs ++ ys).length c') c' (xs ++ ys) :: cs) K) : JT P (.st ⟨some d, .ap T sz bytes zero x y, none⟩ t) ρ cs K := JT.aS hx H.h hy G.h hzero hb0 hc hb h
theorem J.sl {N : Nat} {cc : CC} {Q : Exit → Env → List Assn → Prop} {n : Nat} {a : Option Addr} (H : HS cs (.slice a n c) α enc sz c xs) (h : xs.length ≤ c → xs.length ≤ 140737488355328 → (a = none → xs = []) → J P N cc ρ cs Q) : J P N cc ρ cs Q :=
  J.fact (fun w hs => (H.h w hs).capF Has.here) fun h1 => J.fact (fun w hs => (H.h w hs).lenF Has.here) fun h2 => J.fact (fun w hs => (H.h w hs).nilF Has.here) fun h3 => h h1 h2 h3
/-- A part of a slice, to be read while the whole one stands. -/
theorem JT.V {l u m : Nat} [H : HS cs sv α enc sz c xs] (hx : ρ.ev x = some sv) (hl : Bd ρ 0 lo l) (hu : Bd ρ xs.length hi u) (hm : Bd ρ c mx m) (hmh : mx.isSome = true → hi.isSome = true) (h0 : l ≤ u) (h1 : u ≤ xs.length) (h3 : u ≤ m) (h4 : m ≤ c)
    (h : ∀ a, JT P t ((d, .slice a ((xs.take u).drop l).length (m - l)) :: ρ) (vw (.slice a ((xs.take u).drop l).length (m - l)) sv l u m sz :: cs) K) : JT P (.st ⟨some d, .sl sz x lo hi mx, none⟩ t) ρ cs K := ⟨by
  intro w hs
  obtain ⟨hz, g0, hlc, a, rfl, hf⟩ := (H.h w hs).slice Has.here
  simp only [runT, semG, Kd.sem]
  refine ⟨a, xs.length, c, l, u, m, hx, hm.lo, h4, hmh, hu.lo, fun _ => h3, hl.lo, fun _ => h0, ?_⟩
  have := (h (if m = l then a else a.map (·.add (l * sz)))).run w (hs.imp fun S H hst => ⟨fun _ => none, H, fun b o e => (by cases e), Hp.le_refl _, fun b => .inl rfl,
    ⟨a, xs.length, c, rfl, by simp only [partV]; congr 1; simp; omega, h0, h1, h3, h4⟩, hst⟩)
  have hlen : ((xs.take u).drop l).length = u - l := by simp; omega
  rw [hlen] at this
  exact this⟩
end

/-- Less of the frame is kept. -/
theorem sub_nil {ρ : Env} : Env.sub [] ρ := fun t v h => by simp [Env.lk] at h
theorem sub_cons {ρ ρ' : Env} {d : Nat} {v : Value} (h : ρ.lk d = some v) (hs : Env.sub ρ' ρ) : Env.sub ((d, v) :: ρ') ρ := by
  intro t u ht
  rw [lk_cons] at ht
  by_cases e : d = t
  · subst e; simp at ht; subst ht; exact h
  · rw [if_neg e] at ht; exact hs t u ht

end
end Go.SL
