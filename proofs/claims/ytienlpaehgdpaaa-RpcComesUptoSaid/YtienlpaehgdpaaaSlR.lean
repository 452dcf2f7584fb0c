/- The walk's own words, part R: what a bool says; ways that meet again; loops told by what changes. Conditions: none. -/
import Derived.Test.YtienlpaehgdpaaaSlN
set_option linter.unusedSimpArgs false
set_option linter.unusedVariables false
set_option linter.unusedSectionVars false
namespace Go.SL
open Go

/-- What a bool says where it is true, and where it is false. -/
class BP (e : Bool) (p q : outParam Prop) : Prop where
  t : e = true ↔ p
  f : e = false ↔ q
theorem BP.mk' {e : Bool} {p q : Prop} (h : e = true ↔ p) (h' : q ↔ ¬ p) : BP e p q := ⟨h, by rw [h', ← h]; cases e <;> simp⟩
instance (priority := low) {e : Bool} : BP e (e = true) (e = false) := ⟨.rfl, .rfl⟩
instance {p : Prop} [Decidable p] : BP (decide p) p (¬ p) := .mk' decide_eq_true_iff .rfl
instance {p : Prop} [Decidable p] : BP (decide (¬ p)) (¬ p) p := .mk' (by simp) (by simp)
instance {α : Type} {a b : α} [Decidable (a ≠ b)] : BP (decide (a ≠ b)) (a ≠ b) (a = b) := .mk' (by simp) (by simp)
instance {e : Bool} {p q : Prop} [H : BP e p q] : BP (!e) q p := ⟨by rw [← H.f]; simp, by rw [← H.t]; simp⟩
instance {e : Bool} {p q : Prop} [H : BP e p q] : BP (e && true) p q := ⟨by rw [← H.t]; simp, by rw [← H.f]; simp⟩
instance {e : Bool} {p q : Prop} [H : BP e p q] : BP (e != false) p q := ⟨by rw [← H.t]; simp, by rw [← H.f]; simp⟩
instance {e : Bool} {p q : Prop} [H : BP e p q] : BP (e != true) q p := ⟨by rw [← H.f]; simp, by rw [← H.t]; simp⟩
instance {e : Bool} {p q : Prop} [H : BP e p q] : BP (e || false) p q := ⟨by rw [← H.t]; simp, by rw [← H.f]; simp⟩
instance {e : Bool} {p q : Prop} [H : BP e p q] : BP (e == true) p q := ⟨by rw [← H.t]; simp, by rw [← H.f]; simp⟩
instance {e : Bool} {p q : Prop} [H : BP e p q] : BP (e == false) q p := ⟨by rw [← H.f]; simp, by rw [← H.t]; simp⟩
instance (priority := 900) {e f : Bool} {p q p' q' : Prop} [H : BP e p q] [G : BP f p' q'] : BP (e && f) (p ∧ p') (q ∨ q') := ⟨by rw [← H.t, ← G.t]; simp, by rw [← H.f, ← G.f]; cases e <;> cases f <;> simp⟩
instance (priority := 900) {e f : Bool} {p q p' q' : Prop} [H : BP e p q] [G : BP f p' q'] : BP (e || f) (p ∨ p') (q ∧ q') := ⟨by rw [← H.t, ← G.t]; simp, by rw [← H.f, ← G.f]; simp⟩
instance (priority := 900) {e f : Bool} {p q p' q' : Prop} [H : BP e p q] [G : BP f p' q'] : BP (e == f) (p ∧ p' ∨ q ∧ q') (p ∧ q' ∨ q ∧ p') :=
  ⟨by rw [← H.t, ← G.t, ← H.f, ← G.f]; cases e <;> cases f <;> simp, by rw [← H.t, ← G.t, ← H.f, ← G.f]; cases e <;> cases f <;> simp⟩
instance (priority := 2000) {e : Bool} : BP (e == e) True False := ⟨by simp, by simp⟩
instance : IsC 0 0 := ⟨rfl⟩
instance : IsC 1 1 := ⟨rfl⟩
instance : IsC 2 2 := ⟨rfl⟩
instance : IsC 3 3 := ⟨rfl⟩
instance : IsC 4 4 := ⟨rfl⟩
instance : IsC 64 64 := ⟨rfl⟩

section
variable {P : Program} {N : Nat} {ρ : Env} {cs r : List Assn} {t : Tr} {K : Env → List Assn → Prop} {Q : Exit → Env → List Assn → Prop}

theorem J.c {o : Operand} {x y : CC} {e : Bool} {p q : Prop} [H : BP e p q] (hb : ρ.ev o = some (.bool e)) (h1 : p → J P N x ρ cs Q) (h2 : q → J P N y ρ cs Q) : J P N (.cond o x y) ρ cs Q :=
  J.cond hb (fun h => h1 (H.t.1 h)) (fun h => h2 (H.f.1 h))

theorem J.so {t : Tr} {y : CC} (h : JT P t ρ cs fun ρ' cs' => J P N y ρ' cs' Q) : J P N (.seq (.ops t) y) ρ cs Q := J.seq (J.ops h)
/-- A guard that is decided by what is known. -/
theorem JT.gT {dst : Nat} {k : Kd} {g : Nat} {x : Bool} {p q : Prop} [H : BP x p q] (hg : ρ.lk g = some (.bool x)) (hp : p) (h : JT P (.st ⟨some dst, k, none⟩ t) ρ cs K) : JT P (.st ⟨some dst, k, some (g, true)⟩ t) ρ cs K :=
  JT.gk (by rw [hg, H.t.2 hp]) h
theorem JT.gF {dst : Nat} {k : Kd} {g : Nat} {x : Bool} {p q : Prop} [H : BP x p q] (hg : ρ.lk g = some (.bool x)) (hp : q) (h : JT P (.st ⟨some dst, k, none⟩ t) ρ cs K) : JT P (.st ⟨some dst, k, some (g, false)⟩ t) ρ cs K :=
  JT.gk (by rw [hg, H.f.2 hp]) h
theorem JT.gTs {dst : Nat} {k : Kd} {g : Nat} {x : Bool} {p q : Prop} [H : BP x p q] (hg : ρ.lk g = some (.bool x)) (hp : q) (h : JT P t ((dst, undef) :: ρ) cs K) : JT P (.st ⟨some dst, k, some (g, true)⟩ t) ρ cs K :=
  JT.skip (b' := false) (by rw [hg, H.f.2 hp]) rfl h
theorem JT.gFs {dst : Nat} {k : Kd} {g : Nat} {x : Bool} {p q : Prop} [H : BP x p q] (hg : ρ.lk g = some (.bool x)) (hp : p) (h : JT P t ((dst, undef) :: ρ) cs K) : JT P (.st ⟨some dst, k, some (g, false)⟩ t) ρ cs K :=
  JT.skip (b' := true) (by rw [hg, H.t.2 hp]) rfl h
theorem JT.gaT {d : Nat} {k : Kd} {g : Nat} {x : Bool} {v : Value} {p q : Prop} [H : BP x p q] (hg : ρ.lk g = some (.bool x)) (hp : p) (hd : ρ.lk d = some v) (he : Ev P k ρ cs v) (h : JT P t ρ cs K) : JT P (.ag ⟨some d, k, some (g, true)⟩ t) ρ cs K :=
  JT.agT (by rw [hg, H.t.2 hp]) he hd h
theorem JT.gaF {d : Nat} {k : Kd} {g : Nat} {x : Bool} {v : Value} {p q : Prop} [H : BP x p q] (hg : ρ.lk g = some (.bool x)) (hp : q) (hd : ρ.lk d = some v) (he : Ev P k ρ cs v) (h : JT P t ρ cs K) : JT P (.ag ⟨some d, k, some (g, false)⟩ t) ρ cs K :=
  JT.agT (by rw [hg, H.f.2 hp]) he hd h
theorem JT.gaTs {d : Nat} {k : Kd} {g : Nat} {x : Bool} {p q : Prop} [H : BP x p q] (hg : ρ.lk g = some (.bool x)) (hp : q) (hd : ρ.lk d = some undef) (h : JT P t ρ cs K) : JT P (.ag ⟨some d, k, some (g, true)⟩ t) ρ cs K :=
  JT.agF (b' := false) (by rw [hg, H.f.2 hp]) rfl hd h
theorem JT.gaFs {d : Nat} {k : Kd} {g : Nat} {x : Bool} {p q : Prop} [H : BP x p q] (hg : ρ.lk g = some (.bool x)) (hp : p) (hd : ρ.lk d = some undef) (h : JT P t ρ cs K) : JT P (.ag ⟨some d, k, some (g, false)⟩ t) ρ cs K :=
  JT.agF (b' := true) (by rw [hg, H.t.2 hp]) rfl hd h
theorem Ev.pickTp {c a b : Operand} {x : Bool} {v : Value} {p q : Prop} [H : BP x p q] (hc : ρ.ev c = some (.bool x)) (hp : p) (h : ρ.ev a = some v) : Ev P (.pick c a b) ρ cs v := .pickT (by rw [hc, H.t.2 hp]) h
theorem Ev.pickFp {c a b : Operand} {x : Bool} {v : Value} {p q : Prop} [H : BP x p q] (hc : ρ.ev c = some (.bool x)) (hp : q) (h : ρ.ev b = some v) : Ev P (.pick c a b) ρ cs v := .pickF (by rw [hc, H.f.2 hp]) h
theorem J.cT {o : Operand} {x y : CC} {e : Bool} {p q : Prop} [H : BP e p q] (hb : ρ.ev o = some (.bool e)) (hp : p) (h : J P N x ρ cs Q) : J P N (.cond o x y) ρ cs Q := J.condT (by rw [hb, H.t.2 hp]) h
theorem J.cF {o : Operand} {x y : CC} {e : Bool} {p q : Prop} [H : BP e p q] (hb : ρ.ev o = some (.bool e)) (hp : q) (h : J P N y ρ cs Q) : J P N (.cond o x y) ρ cs Q := J.condF (by rw [hb, H.f.2 hp]) h

/-! Shifts -/
theorem Ev.shl {x y : Operand} {k k' : IntKind} {n m q : Int} (hx : ρ.ev x = some (.int k n)) (hy : ρ.ev y = some (.int k' m)) (h0 : 0 ≤ m) (hw : Wr k (n * 2 ^ (min m.toNat k.bits)) q) : Ev P (.bini .shl x y) ρ cs (.int k q) :=
  Ev.shift hx hy rfl (by simp only [intBin, if_neg (show ¬ m < 0 by omega)]; rw [hw])
theorem Ev.shr {x y : Operand} {k k' : IntKind} {n m q : Int} (hx : ρ.ev x = some (.int k n)) (hy : ρ.ev y = some (.int k' m)) (h0 : 0 ≤ m) (hq : n.fdiv (2 ^ (min m.toNat k.bits)) = q) : Ev P (.bini .shr x y) ρ cs (.int k q) :=
  Ev.shift hx hy rfl (by simp only [intBin, if_neg (show ¬ m < 0 by omega)]; rw [hq])

/-- How a type's values lie in cells. -/
class TE (T : Nat) (α : outParam Type) (enc : outParam (α → List Value)) (sz : outParam Nat) : Prop where
  one : ∀ x, (enc x).length = sz ∧ ∀ v ∈ enc x, isOne v = true
  pos : 0 < sz
theorem JT.bT {T : Nat} {α : Type} {enc : α → List Value} {sz d len : Nat} {src : List Src} [E : TE T α enc sz] (xs : List α) (hc : Cells ρ src ((xs.map enc).flatten)) (hn : xs.length = len) (hL : len ≤ 140737488355328)
    (h : ∀ a, JT P t ((d, .slice a xs.length len) :: ρ) (SlT true enc sz (.slice a xs.length len) len xs :: cs) K) : JT P (.st ⟨some d, .bsl T src len, none⟩ t) ρ cs K :=
  JT.bslE enc xs hc hn E.pos hL E.one h
theorem JT.b0 {T : Nat} {α : Type} {enc : α → List Value} {sz d : Nat} [E : TE T α enc sz] (h : ∀ a, JT P t ((d, .slice a ([] : List α).length 0) :: ρ) (SlT true enc sz (.slice a ([] : List α).length 0) 0 [] :: cs) K) : JT P (.st ⟨some d, .bsl T [] 0, none⟩ t) ρ cs K :=
  JT.bslE enc [] Cells.nil rfl E.pos (by decide) E.one h
/-- A guard that is not known, both ways. -/
theorem JT.gp {dst : Nat} {k : Kd} {g : Nat} {x : Bool} {p q : Prop} [H : BP x p q] (hg : ρ.lk g = some (.bool x)) (h1 : p → JT P (.st ⟨some dst, k, none⟩ t) ρ cs K) (h2 : q → JT P t ((dst, undef) :: ρ) cs K) : JT P (.st ⟨some dst, k, some (g, true)⟩ t) ρ cs K :=
  JT.gs hg (fun e => h1 (H.t.1 e)) (fun e => h2 (H.f.1 e))
theorem JT.gn {dst : Nat} {k : Kd} {g : Nat} {x : Bool} {p q : Prop} [H : BP x p q] (hg : ρ.lk g = some (.bool x)) (h1 : q → JT P (.st ⟨some dst, k, none⟩ t) ρ cs K) (h2 : p → JT P t ((dst, undef) :: ρ) cs K) : JT P (.st ⟨some dst, k, some (g, false)⟩ t) ρ cs K :=
  JT.gs hg (fun e => h1 (H.f.1 e)) (fun e => h2 (H.t.1 e))

theorem JT.fa {dst off b o : Nat} {x : Operand} (o' : Nat) (hx : ρ.ev x = some (.pointer (some ⟨b, o, none⟩))) (e : o + off = o') (h : JT P t ((dst, .pointer (some ⟨b, o', none⟩)) :: ρ) cs K) : JT P (.st ⟨some dst, .fa off x, none⟩ t) ρ cs K := JT.q (.fa hx) (by rw [e]; exact h)
theorem JT.fe {dst off k sz : Nat} {x : Operand} {sv : Value} (hx : ρ.ev x = some (elp sv (k * sz))) (h : JT P t ((dst, elp sv (k * sz + off)) :: ρ) cs K) : JT P (.st ⟨some dst, .fa off x, none⟩ t) ρ cs K := JT.q (.faE hx) h
theorem JT.fe2 {dst off k sz o : Nat} {x : Operand} {sv : Value} (o' : Nat) (hx : ρ.ev x = some (elp sv (k * sz + o))) (e : o + off = o') (h : JT P t ((dst, elp sv (k * sz + o')) :: ρ) cs K) : JT P (.st ⟨some dst, .fa off x, none⟩ t) ρ cs K := JT.q (.faE hx) (by rw [Nat.add_assoc, e]; exact h)
theorem Ev.fa' {off b o : Nat} {x : Operand} (o' : Nat) (hx : ρ.ev x = some (.pointer (some ⟨b, o, none⟩))) (e : o + off = o') : Ev P (.fa off x) ρ cs (.pointer (some ⟨b, o', none⟩)) := by subst e; exact .fa hx
theorem Ev.fe {off k sz : Nat} {x : Operand} {sv : Value} (hx : ρ.ev x = some (elp sv (k * sz))) : Ev P (.fa off x) ρ cs (elp sv (k * sz + off)) := .faE hx
theorem Ev.fe2 {off k sz o : Nat} {x : Operand} {sv : Value} (o' : Nat) (hx : ρ.ev x = some (elp sv (k * sz + o))) (e : o + off = o') : Ev P (.fa off x) ρ cs (elp sv (k * sz + o')) := by subst e; rw [← Nat.add_assoc]; exact .faE hx
/-- A part of a struct that has a type of its own. -/
class FS {α : Type} {β : outParam Type} (enc : α → List Value) (o n : Nat) (enc' : outParam (β → List Value)) (f : outParam (α → β)) : Prop where
  h : ∀ x, lsub (enc x) o n = enc' (f x)
section
variable {α β : Type} [Inhabited α] {a : Operand} {enc : α → List Value} {enc' : β → List Value} {f : α → β} {sz c b o T n k : Nat} {sv : Value} {xs : List α} {x : α}
theorem Ev.LEf [H : HS cs sv α enc sz c xs] [G : FS enc o n enc' f] (h : ρ.ev a = some (elp sv (k * sz + o))) (hk : k < xs.length) (hn : o + n ≤ sz) : Ev P (.ld (some n) a) ρ cs (.agg (enc' (f (nth xs k))).toArray) := Ev.LEp h hk hn (G.h _)
omit [Inhabited α] in
theorem Ev.Lf [H : HP cs b T (enc x) r] [G : FS enc o n enc' f] (h : ρ.ev a = some (.pointer (some ⟨b, o, none⟩))) (hn : o + n ≤ (enc x).length) : Ev P (.ld (some n) a) ρ cs (.agg (enc' (f x)).toArray) := Ev.Lp h hn (G.h _)
omit [Inhabited α] in
theorem Ev.fldF {y : Operand} [G : FS enc o n enc' f] (h : ρ.ev y = some (.agg (enc x).toArray)) : Ev P (.fld true n o y) ρ cs (.agg (enc' (f x)).toArray) := Ev.fldA h (G.h _)
end

/-- What asks no memory. -/
theorem JT.c {dst : Nat} {k : Kd} {v : Value} (he : evalQ k ρ = some v) (h : JT P t ((dst, v) :: ρ) cs K) : JT P (.st ⟨some dst, k, none⟩ t) ρ cs K := JT.q (.calc he) h
theorem JT.cA {d : Nat} {k : Kd} {v : Value} (hd : ρ.lk d = some v) (he : evalQ k ρ = some v) (h : JT P t ρ cs K) : JT P (.ag ⟨some d, k, none⟩ t) ρ cs K := JT.ag (.calc he) hd h
/-- A value is known under another name. -/
theorem JT.yv {dst : Nat} {k : Kd} {v v' : Value} (he : Ev P k ρ cs v) (e : v = v') (h : JT P t ((dst, v') :: ρ) cs K) : JT P (.st ⟨some dst, k, none⟩ t) ρ cs K := JT.q he (e ▸ h)

theorem Ev.eqTt {α : Type} [DecidableEq α] {fl : List Fl} {enc : α → List Value} {x y : Operand} {a a' : α} (hx : ρ.ev x = some (.agg (enc a).toArray)) (hy : ρ.ev y = some (.agg (enc a').toArray)) [E : EqEnc fl enc] (h : a = a') : Ev P (.eqs false fl x y) ρ cs (.bool true) := by
  have := Ev.eqT (P := P) (cs := cs) hx hy; rwa [decide_eq_true h] at this
theorem Ev.eqTf {α : Type} [DecidableEq α] {fl : List Fl} {enc : α → List Value} {x y : Operand} {a a' : α} (hx : ρ.ev x = some (.agg (enc a).toArray)) (hy : ρ.ev y = some (.agg (enc a').toArray)) [E : EqEnc fl enc] (h : ¬ a = a') : Ev P (.eqs false fl x y) ρ cs (.bool false) := by
  have := Ev.eqT (P := P) (cs := cs) hx hy; rwa [decide_eq_false h] at this
theorem Ev.neTt {α : Type} [DecidableEq α] {fl : List Fl} {enc : α → List Value} {x y : Operand} {a a' : α} (hx : ρ.ev x = some (.agg (enc a).toArray)) (hy : ρ.ev y = some (.agg (enc a').toArray)) [E : EqEnc fl enc] (h : ¬ a = a') : Ev P (.eqs true fl x y) ρ cs (.bool true) := by
  have := Ev.neT (P := P) (cs := cs) hx hy; rwa [decide_eq_true h] at this
theorem Ev.neTf {α : Type} [DecidableEq α] {fl : List Fl} {enc : α → List Value} {x y : Operand} {a a' : α} (hx : ρ.ev x = some (.agg (enc a).toArray)) (hy : ρ.ev y = some (.agg (enc a').toArray)) [E : EqEnc fl enc] (h : a = a') : Ev P (.eqs true fl x y) ρ cs (.bool false) := by
  have := Ev.neT (P := P) (cs := cs) hx hy; rwa [decide_eq_false (fun e => e h)] at this

theorem Rets.w {t n b T : Nat} {l : List Value} {rs : List RV} {vs : List Value} [H : HP cs b T l r] (h : ρ.lk t = some (.pointer (some ⟨b, 0, none⟩))) (hn : l.length = n) (hr : Rets ρ cs rs vs) :
    Rets ρ cs (.c t (some n) :: rs) (.agg l.toArray :: vs) := Rets.cw h H.h hn hr
theorem Rets.v {t b T : Nat} {v : Value} {rs : List RV} {vs : List Value} [H : HP cs b T [v] r] (h : ρ.lk t = some (.pointer (some ⟨b, 0, none⟩))) (hr : Rets ρ cs rs vs) :
    Rets ρ cs (.c t none :: rs) (v :: vs) := Rets.cv h H.h hr
/-- Two ways meet again: what is known there. -/
theorem J.cut {x y : CC} {ι : Type} (A : ι → Prop) (E : ι → Env) (C : ι → List Assn) (h1 : J P N x ρ cs (seqQ (fun ρ' cs' => ∃ i, A i ∧ (E i).sub ρ' ∧ Up cs' (C i)) Q)) (h2 : ∀ i, A i → J P N y (E i) (C i) Q) : J P N (.seq x y) ρ cs Q :=
  J.seq (h1.mono fun e ρ' cs' h => by
    cases e with
    | normal => obtain ⟨i, hA, hE, hC⟩ := h; exact (h2 i hA).weak hE hC
    | _ => exact h)

/-- Less of the frame is kept; what stands twice counts once. -/
def nmem : List Nat → Nat → Bool
  | [], _ => false
  | k :: r, t => bif Nat.beq k t then true else nmem r t
theorem nmem_iff : ∀ {l : List Nat} {t : Nat}, nmem l t = true ↔ t ∈ l
  | [], t => by simp [nmem]
  | k :: r, t => by
    by_cases h : k = t
    · subst h; simp [nmem]
    · have hb : Nat.beq k t = false := by
        cases hb : Nat.beq k t
        · rfl
        · exact absurd (Nat.eq_of_beq_eq_true hb) h
      simp [nmem, hb, nmem_iff (l := r), Ne.symm h]
def Env.subx (ks : List Nat) (ρ' ρ : Env) : Prop := ∀ t v, t ∉ ks → ρ'.lk t = some v → ρ.lk t = some v
theorem subx_nil {ks : List Nat} {ρ : Env} : Env.subx ks [] ρ := fun t v _ h => by simp [Env.lk] at h
theorem subx_cons {ks : List Nat} {ρ ρ' : Env} {d : Nat} {v : Value} (h : ρ.lk d = some v) (hs : Env.subx (d :: ks) ρ' ρ) : Env.subx ks ((d, v) :: ρ') ρ := by
  intro t u hk ht
  rw [lk_cons] at ht
  by_cases e : d = t
  · subst e; simp at ht; subst ht; exact h
  · rw [if_neg e] at ht; exact hs t u (by simp only [List.mem_cons, not_or]; exact ⟨Ne.symm e, hk⟩) ht
theorem subx_dup {ks : List Nat} {ρ ρ' : Env} {d : Nat} {v : Value} (h : nmem ks d = true) (hs : Env.subx ks ρ' ρ) : Env.subx ks ((d, v) :: ρ') ρ := by
  intro t u hk ht
  rw [lk_cons] at ht
  by_cases e : d = t
  · subst e; exact absurd (nmem_iff.1 h) hk
  · rw [if_neg e] at ht; exact hs t u hk ht
theorem Env.subx.sub {ρ' ρ : Env} (h : Env.subx [] ρ' ρ) : Env.sub ρ' ρ := fun t v ht => h t v (by simp) ht

/-- A loop of which is told what changes; the rest of the frame is kept. -/
theorem J.lp {ι : Type} (G : ι → Prop) (D : ι → Env) (C : ι → List Assn) (μ : ι → Nat) {x : CC} (i0 : ι) (hG : G i0) (hE : Env.subx [] (D i0 ++ ρ) ρ) (hC : Up cs (C i0))
    (round : ∀ i, G i → J P N x (D i ++ ρ) (C i) (seqQ (fun ρ' cs' => ∃ j, G j ∧ μ j < μ i ∧ Env.subx [] (D j ++ ρ) ρ' ∧ Up cs' (C j)) Q)) : J P N (.loop x) ρ cs Q :=
  J.loop G (fun i => D i ++ ρ) C μ i0 hG hE.sub hC fun i hi => (round i hi).mono fun e ρ' cs' h => by
    cases e with
    | normal => obtain ⟨j, h1, h2, h3, h4⟩ := h; exact ⟨j, h1, h2, h3.sub, h4⟩
    | _ => exact h
/-- The same where the frame is said whole. -/
theorem J.lpE {ι : Type} (G : ι → Prop) (ρ0 : Env) (D : ι → Env) (C : ι → List Assn) (μ : ι → Nat) {x : CC} (i0 : ι) (hG : G i0) (hE : Env.subx [] (D i0 ++ ρ0) ρ) (hC : Up cs (C i0))
    (round : ∀ i, G i → J P N x (D i ++ ρ0) (C i) (seqQ (fun ρ' cs' => ∃ j, G j ∧ μ j < μ i ∧ Env.subx [] (D j ++ ρ0) ρ' ∧ Up cs' (C j)) Q)) : J P N (.loop x) ρ cs Q :=
  J.loop G (fun i => D i ++ ρ0) C μ i0 hG hE.sub hC fun i hi => (round i hi).mono fun e ρ' cs' h => by
    cases e with
    | normal => obtain ⟨j, h1, h2, h3, h4⟩ := h; exact ⟨j, h1, h2, h3.sub, h4⟩
    | _ => exact h
/-- Two ways meet again: what changed is told, the rest of the frame kept. -/
theorem J.cutD {x y : CC} {ι : Type} (A : ι → Prop) (D : ι → Env) (C : ι → List Assn) (h1 : J P N x ρ cs (seqQ (fun ρ' cs' => ∃ i, A i ∧ Env.subx [] (D i ++ ρ) ρ' ∧ Up cs' (C i)) Q)) (h2 : ∀ i, A i → J P N y (D i ++ ρ) (C i) Q) : J P N (.seq x y) ρ cs Q :=
  J.cut A (fun i => D i ++ ρ) C (h1.mono fun e ρ' cs' h => by
    cases e with
    | normal => obtain ⟨j, h1, h2, h3⟩ := h; exact ⟨j, h1, h2.sub, h3⟩
    | _ => exact h) h2

/-- The same where the frame is said whole. -/
theorem J.cutE {x y : CC} {ι : Type} (A : ι → Prop) (E : ι → Env) (C : ι → List Assn) (h1 : J P N x ρ cs (seqQ (fun ρ' cs' => ∃ i, A i ∧ Env.subx [] (E i) ρ' ∧ Up cs' (C i)) Q)) (h2 : ∀ i, A i → J P N y (E i) (C i) Q) : J P N (.seq x y) ρ cs Q :=
  J.cut A E C (h1.mono fun e ρ' cs' h => by
    cases e with
    | normal => obtain ⟨j, h1, h2, h3⟩ := h; exact ⟨j, h1, h2.sub, h3⟩
    | _ => exact h) h2
/-- Only some of the frame is kept. -/
theorem J.keep {cc : CC} (ρ' : Env) (hs : Env.subx [] ρ' ρ) (h : J P N cc ρ' cs Q) : J P N cc ρ cs Q := h.weak hs.sub (Up.refl _)

/-! Maps, found by instances -/
class HM (cs : List Assn) (b : Nat) (κ : outParam Type) (β : outParam Type) (ke : outParam (κ → Value)) (ve : outParam (β → Value)) (m : outParam (List (κ × β))) (r : outParam (List Assn)) : Prop where
  h : Has cs (Mt b ke ve m) r
instance {κ β : Type} {b : Nat} {ke : κ → Value} {ve : β → Value} {m : List (κ × β)} {r : List Assn} : HM (Mt b ke ve m :: r) b κ β ke ve m r := ⟨Has.here⟩
instance {κ β : Type} {b : Nat} {ke : κ → Value} {ve : β → Value} {m : List (κ × β)} {d : Assn} {r r' : List Assn} [H : HM r b κ β ke ve m r'] : HM (d :: r) b κ β ke ve m (d :: r') := ⟨Has.there H.h⟩
class KO (P : Program) (kt : TypeId) {κ : Type} [DecidableEq κ] (ke : κ → Value) : Prop where
  h : KeyOk P kt ke
section
variable {κ β : Type} [DecidableEq κ] {b d : Nat} {kt : TypeId} {ke : κ → Value} {ve : β → Value} {m : List (κ × β)} {x i : Operand} {zero : Value} {k : κ} {v : β} {dst : Option Nat} {mo ko vo : Operand}
theorem JT.lk2 [H : HM cs b κ β ke ve m r] [G : KO P kt ke] (hx : ρ.ev x = some (.map (some b))) (hi : ρ.ev i = some (ke k))
    (h1 : ∀ v, alk m k = some v → JT P t ((d, .tuple [ve v, .bool true].toArray) :: ρ) cs K) (h2 : alk m k = none → JT P t ((d, .tuple [zero, .bool false].toArray) :: ρ) cs K) : JT P (.st ⟨some d, .lkp true kt zero x i, none⟩ t) ρ cs K := JT.lkp hx hi H.h G.h h1 h2
theorem JT.lk2s [H : HM cs b κ β ke ve m r] [G : KO P kt ke] (hx : ρ.ev x = some (.map (some b))) (hi : ρ.ev i = some (ke k)) (hk : alk m k = some v) (h : JT P t ((d, .tuple [ve v, .bool true].toArray) :: ρ) cs K) : JT P (.st ⟨some d, .lkp true kt zero x i, none⟩ t) ρ cs K :=
  JT.lk2 hx hi (fun v' h' => by rw [hk] at h'; cases h'; exact h) (fun h' => by rw [hk] at h'; cases h')
theorem JT.lk2n [H : HM cs b κ β ke ve m r] [G : KO P kt ke] (hx : ρ.ev x = some (.map (some b))) (hi : ρ.ev i = some (ke k)) (hk : alk m k = none) (h : JT P t ((d, .tuple [zero, .bool false].toArray) :: ρ) cs K) : JT P (.st ⟨some d, .lkp true kt zero x i, none⟩ t) ρ cs K :=
  JT.lk2 hx hi (fun v' h' => by rw [hk] at h'; cases h') (fun h' => h)
theorem JT.lk1 [H : HM cs b κ β ke ve m r] [G : KO P kt ke] (hx : ρ.ev x = some (.map (some b))) (hi : ρ.ev i = some (ke k))
    (h1 : ∀ v, alk m k = some v → JT P t ((d, ve v) :: ρ) cs K) (h2 : alk m k = none → JT P t ((d, zero) :: ρ) cs K) : JT P (.st ⟨some d, .lkp false kt zero x i, none⟩ t) ρ cs K := JT.lkp1 hx hi H.h G.h h1 h2
theorem JT.lk1s [H : HM cs b κ β ke ve m r] [G : KO P kt ke] (hx : ρ.ev x = some (.map (some b))) (hi : ρ.ev i = some (ke k)) (hk : alk m k = some v) (h : JT P t ((d, ve v) :: ρ) cs K) : JT P (.st ⟨some d, .lkp false kt zero x i, none⟩ t) ρ cs K :=
  JT.lk1 hx hi (fun v' h' => by rw [hk] at h'; cases h'; exact h) (fun h' => by rw [hk] at h'; cases h')
theorem JT.lk1n [H : HM cs b κ β ke ve m r] [G : KO P kt ke] (hx : ρ.ev x = some (.map (some b))) (hi : ρ.ev i = some (ke k)) (hk : alk m k = none) (h : JT P t ((d, zero) :: ρ) cs K) : JT P (.st ⟨some d, .lkp false kt zero x i, none⟩ t) ρ cs K :=
  JT.lk1 hx hi (fun v' h' => by rw [hk] at h'; cases h') (fun h' => h)
theorem JT.mu [H : HM cs b κ β ke ve m r] [G : KO P kt ke] (hx : ρ.ev mo = some (.map (some b))) (hi : ρ.ev ko = some (ke k)) (hv : ρ.ev vo = some (ve v)) (h : JT P t ρ (Mt b ke ve (aput m k v) :: r) K) : JT P (.st ⟨none, .mup kt mo ko vo, none⟩ t) ρ cs K :=
  JT.mup hx hi hv H.h G.h h
theorem JT.dl [H : HM cs b κ β ke ve m r] [G : KO P kt ke] (hx : ρ.ev mo = some (.map (some b))) (hi : ρ.ev ko = some (ke k)) (h : JT P t (ρ.put dst (.tuple #[])) (Mt b ke ve (adel m k) :: r) K) : JT P (.st ⟨dst, .del kt mo ko, none⟩ t) ρ cs K :=
  JT.del hx hi H.h G.h h
theorem Ev.lM [H : HM cs b κ β ke ve m r] (hx : ρ.ev x = some (.map (some b))) : Ev P (.lnm x) ρ cs (i64 (m.length : Int)) := Ev.lnm hx H.h
end

theorem Meets.post {f : Nat} {args : List Value} {R R' : Value → List Assn → Prop} (h : Meets P f args cs R) (hr : ∀ v c, R v c → ∃ c', Up c c' ∧ R' v c') : Meets P f args cs R' :=
  ⟨h.1, fun w hs => (h.2 w hs).mono fun e w' ⟨v, c, e1, hk, hs', hR⟩ => by
    obtain ⟨c', hu, hR'⟩ := hr v c hR
    exact ⟨v, c', e1, hk, hu _ hs', hR'⟩⟩
theorem Rets.up {cs' : List Assn} (hi : Up cs cs') : ∀ {rs : List RV} {vs : List Value}, Rets ρ cs' rs vs → Rets ρ cs rs vs
  | _, _, .nil => .nil
  | _, _, .t h hr => .t h (Rets.up hi hr)
  | _, _, .c1 h hv hr => .c1 h (fun w hs => hv w (hi w hs)) (Rets.up hi hr)
  | _, _, .cn h hv hr => .cn h (fun w hs => hv w (hi w hs)) (Rets.up hi hr)
theorem retQ_up {cs' : List Assn} {rs : List RV} {R : Value → List Assn → Prop} (hi : Up cs cs') (h : retQ rs R .ret ρ cs') : retQ rs R .ret ρ cs := by
  obtain ⟨vs, cs2, h1, h2, h3⟩ := h; exact ⟨vs, cs2, h1.up hi, hi.trans h2, h3⟩
theorem retQD {rs : List RV} {v0 : Value} {cs1 : List Assn} {vs : List Value} (h : Rets ρ cs rs vs) (hv : mkRet vs = v0) (hi : Up cs cs1) : retQ rs (Det v0 cs1) .ret ρ cs := retD h hv hi
theorem retQS {rs : List RV} {α : Type} {p : α → Prop} {V : α → Value} {C : α → List Assn} {vs : List Value} (x : α) (h : Rets ρ cs rs vs) (hp : p x) (hv : mkRet vs = V x) (hi : Up cs (C x)) : retQ rs (Some' p V C) .ret ρ cs := retS x h hp hv hi

/-- A goal at which the walk stops. -/
def Halt (p : Prop) : Prop := p
theorem J.halt {cc : CC} (h : Halt (J P N cc ρ cs Q)) : J P N cc ρ cs Q := h
theorem JT.halt (h : Halt (JT P t ρ cs K)) : JT P t ρ cs K := h
theorem Halt.go {p : Prop} (h : p) : Halt p := h
end

theorem Meets.up {P : Program} {f : Nat} {args : List Value} {cs cs0 : List Assn} {R : Value → List Assn → Prop} (hi : Up cs cs0) (h : Meets P f args cs0 R) : Meets P f args cs R := ⟨h.1, fun w hs => h.2 w (hi _ hs)⟩
theorem set_same {α : Type} {g : List α} {i : Nat} {x : α} (h : g[i]? = some x) : g.set i x = g := by
  obtain ⟨hi, rfl⟩ := List.getElem?_eq_some_iff.1 h
  exact List.set_getElem_self hi

/-! ### Short names, in which walks are written down -/
def cellsQ (ρ : Env) : List Src → Option (List Value)
  | [] => some []
  | .z v :: r => match cellsQ ρ r with
    | some l => some (v :: l)
    | none => none
  | .c x j n :: r => match ρ.ev x with
    | some v => bif Nat.beq v.cells.toList.length n then match lnth v.cells.toList j with
        | some u => match cellsQ ρ r with
          | some l => some (u :: l)
          | none => none
        | none => none
      else none
    | none => none
theorem cellsQ_ok {ρ : Env} : ∀ {s : List Src} {l : List Value}, cellsQ ρ s = some l → Cells ρ s l
  | [], l, h => by cases h; exact .nil
  | .z v :: r, l, h => by
    simp only [cellsQ] at h
    split at h
    · rename_i l' h'; cases h; exact .z (cellsQ_ok h')
    · cases h
  | .c x j n :: r, l, h => by
    simp only [cellsQ] at h
    split at h
    · rename_i v hv
      cases hn : Nat.beq v.cells.toList.length n with
      | false => rw [hn] at h; cases h
      | true =>
        rw [hn] at h
        simp only [cond_true] at h
        split at h
        · rename_i u hu
          split at h
          · rename_i l' h'; cases h; exact .cl hv (Nat.eq_of_beq_eq_true hn) hu (cellsQ_ok h')
          · cases h
        · cases h
    · cases h
def nub : List Nat → Env → Env
  | _, [] => []
  | ks, (d, v) :: r => bif nmem ks d then nub ks r else (d, v) :: nub (d :: ks) r
theorem subx_nub {ρ : Env} : ∀ {ρ' : Env} {ks : List Nat}, (nub ks ρ').map (fun e => ρ.lk e.1) = (nub ks ρ').map (fun e => some e.2) → Env.subx ks ρ' ρ
  | [], _, _ => subx_nil
  | (d, v) :: r, ks, h => by
    simp only [nub] at h
    cases hn : nmem ks d with
    | true => rw [hn] at h; exact subx_dup hn (subx_nub h)
    | false =>
      rw [hn] at h
      simp only [cond_false, List.map_cons, List.cons.injEq] at h
      exact subx_cons h.1 (subx_nub h.2)
theorem subxR {ρ ρ' : Env} (h : (nub [] ρ').map (fun e => ρ.lk e.1) = (nub [] ρ').map (fun e => some e.2)) : Env.subx [] ρ' ρ := subx_nub h

section
variable {P : Program} {ρ : Env} {cs r : List Assn} {t : Tr} {K : Env → List Assn → Prop} {dst : Nat} {k : Kd} {x y a : Operand} {v : Value}
theorem zy {d : Nat} (he : Ev P k ρ cs v) (h : JT P t ((d, v) :: ρ) cs K) : JT P (.st ⟨some d, k, none⟩ t) ρ cs K := JT.q he h
theorem zf {d off b o : Nat} (o' : Nat) (hx : ρ.ev x = some (.pointer (some ⟨b, o, none⟩))) (e : o + off = o') (h : JT P t ((d, .pointer (some ⟨b, o', none⟩)) :: ρ) cs K) : JT P (.st ⟨some d, .fa off x, none⟩ t) ρ cs K := JT.q (Ev.fa' o' hx e) h
theorem zl {d b o T : Nat} {l : List Value} [H : HP cs b T l r] (ha : ρ.ev a = some (.pointer (some ⟨b, o, none⟩))) (hv : lnth l o = some v) (h : JT P t ((d, v) :: ρ) cs K) : JT P (.st ⟨some d, .ld none a, none⟩ t) ρ cs K := JT.q (Ev.L ha hv) h
theorem sub_new {ρ : Env} {d e : Nat} {u v : Value} (hd : ρ.lk d = none) : Env.sub ((e, v) :: ρ) ((e, v) :: (d, u) :: ρ) := fun t w h => by
  rw [lk_cons] at h ⊢
  split
  · rename_i c; rw [if_pos c] at h; exact h
  · rename_i c; rw [if_neg c] at h
    rw [lk_cons]
    split
    · rename_i c2; subst c2; rw [hd] at h; cases h
    · exact h
theorem ev_self {ρ : Env} {d : Nat} {u : Value} : Env.ev ((d, u) :: ρ) (.tmp d) = some u := by simp only [Env.ev]; rw [lk_cons, if_pos rfl]
/-- A field, read. -/
theorem zfl {d e off b o T : Nat} {l : List Value} [H : HP cs b T l r] (hx : ρ.ev x = some (.pointer (some ⟨b, o, none⟩))) (hv : lnth l (o + off) = some v) (hd : ρ.lk d = none) (h : JT P t ((e, v) :: ρ) cs K) :
    JT P (.st ⟨some d, .fa off x, none⟩ (.st ⟨some e, .ld none (.tmp d), none⟩ t)) ρ cs K :=
  JT.q (Ev.fa' _ hx rfl) (JT.q (Ev.L ev_self hv) (JT.sub (sub_new hd) h))
theorem zfw {d e off b o T n : Nat} {l : List Value} (us : List Value) [H : HP cs b T l r] (hx : ρ.ev x = some (.pointer (some ⟨b, o, none⟩))) (hn : Nat.ble (o + off + n) l.length = true) (hu : lsub l (o + off) n = us) (hd : ρ.lk d = none) (h : JT P t ((e, .agg us.toArray) :: ρ) cs K) :
    JT P (.st ⟨some d, .fa off x, none⟩ (.st ⟨some e, .ld (some n) (.tmp d), none⟩ t)) ρ cs K :=
  JT.q (Ev.fa' _ hx rfl) (JT.q (Ev.Lp ev_self (Nat.le_of_ble_eq_true hn) hu) (JT.sub (sub_new hd) h))
theorem zfz {d e off b o T n : Nat} {α β : Type} {enc : α → List Value} {enc' : β → List Value} {f : α → β} {z : α} [H : HP cs b T (enc z) r] [G : FS enc (o + off) n enc' f] (hx : ρ.ev x = some (.pointer (some ⟨b, o, none⟩))) (hn : Nat.ble (o + off + n) (enc z).length = true) (hd : ρ.lk d = none)
    (h : JT P t ((e, .agg (enc' (f z)).toArray) :: ρ) cs K) : JT P (.st ⟨some d, .fa off x, none⟩ (.st ⟨some e, .ld (some n) (.tmp d), none⟩ t)) ρ cs K :=
  JT.q (Ev.fa' _ hx rfl) (JT.q (Ev.Lf ev_self (Nat.le_of_ble_eq_true hn)) (JT.sub (sub_new hd) h))
theorem zw {d b T n : Nat} {l : List Value} [H : HP cs b T l r] (ha : ρ.ev a = some (.pointer (some ⟨b, 0, none⟩))) (hn : l.length = n) (h : JT P t ((d, .agg l.toArray) :: ρ) cs K) : JT P (.st ⟨some d, .ld (some n) a, none⟩ t) ρ cs K := JT.q (Ev.Lw ha hn) h
theorem zj {d : Nat} {op : BinOp} {kk : IntKind} {n m : Int} (hx : ρ.ev x = some (.int kk n)) (hy : ρ.ev y = some (.int kk m)) (hv : intBin op kk n m = some v) (h : JT P t ((d, v) :: ρ) cs K) : JT P (.st ⟨some d, .bini op x y, none⟩ t) ρ cs K := JT.q (Ev.int hx hy hv) h
theorem zg {d : Nat} {src : List Src} {l : List Value} (hc : cellsQ ρ src = some l) (h : JT P t ((d, .agg l.toArray) :: ρ) cs K) : JT P (.st ⟨some d, .agg src, none⟩ t) ρ cs K := JT.q (Ev.agg (cellsQ_ok hc)) h
theorem Ev.aggQ {src : List Src} {l : List Value} (hc : cellsQ ρ src = some l) : Ev P (.agg src) ρ cs (.agg l.toArray) := Ev.agg (cellsQ_ok hc)
end
section
variable {P : Program} {N : Nat} {ρ : Env} {cs r : List Assn} {t : Tr} {K : Env → List Assn → Prop} {Q : Exit → Env → List Assn → Prop} {a x : Operand} {b o T n : Nat} {l l' us : List Value} {v : Value}
theorem zc {dst : Nat} {k : Kd} {v : Value} (he : evalQ k ρ = some v) (h : JT P t ((dst, v) :: ρ) cs K) : JT P (.st ⟨some dst, k, none⟩ t) ρ cs K := JT.c he h
theorem zd (h : K ρ cs) : JT P .done ρ cs K := JT.done h
theorem zs {t : Tr} {y : CC} (h : JT P t ρ cs fun ρ' cs' => J P N y ρ' cs' Q) : J P N (.seq (.ops t) y) ρ cs Q := J.so h
theorem zq {x y : CC} (h : J P N x ρ cs (seqQ (fun ρ' cs' => J P N y ρ' cs' Q) Q)) : J P N (.seq x y) ρ cs Q := J.seq h
theorem zb {id : Nat} {x : CC} (h : J P N x ρ cs (blockQ id Q)) : J P N (.block id x) ρ cs Q := J.block h
theorem zk (h : Q .normal ρ cs) : J P N .skip ρ cs Q := J.skip h
theorem zx {id : Nat} (h : Q (.exit id) ρ cs) : J P N (.exit id) ρ cs Q := J.exit h
theorem zr (h : Q .ret ρ cs) : J P N .ret ρ cs Q := J.ret h
theorem zo {t : Tr} (h : JT P t ρ cs fun ρ' cs' => Q .normal ρ' cs') : J P N (.ops t) ρ cs Q := J.ops h
theorem zi {o : Operand} {x y : CC} {e : Bool} {p q : Prop} [H : BP e p q] (hb : ρ.ev o = some (.bool e)) (h1 : p → J P N x ρ cs Q) (h2 : q → J P N y ρ cs Q) : J P N (.cond o x y) ρ cs Q := J.c hb h1 h2
theorem yD {d : Nat} {f : Operand} {args : List Operand} {fid : Nat} {vs : List Value} {cs0 cs1 : List Assn} {v0 : Value} (hf : ρ.ev f = some (.func (.func fid) #[] #[])) (ha : ρ.evs args = some vs) (hi : Up cs cs0) (hfn : Meets P fid vs cs0 (Det v0 cs1)) (h : JT P t ((d, v0) :: ρ) cs1 K) : JT P (.st ⟨some d, .call f args, none⟩ t) ρ cs K := JT.callD hf ha hi hfn h
theorem yE {d : Nat} {f : Operand} {args : List Operand} {fid : Nat} {vs : List Value} {cs0 : List Assn} {α : Type} {p : α → Prop} {V : α → Value} {C : α → List Assn} (hf : ρ.ev f = some (.func (.func fid) #[] #[])) (ha : ρ.evs args = some vs) (hi : Up cs cs0) (hfn : Meets P fid vs cs0 (Some' p V C)) (h : ∀ x, p x → JT P t ((d, V x) :: ρ) (C x) K) : JT P (.st ⟨some d, .call f args, none⟩ t) ρ cs K := JT.callS hf ha hi hfn h
theorem yB {d T : Nat} {x : Operand} {l : List Value} (hx : ρ.ev x = some (.agg l.toArray)) (h : ∀ b, JT P t ((d, ptr b) :: ρ) (pc b T l :: cs) K) : JT P (.st ⟨some d, .box T x, none⟩ t) ρ cs K := JT.box hx h
theorem yN {d T : Nat} {l : List Value} (h : ∀ b, JT P t ((d, ptr b) :: ρ) (pc b T l :: cs) K) : JT P (.st ⟨some d, .new T l.toArray, none⟩ t) ρ cs K := JT.new h
theorem yW [H : HP cs b T l r] {us : List Value} (ha : ρ.ev a = some (.pointer (some ⟨b, 0, none⟩))) (hx : ρ.ev x = some (.agg us.toArray)) (hn : us.length = n) (hu : us.all isOne = true) (hl : l.length = n) (h : JT P t ρ (pc b T us :: r) K) : JT P (.st ⟨none, .st n a x, none⟩ t) ρ cs K := JT.w ha hx hn hu hl h
theorem yS [H : HP cs b T l r] (ha : ρ.ev a = some (.pointer (some ⟨b, o, none⟩))) (hx : ρ.ev x = some v) (hv : v.cells.toList = us) (hn : us.length = n) (hu : us.all isOne = true) (hl : o + n ≤ l.length) (hp : lput l o us = l') (h : JT P t ρ (pc b T l' :: r) K) : JT P (.st ⟨none, .st n a x, none⟩ t) ρ cs K := JT.s ha hx hv hn hu hl hp h
theorem zt {o : Operand} {x y : CC} (hb : ρ.ev o = some (.bool true)) (h : J P N x ρ cs Q) : J P N (.cond o x y) ρ cs Q := J.condT hb h
theorem zu {o : Operand} {x y : CC} (hb : ρ.ev o = some (.bool false)) (h : J P N y ρ cs Q) : J P N (.cond o x y) ρ cs Q := J.condF hb h
theorem yT {dst : Nat} {k : Kd} {g : Nat} {x : Bool} {p q : Prop} [H : BP x p q] (hg : ρ.lk g = some (.bool x)) (hp : p) (h : JT P (.st ⟨some dst, k, none⟩ t) ρ cs K) : JT P (.st ⟨some dst, k, some (g, true)⟩ t) ρ cs K := JT.gT hg hp h
theorem yF {dst : Nat} {k : Kd} {g : Nat} {x : Bool} {p q : Prop} [H : BP x p q] (hg : ρ.lk g = some (.bool x)) (hp : q) (h : JT P (.st ⟨some dst, k, none⟩ t) ρ cs K) : JT P (.st ⟨some dst, k, some (g, false)⟩ t) ρ cs K := JT.gF hg hp h
theorem yTs {dst : Nat} {k : Kd} {g : Nat} {x : Bool} {p q : Prop} [H : BP x p q] (hg : ρ.lk g = some (.bool x)) (hp : q) (h : JT P t ((dst, undef) :: ρ) cs K) : JT P (.st ⟨some dst, k, some (g, true)⟩ t) ρ cs K := JT.gTs hg hp h
theorem yFs {dst : Nat} {k : Kd} {g : Nat} {x : Bool} {p q : Prop} [H : BP x p q] (hg : ρ.lk g = some (.bool x)) (hp : p) (h : JT P t ((dst, undef) :: ρ) cs K) : JT P (.st ⟨some dst, k, some (g, false)⟩ t) ρ cs K := JT.gFs hg hp h
theorem yG {dst : Nat} {k : Kd} {g : Nat} {b : Bool} (hg : ρ.lk g = some (.bool b)) (h1 : JT P (.st ⟨some dst, k, none⟩ t) ρ cs K) : JT P (.st ⟨some dst, k, some (g, b)⟩ t) ρ cs K := JT.gk hg h1
theorem zp {dst : Nat} {k : Kd} {g : Nat} {x : Bool} {p q : Prop} [H : BP x p q] (hg : ρ.lk g = some (.bool x)) (h1 : p → JT P (.st ⟨some dst, k, none⟩ t) ρ cs K) (h2 : q → JT P t ((dst, undef) :: ρ) cs K) : JT P (.st ⟨some dst, k, some (g, true)⟩ t) ρ cs K := JT.gp hg h1 h2
theorem zn {dst : Nat} {k : Kd} {g : Nat} {x : Bool} {p q : Prop} [H : BP x p q] (hg : ρ.lk g = some (.bool x)) (h1 : q → JT P (.st ⟨some dst, k, none⟩ t) ρ cs K) (h2 : p → JT P t ((dst, undef) :: ρ) cs K) : JT P (.st ⟨some dst, k, some (g, false)⟩ t) ρ cs K := JT.gn hg h1 h2
theorem zv {dst : Nat} {k : Kd} {g : Nat} {b b' : Bool} (hg : ρ.lk g = some (.bool b')) (hb : b' = !b) (h : JT P t ((dst, undef) :: ρ) cs K) : JT P (.st ⟨some dst, k, some (g, b)⟩ t) ρ cs K := JT.skip hg hb h
theorem yR {rs : List RV} {v0 : Value} {cs1 : List Assn} {vs : List Value} (h : Rets ρ cs rs vs) (hv : mkRet vs = v0) (hi : Up cs cs1) : retQ rs (Det v0 cs1) .ret ρ cs := retQD h hv hi
theorem yQ {rs : List RV} {α : Type} {p : α → Prop} {V : α → Value} {C : α → List Assn} {vs : List Value} (x : α) (h : Rets ρ cs rs vs) (hp : p x) (hv : mkRet vs = V x) (hi : Up cs (C x)) : retQ rs (Some' p V C) .ret ρ cs := retQS x h hp hv hi
theorem zh {dst : Nat} {k : Kd} {v : Value} {g : Nat} {x : Bool} (hq : yK k = true) (hg : ρ.lk g = some (.bool x)) (he : x = false → Ev P k ρ cs v) (h : JT P t ((dst, gd (!x) v) :: ρ) cs K) : JT P (.st ⟨some dst, k, some (g, false)⟩ t) ρ cs K := JT.yh hq hg he h
theorem zm {dst : Nat} {k : Kd} {v : Value} {g : Nat} {x : Bool} (hq : yK k = true) (hg : ρ.lk g = some (.bool x)) (he : x = true → Ev P k ρ cs v) (h : JT P t ((dst, gd x v) :: ρ) cs K) : JT P (.st ⟨some dst, k, some (g, true)⟩ t) ρ cs K := JT.yg hq hg he h
end
theorem Imp.rf {cs : List Assn} : Imp cs cs := Imp.refl cs
theorem Imp.no {cs : List Assn} : Imp cs [] := Imp.nil cs
theorem Imp.d {c : Assn} {cs ds : List Assn} (h : Imp cs ds) : Imp (c :: cs) ds := Imp.dropT h
theorem Imp.t0 {c : Assn} {r ds : List Assn} (h : Imp r ds) : Imp (c :: r) (c :: ds) := Imp.take .here h
theorem Imp.t1 {c a1 : Assn} {r ds : List Assn} (h : Imp (a1 :: r) ds) : Imp (a1 :: c :: r) (c :: ds) := Imp.take (.there .here) h
theorem Imp.t2 {c a1 a2 : Assn} {r ds : List Assn} (h : Imp (a1 :: a2 :: r) ds) : Imp (a1 :: a2 :: c :: r) (c :: ds) := Imp.take (.there (.there .here)) h
theorem Imp.t3 {c a1 a2 a3 : Assn} {r ds : List Assn} (h : Imp (a1 :: a2 :: a3 :: r) ds) : Imp (a1 :: a2 :: a3 :: c :: r) (c :: ds) := Imp.take (.there (.there (.there .here))) h
theorem Imp.t4 {c a1 a2 a3 a4 : Assn} {r ds : List Assn} (h : Imp (a1 :: a2 :: a3 :: a4 :: r) ds) : Imp (a1 :: a2 :: a3 :: a4 :: c :: r) (c :: ds) := Imp.take (.there (.there (.there (.there .here)))) h
theorem Imp.t5 {c a1 a2 a3 a4 a5 : Assn} {r ds : List Assn} (h : Imp (a1 :: a2 :: a3 :: a4 :: a5 :: r) ds) : Imp (a1 :: a2 :: a3 :: a4 :: a5 :: c :: r) (c :: ds) := Imp.take (.there (.there (.there (.there (.there .here))))) h
theorem Imp.t6 {c a1 a2 a3 a4 a5 a6 : Assn} {r ds : List Assn} (h : Imp (a1 :: a2 :: a3 :: a4 :: a5 :: a6 :: r) ds) : Imp (a1 :: a2 :: a3 :: a4 :: a5 :: a6 :: c :: r) (c :: ds) := Imp.take (.there (.there (.there (.there (.there (.there .here)))))) h
theorem Imp.tk {c : Assn} {cs r ds : List Assn} (h : Has cs c r) (h' : Imp r ds) : Imp cs (c :: ds) := Imp.take h h'
end Go.SL
