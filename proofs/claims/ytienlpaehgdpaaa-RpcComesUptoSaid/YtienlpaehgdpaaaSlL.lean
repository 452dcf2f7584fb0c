/- The walk's own words, part L: a rule for each kind of operation that leaves memory alone. Conditions: none. -/
import Derived.Test.YtienlpaehgdpaaaSlK
set_option linter.unusedSimpArgs false
set_option linter.unusedVariables false
set_option linter.unusedSectionVars false
namespace Go.SL
open Go

abbrev ptr (b : Nat) : Value := .pointer (some ⟨b, 0, none⟩)
abbrev i64 (n : Int) : Value := .int .i64 n

/-- A block of cells, known whole. -/
def pc (b T : Nat) (l : List Value) : Assn := pt b (.cells l.toArray T (0, 0))
/-- The same, never written. -/
def rc (b T : Nat) (l : List Value) : Assn := ro b (.cells l.toArray T (0, 0))

def lnth : List Value → Nat → Option Value
  | [], _ => none
  | v :: _, 0 => some v
  | _ :: r, n + 1 => lnth r n

theorem lnth_eq : ∀ (l : List Value) (n : Nat), lnth l n = l[n]?
  | [], _ => rfl
  | _ :: _, 0 => rfl
  | _ :: r, n + 1 => by simp [lnth, lnth_eq r n]

def lsub (l : List Value) (off n : Nat) : List Value := (l.drop off).take n

/-- A slice's elements, each as its cells: in memory of its own ('true'), or in memory that is never written. -/
def slH (m : Bool) (sz : Nat) (sv : Value) (c : Nat) (es : List (List Value)) (S H : Hp) : Prop :=
  (0 < sz ∧ es.length ≤ 140737488355328) ∧ (∀ e ∈ es, e.length = sz ∧ ∀ v ∈ e, isOne v = true) ∧
  match m with
  | true => (sv = .slice none 0 0 ∧ es = [] ∧ c = 0) ∨
      ∃ b T pre rest, sv = .slice (some ⟨b, pre.length, none⟩) es.length c ∧ es.length ≤ c ∧ H b = some (.cells (pre ++ (es.flatten ++ rest)).toArray T (0, 0)) ∧ (c - es.length) * sz ≤ rest.length
  | false => (es = [] ∧ ∃ a, sv = .slice a 0 c ∧ (a = none → c = 0)) ∨
      ∃ b off T fz C, sv = .slice (some ⟨b, off, none⟩) es.length c ∧ es.length ≤ c ∧ S b = some (.cells C T fz) ∧ ∀ i, i < es.flatten.length → C[off + i]? = es.flatten[i]?

def SlT {α : Type} (m : Bool) (enc : α → List Value) (sz : Nat) (sv : Value) (c : Nat) (xs : List α) : Assn :=
  ⟨slH m sz sv c (xs.map enc), by
    rintro S S' H H' hS hH ⟨hz, h0, h⟩
    refine ⟨hz, h0, ?_⟩
    cases m with
    | true =>
      rcases h with h | ⟨b, T, pre, rest, h1, h2, h3, h4⟩
      · exact .inl h
      · exact .inr ⟨b, T, pre, rest, h1, h2, hH _ _ h3, h4⟩
    | false =>
      rcases h with h | ⟨b, off, T, fz, C, h1, h2, h3, h4⟩
      · exact .inl h
      · exact .inr ⟨b, off, T, fz, C, h1, h2, hS _ _ h3, h4⟩⟩

theorem SlT_pers {α : Type} (enc : α → List Value) (sz : Nat) (sv : Value) (c : Nat) (xs : List α) : (SlT false enc sz sv c xs).pers := by
  rintro S H ⟨hz, h0, h⟩
  exact ⟨hz, h0, h⟩

/-- The address of what lies so many cells behind a slice's head. -/
def elA (sv : Value) (o : Nat) : Addr :=
  match sv with
  | .slice (some a) _ _ => a.add o
  | _ => (⟨0, 0, none⟩ : Addr).add o

def elp (sv : Value) (o : Nat) : Value := .pointer (some (elA sv o))

theorem Addr.add_add (a : Addr) (m n : Nat) : (a.add m).add n = a.add (m + n) := by
  by_cases hm : m = 0
  · subst hm; simp [Addr.add]
  · by_cases hn : n = 0
    · subst hn; simp [Addr.add]
    · simp only [Addr.add, if_neg hm, if_neg hn, if_neg (show ¬ m + n = 0 by omega), Nat.add_assoc]

theorem elA_add (sv : Value) (m n : Nat) : (elA sv m).add n = elA sv (m + n) := by
  unfold elA; split <;> exact Addr.add_add _ _ _

theorem Addr.add_none (b o n : Nat) : (⟨b, o, none⟩ : Addr).add n = ⟨b, o + n, none⟩ := by
  by_cases hn : n = 0
  · subst hn; simp [Addr.add]
  · simp [Addr.add, hn]

theorem Sat.mem {h : Heap} {cs r : List Assn} {c : Assn} (hs : Sat h cs) (hh : Has cs c r) : ∃ S H : Hp, S.le (fun b => h[b]?) ∧ H.le (fun b => h[b]?) ∧ c.holds S H := by
  obtain ⟨S, H, hS, hH, hd, hst⟩ := hs
  obtain ⟨H1, H2, h1, h2, _, hc, _⟩ := hh S H hst
  exact ⟨S, H1, hS, Hp.le_trans h1 hH, hc⟩

theorem Sat.pc {h : Heap} {cs r : List Assn} {b T : Nat} {l : List Value} (hs : Sat h cs) (hh : Has cs (pc b T l) r) : h[b]? = some (.cells l.toArray T (0, 0)) := by
  obtain ⟨S, H, _, hH, hc⟩ := hs.mem hh; exact hH _ _ hc

theorem Sat.rc {h : Heap} {cs r : List Assn} {b T : Nat} {l : List Value} (hs : Sat h cs) (hh : Has cs (rc b T l) r) : h[b]? = some (.cells l.toArray T (0, 0)) := by
  obtain ⟨S, H, hS, _, hc⟩ := hs.mem hh; exact hS _ _ hc

theorem cell_of {h : Heap} {b T o : Nat} {C : Array Value} {fz : Nat × Nat} (hb : h[b]? = some (.cells C T fz)) : heapCell h ⟨b, o, none⟩ = C[o]? := by
  simp [heapCell, hb]

theorem cells_of {h : Heap} {b T o : Nat} {C : Array Value} {fz : Nat × Nat} (hb : h[b]? = some (.cells C T fz)) : ∀ (n i : Nat), o + i + n ≤ C.size →
    heapCells h ⟨b, o, none⟩ i n = some ((C.toList.drop (o + i)).take n)
  | 0, i, _ => by simp [heapCells]
  | n + 1, i, hn => by
    have hlt : o + i < C.size := by omega
    have ih := cells_of (o := o) hb n (i + 1) (by omega)
    simp only [heapCells, Addr.add_none, cell_of hb, Array.getElem?_eq_getElem hlt, ih]
    have e : C.toList.drop (o + i) = C[o + i] :: C.toList.drop (o + i + 1) := by
      rw [List.drop_eq_getElem_cons (by simpa using hlt)]; simp
    rw [e, List.take_succ_cons, Nat.add_assoc]

/-- The cells of a slice's element. -/
theorem Sat.elems {α : Type} {h : Heap} {cs r : List Assn} {m : Bool} {enc : α → List Value} {sz c : Nat} {sv : Value} {xs : List α} (hs : Sat h cs) (hh : Has cs (SlT m enc sz sv c xs) r) :
    ∀ k (hk : k < xs.length) (off n : Nat), off + n ≤ sz → heapCells h (elA sv (k * sz + off)) 0 n = some (lsub (enc xs[k]) off n) := by
  obtain ⟨S, H, hS, hH, hz, h0, hc⟩ := hs.mem hh
  intro k hk off n hn
  have hlen : ∀ e ∈ xs.map enc, e.length = sz := fun e he => (h0 e he).1
  have hfl : ∀ (es : List (List Value)), (∀ e ∈ es, e.length = sz) → ∀ k (hk : k < es.length), (es.flatten.drop (k * sz)).take sz = es[k] ∧ k * sz + sz ≤ es.flatten.length := by
    intro es
    induction es with
    | nil => intro _ k hk; simp at hk
    | cons e es ih =>
      intro hes k hk
      have he := hes e (by simp)
      cases k with
      | zero => simp [← he]
      | succ k =>
        obtain ⟨h1, h2⟩ := ih (fun x hx => hes x (by simp [hx])) k (by simpa using hk)
        have e1 : (k + 1) * sz = e.length + k * sz := by rw [he, Nat.succ_mul]; omega
        refine ⟨?_, ?_⟩
        · rw [e1]; simp only [List.flatten_cons, List.getElem_cons_succ, List.drop_append]
          rw [List.drop_eq_nil_of_le (by omega), List.nil_append, show e.length + k * sz - e.length = k * sz by omega]; exact h1
        · rw [e1]; simp only [List.flatten_cons, List.length_append]; omega
  have hk' : k < (xs.map enc).length := by simpa using hk
  obtain ⟨hf1, hf2⟩ := hfl _ hlen k hk'
  have hget : (xs.map enc)[k] = enc xs[k] := by simp
  rw [hget] at hf1
  have fin : ∀ (C : List Value) (o : Nat), (∀ i, i < (xs.map enc).flatten.length → C[o + i]? = (xs.map enc).flatten[i]?) → (C.drop (o + (k * sz + off))).take n = lsub (enc xs[k]) off n := by
    intro C o hC
    unfold lsub
    rw [← hf1]
    apply List.ext_getElem?
    intro j
    simp only [List.getElem?_take, List.getElem?_drop]
    by_cases hj : j < n
    · simp only [hj, if_true, show off + j < sz by omega]
      rw [show o + (k * sz + off) + j = o + (k * sz + off + j) by omega, hC _ (by omega), Nat.add_assoc]
    · simp [hj]
  cases m with
  | true =>
    rcases hc with ⟨h1, h2, _⟩ | ⟨b, T, pre, rest, h1, h2, h3, h4⟩
    · rw [h2] at hk'; simp at hk'
    · have hb := hH _ _ h3
      subst h1
      simp only [elA, Addr.add_none]
      rw [cells_of hb n 0 (by simp only [List.size_toArray, List.length_append]; omega)]
      congr 1
      simp only [Nat.add_zero]
      refine fin _ pre.length fun i hi => ?_
      simp only [List.toList_toArray, List.getElem?_append_right (Nat.le_add_right _ _), Nat.add_sub_cancel_left, List.getElem?_append_left hi]
  | false =>
    rcases hc with ⟨h2, _⟩ | ⟨b, off', T, fz, C, h1, h2, h3, h4⟩
    · rw [h2] at hk'; simp at hk'
    · have hb := hS _ _ h3
      subst h1
      simp only [elA, Addr.add_none]
      have hCs : off' + (xs.map enc).flatten.length ≤ C.size := by
        rcases Nat.eq_zero_or_pos (xs.map enc).flatten.length with e | e
        · omega
        · have := h4 ((xs.map enc).flatten.length - 1) (by omega)
          rw [List.getElem?_eq_getElem (by omega)] at this
          have := (Array.getElem?_eq_some_iff.1 this).1
          omega
      rw [cells_of hb n 0 (by omega)]
      congr 1
      simp only [Nat.add_zero]
      exact fin _ off' fun i hi => by rw [Array.getElem?_toList]; exact h4 i hi

/-- A list's element; the default one where there is none. -/
def nth {α : Type} [Inhabited α] (xs : List α) (k : Nat) : α := xs.getD k default
theorem nth_eq {α : Type} [Inhabited α] {xs : List α} {k : Nat} (h : k < xs.length) : nth xs k = xs[k] := by simp [nth, h]

/-! ### What an operation yields -/

/-- Where 'cs' is known, the operation yields v and leaves memory alone. -/
structure Ev (P : Program) (k : Kd) (ρ : Env) (cs : List Assn) (v : Value) : Prop where
  q : quietK k = true
  run : ∀ h, Sat h cs → k.sem P ρ h fun v' h' => v' = v ∧ h' = h

/-- A value that is there only where a guard let it come. -/
def gd (g : Bool) (v : Value) : Value := bif g then v else undef

section
variable {P : Program} {ρ : Env} {cs r : List Assn}

theorem Ev.mv {x : Operand} {v : Value} (h : ρ.ev x = some v) : Ev P (.mv x) ρ cs v := ⟨rfl, fun _ _ => ⟨v, h, rfl, rfl⟩⟩
theorem Ev.pickT {c a b : Operand} {v : Value} (hc : ρ.ev c = some (.bool true)) (h : ρ.ev a = some v) : Ev P (.pick c a b) ρ cs v := ⟨rfl, fun _ _ => ⟨true, v, hc, h, rfl, rfl⟩⟩
theorem Ev.pickF {c a b : Operand} {v : Value} (hc : ρ.ev c = some (.bool false)) (h : ρ.ev b = some v) : Ev P (.pick c a b) ρ cs v := ⟨rfl, fun _ _ => ⟨false, v, hc, h, rfl, rfl⟩⟩
theorem Ev.pickA {c a b : Operand} {g x : Bool} (hc : ρ.ev c = some (.bool g)) (h : ρ.ev a = some (gd g (.bool x))) (hb : ρ.ev b = some (.bool false)) : Ev P (.pick c a b) ρ cs (.bool (g && x)) :=
  ⟨rfl, fun _ _ => ⟨g, .bool (g && x), hc, by cases g <;> simp [gd, h, hb], rfl, rfl⟩⟩
theorem Ev.pickO {c a b : Operand} {g x : Bool} (hc : ρ.ev c = some (.bool g)) (ha : ρ.ev a = some (.bool true)) (h : ρ.ev b = some (gd (!g) (.bool x))) : Ev P (.pick c a b) ρ cs (.bool (g || x)) :=
  ⟨rfl, fun _ _ => ⟨g, .bool (g || x), hc, by cases g <;> simp [gd, h, ha], rfl, rfl⟩⟩

theorem Ev.nil {x : Operand} {ad : Addr} (h : ρ.ev x = some (.pointer (some ad))) : Ev P (.nilc x) ρ cs (.pointer (some ad)) := ⟨rfl, fun _ _ => ⟨_, h, trivial, rfl, rfl⟩⟩
theorem Ev.nilf {x : Operand} {f : Nat} {a c : Array Value} (h : ρ.ev x = some (.func (.func f) a c)) : Ev P (.nilc x) ρ cs (.func (.func f) a c) := ⟨rfl, fun _ _ => ⟨_, h, trivial, rfl, rfl⟩⟩

theorem Ev.fa {x : Operand} {off b o : Nat} (h : ρ.ev x = some (.pointer (some ⟨b, o, none⟩))) : Ev P (.fa off x) ρ cs (.pointer (some ⟨b, o + off, none⟩)) :=
  ⟨rfl, fun _ _ => ⟨_, h, by rw [Addr.add_none], rfl⟩⟩
theorem Ev.faE {x : Operand} {off o : Nat} {sv : Value} (h : ρ.ev x = some (elp sv o)) : Ev P (.fa off x) ρ cs (elp sv (o + off)) :=
  ⟨rfl, fun _ _ => ⟨_, h, by rw [elA_add]; rfl, rfl⟩⟩

theorem Ev.ld {a : Operand} {b o T : Nat} {l : List Value} {v : Value} (h : ρ.ev a = some (.pointer (some ⟨b, o, none⟩))) (hh : Has cs (pc b T l) r) (hv : lnth l o = some v) : Ev P (.ld none a) ρ cs v :=
  ⟨rfl, fun w hs => ⟨_, v, h, by rw [cell_of (hs.pc hh)]; rw [lnth_eq] at hv; simpa using hv, rfl, rfl⟩⟩
theorem Ev.ldR {a : Operand} {b o T : Nat} {l : List Value} {v : Value} (h : ρ.ev a = some (.pointer (some ⟨b, o, none⟩))) (hh : Has cs (rc b T l) r) (hv : lnth l o = some v) : Ev P (.ld none a) ρ cs v :=
  ⟨rfl, fun w hs => ⟨_, v, h, by rw [cell_of (hs.rc hh)]; rw [lnth_eq] at hv; simpa using hv, rfl, rfl⟩⟩
/-- A whole block. -/
theorem Ev.ldw {a : Operand} {b T n : Nat} {l : List Value} (h : ρ.ev a = some (.pointer (some ⟨b, 0, none⟩))) (hh : Has cs (pc b T l) r) (hn : l.length = n) : Ev P (.ld (some n) a) ρ cs (.agg l.toArray) :=
  ⟨rfl, fun w hs => ⟨_, l, h, by rw [cells_of (hs.pc hh) n 0 (by simp [hn])]; simp [← hn], rfl, rfl⟩⟩
theorem Ev.ldwR {a : Operand} {b T n : Nat} {l : List Value} (h : ρ.ev a = some (.pointer (some ⟨b, 0, none⟩))) (hh : Has cs (rc b T l) r) (hn : l.length = n) : Ev P (.ld (some n) a) ρ cs (.agg l.toArray) :=
  ⟨rfl, fun w hs => ⟨_, l, h, by rw [cells_of (hs.rc hh) n 0 (by simp [hn])]; simp [← hn], rfl, rfl⟩⟩
theorem Ev.ldp {a : Operand} {b o T n : Nat} {l us : List Value} (h : ρ.ev a = some (.pointer (some ⟨b, o, none⟩))) (hh : Has cs (pc b T l) r) (hn : o + n ≤ l.length) (hu : lsub l o n = us) : Ev P (.ld (some n) a) ρ cs (.agg us.toArray) :=
  ⟨rfl, fun w hs => ⟨_, us, h, by rw [cells_of (hs.pc hh) n 0 (by simp; omega)]; simp [← hu, lsub], rfl, rfl⟩⟩
theorem Ev.ldpR {a : Operand} {b o T n : Nat} {l us : List Value} (h : ρ.ev a = some (.pointer (some ⟨b, o, none⟩))) (hh : Has cs (rc b T l) r) (hn : o + n ≤ l.length) (hu : lsub l o n = us) : Ev P (.ld (some n) a) ρ cs (.agg us.toArray) :=
  ⟨rfl, fun w hs => ⟨_, us, h, by rw [cells_of (hs.rc hh) n 0 (by simp; omega)]; simp [← hu, lsub], rfl, rfl⟩⟩

/-- A slice's element, whole. -/
theorem Ev.ldE {α : Type} [Inhabited α] {a : Operand} {m : Bool} {enc : α → List Value} {sz c k : Nat} {sv : Value} {xs : List α} (h : ρ.ev a = some (elp sv (k * sz))) (hh : Has cs (SlT m enc sz sv c xs) r) (hk : k < xs.length) :
    Ev P (.ld (some sz) a) ρ cs (.agg (enc (nth xs k)).toArray) := by
  rw [nth_eq hk]
  refine ⟨rfl, fun w hs => ⟨_, enc xs[k], h, ?_, rfl, rfl⟩⟩
  have := hs.elems hh k hk 0 sz (by omega)
  obtain ⟨S, H, _, _, _, h0, _⟩ := hs.mem hh
  have hl := (h0 (enc xs[k]) (List.mem_map.2 ⟨_, List.getElem_mem hk, rfl⟩)).1
  rw [Nat.add_zero] at this
  rw [this]; simp [lsub, ← hl]
theorem Ev.ldE1 {α : Type} [Inhabited α] {a : Operand} {m : Bool} {enc : α → List Value} {sz c k o : Nat} {sv v : Value} {xs : List α} (h : ρ.ev a = some (elp sv (k * sz + o))) (hh : Has cs (SlT m enc sz sv c xs) r) (hk : k < xs.length)
    (hv : lnth (enc (nth xs k)) o = some v) (ho : o < sz) : Ev P (.ld none a) ρ cs v := by
  rw [nth_eq hk] at hv
  refine ⟨rfl, fun w hs => ⟨_, v, h, ?_, rfl, rfl⟩⟩
  have := hs.elems hh k hk o 1 (by omega)
  simp only [heapCells, Addr.add] at this
  simp only [if_true] at this
  rw [lnth_eq] at hv
  have hl : lsub (enc xs[k]) o 1 = [v] := by
    unfold lsub
    obtain ⟨hlt, hv⟩ := List.getElem?_eq_some_iff.1 hv
    rw [List.drop_eq_getElem_cons hlt]; simp [hv]
  rw [hl] at this
  cases hc : heapCell w (elA sv (k * sz + o)) with
  | none => simp [hc] at this
  | some u => simp [hc] at this; rw [this]
theorem Ev.ldE0 {α : Type} [Inhabited α] {a : Operand} {m : Bool} {enc : α → List Value} {sz c k : Nat} {sv v : Value} {xs : List α} (h : ρ.ev a = some (elp sv (k * sz))) (hh : Has cs (SlT m enc sz sv c xs) r) (hk : k < xs.length)
    (hv : lnth (enc (nth xs k)) 0 = some v) : Ev P (.ld none a) ρ cs v := by
  refine ⟨rfl, fun w hs => ?_⟩
  obtain ⟨S, H, _, _, hz, _, _⟩ := hs.mem hh
  exact (Ev.ldE1 (o := 0) (by simpa using h) hh hk hv hz.1).run w hs
theorem Ev.ldEp {α : Type} [Inhabited α] {a : Operand} {m : Bool} {enc : α → List Value} {sz c k o n : Nat} {sv : Value} {us : List Value} {xs : List α} (h : ρ.ev a = some (elp sv (k * sz + o))) (hh : Has cs (SlT m enc sz sv c xs) r) (hk : k < xs.length)
    (hn : o + n ≤ sz) (hu : lsub (enc (nth xs k)) o n = us) : Ev P (.ld (some n) a) ρ cs (.agg us.toArray) :=
  ⟨rfl, fun w hs => ⟨_, us, h, by rw [← hu, nth_eq hk]; exact hs.elems hh k hk o n hn, rfl, rfl⟩⟩

theorem Ev.ia {α : Type} {x i : Operand} {m : Bool} {enc : α → List Value} {sz c k : Nat} {kk : IntKind} {sv : Value} {xs : List α} (hx : ρ.ev x = some sv) (hi : ρ.ev i = some (.int kk (k : Int))) (hh : Has cs (SlT m enc sz sv c xs) r)
    (hk : k < xs.length) : Ev P (.ia sz x i) ρ cs (elp sv (k * sz)) := by
  refine ⟨rfl, fun w hs => ?_⟩
  obtain ⟨S, H, _, _, hz, h0, hc⟩ := hs.mem hh
  have hk' : k < (xs.map enc).length := by simpa using hk
  cases m with
  | true =>
    rcases hc with ⟨h1, h2, _⟩ | ⟨b, T, pre, rest, h1, h2, h3, h4⟩
    · rw [h2] at hk'; simp at hk'
    · subst h1
      exact ⟨⟨b, pre.length, none⟩, _, c, kk, k, hx, hi, by omega, by omega, by simp [elp, elA], rfl⟩
  | false =>
    rcases hc with ⟨h2, _⟩ | ⟨b, off', T, fz, C, h1, h2, h3, h4⟩
    · rw [h2] at hk'; simp at hk'
    · subst h1
      exact ⟨⟨b, off', none⟩, _, c, kk, k, hx, hi, by omega, by omega, by simp [elp, elA], rfl⟩

theorem SlT.form {α : Type} {m : Bool} {enc : α → List Value} {sz c : Nat} {sv : Value} {xs : List α} {S H : Hp} (h : (SlT m enc sz sv c xs).holds S H) : ∃ a, sv = .slice a xs.length c ∧ xs.length ≤ c := by
  obtain ⟨hz, h0, hc⟩ := h
  cases m with
  | true =>
    rcases hc with ⟨h1, h2, h3⟩ | ⟨b, T, pre, rest, h1, h2, h3, h4⟩
    · have : xs = [] := by simpa using h2
      subst this; exact ⟨none, by simpa [h3] using h1, by simp⟩
    · exact ⟨_, by simpa using h1, by simpa using h2⟩
  | false =>
    rcases hc with ⟨h2, a, h1, _⟩ | ⟨b, off', T, fz, C, h1, h2, h3, h4⟩
    · have : xs = [] := by simpa using h2
      subst this; exact ⟨a, by simpa using h1, by simp⟩
    · exact ⟨_, by simpa using h1, by simpa using h2⟩

theorem Sat.lenF {α : Type} {m : Bool} {enc : α → List Value} {sz c : Nat} {sv : Value} {xs : List α} {h : Heap} (hs : Sat h cs) (hh : Has cs (SlT m enc sz sv c xs) r) : xs.length ≤ 140737488355328 := by
  obtain ⟨S, H, _, _, hz, h0, hc⟩ := hs.mem hh
  simpa using hz.2

theorem Ev.ln {α : Type} {x : Operand} {m : Bool} {enc : α → List Value} {sz c : Nat} {sv : Value} {xs : List α} (hx : ρ.ev x = some sv) (hh : Has cs (SlT m enc sz sv c xs) r) : Ev P (.ln x) ρ cs (i64 (xs.length : Int)) := by
  refine ⟨rfl, fun w hs => ?_⟩
  obtain ⟨S, H, _, _, hc⟩ := hs.mem hh
  obtain ⟨a, h1, _⟩ := SlT.form hc
  exact ⟨a, xs.length, c, by rw [hx, h1], rfl, rfl⟩
theorem Ev.lnv {x : Operand} {a : Option Addr} {n c : Nat} (hx : ρ.ev x = some (.slice a n c)) : Ev P (.ln x) ρ cs (i64 (n : Int)) := ⟨rfl, fun w hs => ⟨a, n, c, hx, rfl, rfl⟩⟩
theorem Ev.lns {x : Operand} {s : ByteArray} (hx : ρ.ev x = some (.string s)) : Ev P (.lns x) ρ cs (i64 (s.size : Int)) := ⟨rfl, fun w hs => ⟨s, hx, rfl, rfl⟩⟩

theorem Ev.ext {x : Operand} {i : Nat} {l : List Value} {v : Value} (hx : ρ.ev x = some (.tuple l.toArray)) (hv : lnth l i = some v) : Ev P (.ext x i) ρ cs v :=
  ⟨rfl, fun w hs => ⟨_, v, hx, by rw [lnth_eq] at hv; simpa using hv, rfl, rfl⟩⟩
theorem Ev.mki {x : Operand} {t : Nat} {v : Value} (hx : ρ.ev x = some v) : Ev P (.mki t x) ρ cs (.iface t v) := ⟨rfl, fun w hs => ⟨v, hx, rfl, rfl⟩⟩
theorem Ev.mkf {f : Nat} {xs : List Operand} {vs : List Value} (hx : ρ.evs xs = some vs) : Ev P (.mkf f xs) ρ cs (.func (.func f) #[] vs.toArray) := ⟨rfl, fun w hs => ⟨vs, hx, rfl, rfl⟩⟩
theorem Ev.agg {src : List Src} {l : List Value} (h : Cells ρ src l) : Ev P (.agg src) ρ cs (.agg l.toArray) := ⟨rfl, fun w hs => ⟨l, h, rfl, rfl⟩⟩
theorem Ev.fld {x : Operand} {n off : Nat} {l : List Value} {v : Value} (hx : ρ.ev x = some (.agg l.toArray)) (hv : lnth l off = some v) : Ev P (.fld false n off x) ρ cs v :=
  ⟨rfl, fun w hs => ⟨_, v, hx, by rw [lnth_eq] at hv; simpa using hv, rfl, rfl⟩⟩
theorem Ev.fldA {x : Operand} {n off : Nat} {l us : List Value} (hx : ρ.ev x = some (.agg l.toArray)) (hu : lsub l off n = us) : Ev P (.fld true n off x) ρ cs (.agg us.toArray) := by
  refine ⟨rfl, fun w hs => ⟨_, _, hx, ?_, rfl, rfl⟩⟩
  subst hu
  simp only [if_true, lsub]
  congr 1
  rw [← Array.toList_inj]; simp [List.drop_take]

/-! Integers -/
theorem Ev.int {op : BinOp} {x y : Operand} {k : IntKind} {n m : Int} {v : Value} (hx : ρ.ev x = some (.int k n)) (hy : ρ.ev y = some (.int k m)) (hv : intBin op k n m = some v) : Ev P (.bini op x y) ρ cs v :=
  ⟨rfl, fun w hs => ⟨k, n, k, m, v, hx, hy, .inr rfl, hv, rfl, rfl⟩⟩
theorem Ev.shift {op : BinOp} {x y : Operand} {k k' : IntKind} {n m : Int} {v : Value} (hx : ρ.ev x = some (.int k n)) (hy : ρ.ev y = some (.int k' m)) (ho : isShift op = true) (hv : intBin op k n m = some v) : Ev P (.bini op x y) ρ cs v :=
  ⟨rfl, fun w hs => ⟨k, n, k', m, v, hx, hy, .inl ho, hv, rfl, rfl⟩⟩

/-- What a number comes to in its kind. -/
def Wr (k : IntKind) (n r : Int) : Prop := k.wrap n = r
theorem Wr.i64 {n : Int} (h1 : -9223372036854775808 ≤ n) (h2 : n ≤ 9223372036854775807) : Wr .i64 n n := by
  unfold Wr IntKind.wrap; simp [IntKind.min, IntKind.max, IntKind.bits, IntKind.signed]; omega
theorem Wr.u64 {n : Int} (h1 : 0 ≤ n) (h2 : n ≤ 18446744073709551615) : Wr .u64 n n := by
  unfold Wr IntKind.wrap; simp [IntKind.min, IntKind.max, IntKind.bits, IntKind.signed]; omega
theorem Wr.u8 {n : Int} (h1 : 0 ≤ n) (h2 : n ≤ 255) : Wr .u8 n n := by
  unfold Wr IntKind.wrap; simp [IntKind.min, IntKind.max, IntKind.bits, IntKind.signed]; omega
theorem Wr.self (k : IntKind) (n : Int) : Wr k n (k.wrap n) := rfl

theorem Ev.add {x y : Operand} {k : IntKind} {n m q : Int} (hx : ρ.ev x = some (.int k n)) (hy : ρ.ev y = some (.int k m)) (hw : Wr k (n + m) q) : Ev P (.bini .add x y) ρ cs (.int k q) := Ev.int hx hy (by simp only [intBin]; rw [hw])
theorem Ev.sub {x y : Operand} {k : IntKind} {n m q : Int} (hx : ρ.ev x = some (.int k n)) (hy : ρ.ev y = some (.int k m)) (hw : Wr k (n - m) q) : Ev P (.bini .sub x y) ρ cs (.int k q) := Ev.int hx hy (by simp only [intBin]; rw [hw])
theorem Ev.mul {x y : Operand} {k : IntKind} {n m q : Int} (hx : ρ.ev x = some (.int k n)) (hy : ρ.ev y = some (.int k m)) (hw : Wr k (n * m) q) : Ev P (.bini .mul x y) ρ cs (.int k q) := Ev.int hx hy (by simp only [intBin]; rw [hw])
theorem Ev.cv {x : Operand} {k k' : IntKind} {n q : Int} (hx : ρ.ev x = some (.int k' n)) (hw : Wr k n q) : Ev P (.cv k x) ρ cs (.int k q) := ⟨rfl, fun w hs => ⟨k', n, hx, by rw [hw], rfl⟩⟩

/-- What asks no memory, reckoned. -/
def evalQ (k : Kd) (ρ : Env) : Option Value :=
  match k with
  | .mv x => ρ.ev x
  | .nilc x => match ρ.ev x with
    | some (.pointer (some a)) => some (.pointer (some a))
    | some (.func (.func f) a c) => some (.func (.func f) a c)
    | _ => none
  | .fa off x => match ρ.ev x with
    | some (.pointer (some ⟨b, o, none⟩)) => some (.pointer (some ⟨b, o + off, none⟩))
    | _ => none
  | .ext x i => match ρ.ev x with
    | some (.tuple ⟨l⟩) => lnth l i
    | _ => none
  | .fld false _ off x => match ρ.ev x with
    | some (.agg ⟨l⟩) => lnth l off
    | _ => none
  | .mki t x => match ρ.ev x with
    | some v => some (.iface t v)
    | none => none
  | .un .not x => match ρ.ev x with
    | some (.bool b) => some (.bool (!b))
    | _ => none
  | .cmp sc false x y => match ρ.ev x, ρ.ev y with
    | some u, some v => match scalEq sc u v with
      | some b => some (.bool b)
      | none => none
    | _, _ => none
  | .cmp sc true x y => match ρ.ev x, ρ.ev y with
    | some u, some v => match scalEq sc u v with
      | some b => some (.bool (!b))
      | none => none
    | _, _ => none
  | .ln x => match ρ.ev x with
    | some (.slice _ n _) => some (.int .i64 n)
    | _ => none
  | .lns x => match ρ.ev x with
    | some (.string s) => some (.int .i64 s.size)
    | _ => none
  | _ => none

end
section
variable {P : Program} {ρ : Env} {cs r : List Assn}

theorem Ev.calc {k : Kd} {v : Value} (h : evalQ k ρ = some v) : Ev P k ρ cs v := by
  cases k <;> simp only [evalQ, reduceCtorEq] at h
  case mv x => exact .mv h
  case nilc x =>
    split at h
    · cases h; exact .nil (by assumption)
    · cases h; exact .nilf (by assumption)
    · cases h
  case fa off x =>
    split at h
    · cases h; exact .fa (by assumption)
    · cases h
  case ext x i =>
    split at h
    · exact .ext (by assumption) h
    · cases h
  case fld ag n off x =>
    cases ag
    · simp only [] at h
      split at h
      · exact .fld (by assumption) h
      · cases h
    · simp at h
  case mki t x =>
    split at h
    · cases h; exact .mki (by assumption)
    · cases h
  case un op x =>
    cases op <;> simp only [reduceCtorEq] at h
    split at h
    · rename_i b hb
      cases h
      exact ⟨rfl, fun w hs => ⟨_, .bool (!b), hb, fun w => by simp [Op.unary], rfl, rfl⟩⟩
    · cases h
  case cmp sc neg x y =>
    cases neg <;> simp only [] at h <;> split at h
    · rename_i u v' hx hy
      split at h
      · rename_i b hb
        cases h
        exact ⟨rfl, fun w hs => ⟨u, v', b, hx, hy, hb, by cases b <;> rfl, rfl⟩⟩
      · cases h
    · cases h
    · rename_i u v' hx hy
      split at h
      · rename_i b hb
        cases h
        exact ⟨rfl, fun w hs => ⟨u, v', b, hx, hy, hb, by cases b <;> rfl, rfl⟩⟩
      · cases h
    · cases h
  case ln x =>
    split at h
    · cases h; exact .lnv (by assumption)
    · cases h
  case lns x =>
    split at h
    · cases h; exact .lns (by assumption)
    · cases h

/-! Values of plain types -/
theorem Ev.eqs {neg : Bool} {fl : List Fl} {x y : Operand} {u v : List Value} {b : Bool} (hx : ρ.ev x = some (.agg u.toArray)) (hy : ρ.ev y = some (.agg v.toArray)) (h : EqC fl u v b) : Ev P (.eqs neg fl x y) ρ cs (.bool (b != neg)) :=
  ⟨rfl, fun w hs => ⟨_, _, b, hx, hy, by simpa using h, rfl, rfl⟩⟩

/-- A type whose '==' is its values' equality. -/
class EqEnc {α : Type} [DecidableEq α] (fl : outParam (List Fl)) (enc : α → List Value) : Prop where
  eq : ∀ a b : α, EqC fl (enc a) (enc b) (decide (a = b))

theorem Ev.idx {x i : Operand} {s : ByteArray} {k : IntKind} {n : Nat} {b : UInt8} (hx : ρ.ev x = some (.string s)) (hi : ρ.ev i = some (.int k (n : Int))) (hb : s[n]? = some b) : Ev P (.idx x i) ρ cs (.int .u8 b.toNat) :=
  ⟨rfl, fun w hs => ⟨s, k, n, b, hx, hi, by omega, by simpa using hb, rfl, rfl⟩⟩
theorem Ev.mn {x y : Operand} {k k' : IntKind} {n m : Int} (hx : ρ.ev x = some (.int k n)) (hy : ρ.ev y = some (.int k' m)) : Ev P (.mm false x y) ρ cs (.int k (if m < n then m else n)) := ⟨rfl, fun w hs => ⟨k, n, k', m, hx, hy, rfl, rfl⟩⟩
theorem Ev.mx {x y : Operand} {k k' : IntKind} {n m : Int} (hx : ρ.ev x = some (.int k n)) (hy : ρ.ev y = some (.int k' m)) : Ev P (.mm true x y) ρ cs (.int k (if m > n then m else n)) := ⟨rfl, fun w hs => ⟨k, n, k', m, hx, hy, rfl, rfl⟩⟩
theorem Ev.cap {α : Type} {x : Operand} {m : Bool} {enc : α → List Value} {sz c : Nat} {sv : Value} {xs : List α} (hx : ρ.ev x = some sv) (hh : Has cs (SlT m enc sz sv c xs) r) : Ev P (.cap x) ρ cs (i64 (c : Int)) := by
  refine ⟨rfl, fun w hs => ?_⟩
  obtain ⟨S, H, _, _, hc⟩ := hs.mem hh
  obtain ⟨a, h1, _⟩ := SlT.form hc
  exact ⟨a, xs.length, c, by rw [hx, h1], rfl, rfl⟩

theorem Ev.eqT {α : Type} [DecidableEq α] {fl : List Fl} {enc : α → List Value} {x y : Operand} {a a' : α} (hx : ρ.ev x = some (.agg (enc a).toArray)) (hy : ρ.ev y = some (.agg (enc a').toArray)) [E : EqEnc fl enc] :
    Ev P (.eqs false fl x y) ρ cs (.bool (decide (a = a'))) := by
  have := Ev.eqs (P := P) (cs := cs) (neg := false) hx hy (E.eq a a')
  simpa using this
theorem Ev.neT {α : Type} [DecidableEq α] {fl : List Fl} {enc : α → List Value} {x y : Operand} {a a' : α} (hx : ρ.ev x = some (.agg (enc a).toArray)) (hy : ρ.ev y = some (.agg (enc a').toArray)) [E : EqEnc fl enc] :
    Ev P (.eqs true fl x y) ρ cs (.bool (decide (a ≠ a'))) := by
  have := Ev.eqs (P := P) (cs := cs) (neg := true) hx hy (E.eq a a')
  simpa using this

end
end Go.SL
