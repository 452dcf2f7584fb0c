/- The walk's own words, part L: a rule for each kind of operation that leaves memory alone. Conditions: none. -/
import Derived.Test.YtgcmglieciaifaaSlO
set_option linter.unusedSimpArgs false
set_option linter.unusedVariables false
set_option linter.unusedSectionVars false
namespace Go.SL
open Go

abbrev ptr (b : Nat) : Value := .pointer (some ⟨b, 0, none⟩)
abbrev i64 (n : Int) : Value := .int .i64 n

/-- A block of cells, known whole. -/
def pc (b T : Nat) (l : List Value) : Assn := pt b (.cells l.toArray T (0, 0))
/-- The same, never written. -/
def rc (b T : Nat) (l : List Value) : Assn := ro b (.cells l.toArray T (0, 0))

def lnth : List Value → Nat → Option Value
  | [], _ => none
  | v :: _, 0 => some v
  | _ :: r, n + 1 => lnth r n

theorem lnth_eq : ∀ (l : List Value) (n : Nat), lnth l n = l[n]?
  | [], _ => rfl
  | _ :: _, 0 => rfl
  | _ :: r, n + 1 => by simp [lnth, lnth_eq r n]

def lsub (l : List Value) (off n : Nat) : List Value := (l.drop off).take n

/-- A slice's elements, each as its cells: in memory of its own ('true'), or in memory that is never written. -/
def slH (m : Bool) (sz : Nat) (sv : Value) (c : Nat) (es : List (List Value)) (S H : Hp) : Prop :=
  (0 < sz ∧ es.length ≤ 140737488355328) ∧ (∀ e ∈ es, e.length = sz ∧ ∀ v ∈ e, isOne v = true) ∧
  match m with
  | true => (sv = .slice none 0 0 ∧ es = [] ∧ c = 0) ∨
      ∃ b T pre rest, sv = .slice (some ⟨b, pre.length, none⟩) es.length c ∧ es.length ≤ c ∧ H b = some (.cells (pre ++ (es.flatten ++ rest)).toArray T (0, 0)) ∧ (c - es.length) * sz ≤ rest.length
  | false => (es = [] ∧ ∃ a, sv = .slice a 0 c ∧ (a = none → c = 0)) ∨
      ∃ b off T fz C, sv = .slice (some ⟨b, off, none⟩) es.length c ∧ es.length ≤ c ∧ S b = some (.cells C T fz) ∧ ∀ i, i < es.flatten.length → C[off + i]? = es.flatten[i]?

def SlT {α : Type} (m : Bool) (enc : α → List Value) (sz : Nat) (sv : Value) (c : Nat) (xs : List α) : Assn :=
  ⟨slH m sz sv c (xs.map enc), by
    rintro S S' H H' hS hH ⟨hz, h0, h⟩
    refine ⟨hz, h0, ?_⟩
    cases m with
    | true =>
      rcases h with h | ⟨b, T, pre, rest, h1, h2, h3, h4⟩
      · exact .inl h
      · exact .inr ⟨b, T, pre, rest, h1, h2, hH _ _ h3, h4⟩
    | false =>
      rcases h with h | ⟨b, off, T, fz, C, h1, h2, h3, h4⟩
      · exact .inl h
      · exact .inr ⟨b, off, T, fz, C, h1, h2, hS _ _ h3, h4⟩⟩

theorem SlT_pers {α : Type} (enc : α → List Value) (sz : Nat) (sv : Value) (c : Nat) (xs : List α) : (SlT false enc sz sv c xs).pers := by
  rintro S H ⟨hz, h0, h⟩
  exact ⟨hz, h0, h⟩

/-- The address of what lies so many cells behind a slice's head. -/
def elA (sv : Value) (o : Nat) : Addr :=
  match sv with
  | .slice (some a) _ _ => a.add o
  | _ => (⟨0, 0, none⟩ : Addr).add o

def elp (sv : Value) (o : Nat) : Value := .pointer (some (elA sv o))

theorem Addr.add_add (a : Addr) (m n : Nat) : (a.add m).add n = a.add (m + n) := by
  by_cases hm : m = 0
  · subst hm; simp [Addr.add]
  · by_cases hn : n = 0
    · subst hn; simp [Addr.add]
    · simp only [Addr.add, if_neg hm, if_neg hn, if_neg (show ¬ m + n = 0 by omega), Nat.add_assoc]

theorem elA_add (sv : Value) (m n : Nat) : (elA sv m).add n = elA sv (m + n) := by
  unfold elA; split <;> exact Addr.add_add _ _ _

theorem Addr.add_none (b o n : Nat) : (⟨b, o, none⟩ : Addr).add n = ⟨b, o + n, none⟩ := by
  by_cases hn : n = 0
  · subst hn; simp [Addr.add]
  · simp [Addr.add, hn]

theorem Sat.mem {h : Heap} {cs r : List Assn} {c : Assn} (hs : Sat h cs) (hh : Has cs c r) : ∃ S H : Hp, S.le (fun b => h[b]?) ∧ H.le (fun b => h[b]?) ∧ c.holds S H := by
  obtain ⟨S, H, hS, hH, hd, hst⟩ := hs
  obtain ⟨H1, H2, h1, h2, _, hc, _⟩ := hh S H hst
  exact ⟨S, H1, Hp.le_trans hS (hv_le h), Hp.le_trans h1 (Hp.le_trans hH (hv_le h)), hc⟩

theorem Sat.pc {h : Heap} {cs r : List Assn} {b T : Nat} {l : List Value} (hs : Sat h cs) (hh : Has cs (pc b T l) r) : h[b]? = some (.cells l.toArray T (0, 0)) := by
  obtain ⟨S, H, _, hH, hc⟩ := hs.mem hh; exact hH _ _ hc

theorem Sat.rc {h : Heap} {cs r : List Assn} {b T : Nat} {l : List Value} (hs : Sat h cs) (hh : Has cs (rc b T l) r) : h[b]? = some (.cells l.toArray T (0, 0)) := by
  obtain ⟨S, H, hS, _, hc⟩ := hs.mem hh; exact hS _ _ hc

theorem cell_of {h : Heap} {b T o : Nat} {C : Array Value} {fz : Nat × Nat} (hb : h[b]? = some (.cells C T fz)) : heapCell h ⟨b, o, none⟩ = C[o]? := by
  simp [heapCell, hb]

theorem cells_of {h : Heap} {b T o : Nat} {C : Array Value} {fz : Nat × Nat} (hb : h[b]? = some (.cells C T fz)) : ∀ (n i : Nat), o + i + n ≤ C.size →
    heapCells h ⟨b, o, none⟩ i n = some ((C.toList.drop (o + i)).take n)
  | 0, i, _ => by simp [heapCells]
  | n + 1, i, hn => by
    have hlt : o + i < C.size := by omega
    have ih := cells_of (o := o) hb n (i + 1) (by omega)
    simp only [heapCells, Addr.add_none, cell_of hb, Array.getElem?_eq_getElem hlt, ih]
    have e : C.toList.drop (o + i) = C[o + i] :: C.toList.drop (o + i + 1) := by
      rw [List.drop_eq_getElem_cons (by simpa using hlt)]; simp
    rw [e, List.take_succ_cons, Nat.add_assoc]

/-- The cells of a slice's element. -/
theorem Sat.elems {α : Type} {h : Heap} {cs r : List Assn} {m : Bool} {enc : α → List Value} {sz c : Nat} {sv : Value} {xs : List α} (hs : Sat h cs) (hh : Has cs (SlT m enc sz sv c xs) r) :
    ∀ k (hk : k < xs.length) (off n : Nat), off + n ≤ sz → heapCells h (elA sv (k * sz + off)) 0 n = some (lsub (enc xs[k]) off n) := by
  obtain ⟨S, H, hS, hH, hz, h0, hc⟩ := hs.mem hh
  intro k hk off n hn
  have hlen : ∀ e ∈ xs.map enc, e.length = sz := fun e he => (h0 e he).1
  have hfl : ∀ (es : List (List Value)), (∀ e ∈ es, e.length = sz) → ∀ k (hk : k < es.length), (es.flatten.drop (k * sz)).take sz = es[k] ∧ k * sz + sz ≤ es.flatten.length := by
    intro es
    induction es with
    | nil => intro _ k hk; simp at hk
    | cons e es ih =>
      intro hes k hk
      have he := hes e (by simp)
      cases k with
      | zero => simp [← he]
      | succ k =>
        obtain ⟨h1, h2⟩ := ih (fun x hx => hes x (by simp [hx])) k (by simpa using hk)
        have e1 : (k + 1) * sz = e.length + k * sz := by rw [he, Nat.succ_mul]; omega
        refine ⟨?_, ?_⟩
        · rw [e1]; simp only [List.flatten_cons, List.getElem_cons_succ, List.drop_append]
          rw [List.drop_eq_nil_of_le (by omega), List.nil_append, show e.length + k * sz - e.length = k * sz by omega]; exact h1
        · rw [e1]; simp only [List.flatten_cons, List.length_append]; omega
  have hk' : k < (xs.map enc).length := by simpa using hk
  obtain ⟨hf1, hf2⟩ := hfl _ hlen k hk'
  have hget : (xs.map enc)[k] = enc xs[k] := by simp
  rw [hget] at hf1
  have fin : ∀ (C : List Value) (o : Nat), (∀ i, i < (xs.map enc).flatten.length → C[o + i]? = (xs.map enc).flatten[i]?) → (C.drop (o + (k * sz + off))).take n = lsub (enc xs[k]) off n := by
    intro C o hC
    unfold lsub
    rw [← hf1]
    apply List.ext_getElem?
    intro j
    simp only [List.getElem?_take, List.getElem?_drop]
    by_cases hj : j < n
    · simp only [hj, if_true, show off + j < sz by omega]
      rw [show o + (k * sz + off) + j = o + (k * sz + off + j) by omega, hC _ (by omega), Nat.add_assoc]
    · simp [hj]
  cases m with
  | true =>
    rcases hc with ⟨h1, h2, _⟩ | ⟨b, T, pre, rest, h1, h2, h3, h4⟩
    · rw [h2] at hk'; simp at hk'
    · have hb := hH _ _ h3
      subst h1
      simp only [elA, Addr.add_none]
      rw [cells_of hb n 0 (by simp only [List.size_toArray, List.length_append]; omega)]
      congr 1
      simp only [Nat.add_zero]
      refine fin _ pre.length fun i hi => ?_
      simp only [List.toList_toArray, List.getElem?_append_right (Nat.le_add_right _ _), Nat.add_sub_cancel_left, List.getElem?_append_left hi]
  | false =>
    rcases hc with ⟨h2, _⟩ | ⟨b, off', T, fz, C, h1, h2, h3, h4⟩
    · rw [h2] at hk'; simp at hk'
    · have hb := hS _ _ h3
      subst h1
      simp only [elA, Addr.add_none]
      have hCs : off' + (xs.map enc).flatten.length ≤ C.size := by
        rcases Nat.eq_zero_or_pos (xs.map enc).flatten.length with e | e
        · omega
        · have := h4 ((xs.map enc).flatten.length - 1) (by omega)
          rw [List.getElem?_eq_getElem (by omega)] at this
          have := (Array.getElem?_eq_some_iff.1 this).1
          omega
      rw [cells_of hb n 0 (by omega)]
      congr 1
      simp only [Nat.add_zero]
      exact fin _ off' fun i hi => by rw [Array.getElem?_toList]; exact h4 i hi

/-- A list's element; the default one where there is none. -/
def nth {α : Type} [Inhabited α] (xs : List α) (k : Nat) : α := xs.getD k default
theorem nth_eq {α : Type} [Inhabited α] {xs : List α} {k : Nat} (h : k < xs.length) : nth xs k = xs[k] := by simp [nth, h]

/-! ### What an operation yields -/

/-- Where 'cs' is known, the operation yields v and leaves memory alone. -/
structure Ev (P : Program) (k : Kd) (ρ : Env) (cs : List Assn) (v : Value) : Prop where
  q : quietK k = true
  run : ∀ h, Sat h cs → k.sem P ρ h fun v' h' => v' = v ∧ h' = h

/-- A value that is there only where a guard let it come. -/
def gd (g : Bool) (v : Value) : Value := bif g then v else undef

section
variable {P : Program} {ρ : Env} {cs r : List Assn}

theorem Ev.mv {x : Operand} {v : Value} (h : ρ.ev x = some v) : Ev P (.mv x) ρ cs v := ⟨rfl, fun _ _ => ⟨v, h, rfl, rfl⟩⟩
theorem Ev.pickT {c a b : Operand} {v : Value} (hc : ρ.ev c = some (.bool true)) (h : ρ.ev a = some v) : Ev P (.pick c a b) ρ cs v := ⟨rfl, fun _ _ => ⟨true, v, hc, h, rfl, rfl⟩⟩
theorem Ev.pickF {c a b : Operand} {v : Value} (hc : ρ.ev c = some (.bool false)) (h : ρ.ev b = some v) : Ev P (.pick c a b) ρ cs v := ⟨rfl, fun _ _ => ⟨false, v, hc, h, rfl, rfl⟩⟩
theorem Ev.pickA {c a b : Operand} {g x : Bool} (hc : ρ.ev c = some (.bool g)) (h : ρ.ev a = some (gd g (.bool x))) (hb : ρ.ev b = some (.bool false)) : Ev P (.pick c a b) ρ cs (.bool (g && x)) :=
  ⟨rfl, fun _ _ => ⟨g, .bool (g && x), hc, by cases g <;> simp [gd, h, hb], rfl, rfl⟩⟩
theorem Ev.pickO {c a b : Operand} {g x : Bool} (hc : ρ.ev c = some (.bool g)) (ha : ρ.ev a = some (.bool true)) (h : ρ.ev b = some (gd (!g) (.bool x))) : Ev P (.pick c a b) ρ cs (.bool (g || x)) :=
  ⟨rfl, fun _ _ => ⟨g, .bool (g || x), hc, by cases g <;> simp [gd, h, ha], rfl, rfl⟩⟩

theorem Ev.nil {x : Operand} {ad : Addr} (h : ρ.ev x = some (.pointer (some ad))) : Ev P (.nilc x) ρ cs (.pointer (some ad)) := ⟨rfl, fun _ _ => ⟨_, h, trivial, rfl, rfl⟩⟩
theorem Ev.nilf {x : Operand} {f : Nat} {a c : Array Value} (h : ρ.ev x = some (.func (.func f) a c)) : Ev P (.nilc x) ρ cs (.func (.func f) a c) := ⟨rfl, fun _ _ => ⟨_, h, trivial, rfl, rfl⟩⟩

theorem Ev.fa {x : Operand} {off b o : Nat} (h : ρ.ev x = some (.pointer (some ⟨b, o, none⟩))) : Ev P (.fa off x) ρ cs (.pointer (some ⟨b, o + off, none⟩)) :=
  ⟨rfl, fun _ _ => ⟨_, h, by rw [Addr.add_none], rfl⟩⟩
theorem Ev.faE {x : Operand} {off o : Nat} {sv : Value} (h : ρ.ev x = some (elp sv o)) : Ev P (.fa off x) ρ cs (elp sv (o + off)) :=
  ⟨rfl, fun _ _ => ⟨_, h, by rw [elA_add]; rfl, rfl⟩⟩

theorem Ev.ld {a : Operand} {b o T : Nat} {l : List Value} {v : Value} (h : ρ.ev a = some (.pointer (some ⟨b, o, none⟩))) (hh : Has cs (pc b T l) r) (hv : lnth l o = some v) : Ev P (.ld none a) ρ cs v :=
  ⟨rfl, fun w hs => ⟨_, v, h, by rw [cell_of (hs.pc hh)]; rw [lnth_eq] at hv; simpa using hv, rfl, rfl⟩⟩
theorem Ev.ldR {a : Operand} {b o T : Nat} {l : List Value} {v : Value} (h : ρ.ev a = some (.pointer (some ⟨b, o, none⟩))) (hh : Has cs (rc b T l) r) (hv : lnth l o = some v) : Ev P (.ld none a) ρ cs v :=
  ⟨rfl, fun w hs => ⟨_, v, h, by rw [cell_of (hs.rc hh)]; rw [lnth_eq] at hv; simpa using hv, rfl, rfl⟩⟩
/-- A whole block. -/
theorem Ev.ldw {a : Operand} {b T n : Nat} {l : List Value} (h : ρ.ev a = some (.pointer (some ⟨b, 0, none⟩))) (hh : Has cs (pc b T l) r) (hn : l.length = n) : Ev P (.ld (some n) a) ρ cs (.agg l.toArray) :=
  ⟨rfl, fun w hs => ⟨_, l, h, by rw [cells_of (hs.pc hh) n 0 (by simp [hn])]; simp [← hn], rfl, rfl⟩⟩
theorem Ev.ldwR {a : Operand} {b T n : Nat} {l : List Value} (h : ρ.ev a = some (.pointer (some ⟨b, 0, none⟩))) (hh : Has cs (rc b T l) r) (hn : l.length = n) : Ev P (.ld (some n) a) ρ cs (.agg l.toArray) :=
  ⟨rfl, fun w hs => ⟨_, l, h, by rw [cells_of (hs.rc hh) n 0 (by simp [hn])]; simp [← hn], rfl, rfl⟩⟩
theorem Ev.ldp {a : Operand} {b o T n : Nat} {l us : List Value} (h : ρ.ev a = some (.pointer (some ⟨b, o, none⟩))) (hh : Has cs (pc b T l) r) (hn : o + n ≤ l.length) (hu : lsub l o n = us) : Ev P (.ld (some n) a) ρ cs (.agg us.toArray) :=
  ⟨rfl, fun w hs => ⟨_, us, h, by rw [cells_of (hs.pc hh) n 0 (by simp; omega)]; simp [← hu, lsub], rfl, rfl⟩⟩
theorem Ev.ldpR {a : Operand} {b o T n : Nat} {l us : List Value} (h : ρ.ev a = some (.pointer (some ⟨b, o, none⟩))) (hh : Has cs (rc b T l) r) (hn : o + n ≤ l.length) (hu : lsub l o n = us) : Ev P (.ld (some n) a) ρ cs (.agg us.toArray) :=
  ⟨rfl, fun w hs => ⟨_, us, h, by rw [cells_of (hs.rc hh) n 0 (by simp; omega)]; simp [← hu, lsub], rfl, rfl⟩⟩

/-- A slice's element, whole. -/
theorem Ev.ldE {α : Type} [Inhabited α] {a : Operand} {m : Bool} {enc : α → List Value} {sz c k : Nat} {sv : Value} {xs : List α} (h : ρ.ev a = some (elp sv (k * sz))) (hh : Has cs (SlT m enc sz sv c xs) r) (hk : k < xs.length) :
    Ev P (.ld (some sz) a) ρ cs (.agg (enc (nth xs k)).toArray) := by
  rw [nth_eq hk]
  refine ⟨rfl, fun w hs => ⟨_, enc xs[k], h, ?_, rfl, rfl⟩⟩
  have := hs.elems hh k hk 0 sz (by omega)
  obtain ⟨S, H, _, _, _, h0, _⟩ := hs.mem hh
  have hl := (h0 (enc xs[k]) (List.mem_map.2 ⟨_, List.getElem_mem hk, rfl⟩)).1
  rw [Nat.add_zero] at this
  rw [this]; simp [lsub, ← hl]
theorem Ev.ldE1 {α : Type} [Inhabited α] {a : Operand} {m : Bool} {enc : α → List Value} {sz c k o : Nat} {sv v : Value} {xs : List α} (h : ρ.ev a = some (elp sv (k * sz + o))) (hh : Has cs (SlT m enc sz sv c xs) r) (hk : k < xs.length)
    (hv : lnth (enc (nth xs k)) o = some v) (ho : o < sz) : Ev P (.ld none a) ρ cs v := by
  rw [nth_eq hk] at hv
  refine ⟨rfl, fun w hs => ⟨_, v, h, ?_, rfl, rfl⟩⟩
  have := hs.elems hh k hk o 1 (by omega)
  simp only [heapCells, Addr.add] at this
  simp only [if_true] at this
  rw [lnth_eq] at hv
  have hl : lsub (enc xs[k]) o 1 = [v] := by
    unfold lsub
    obtain ⟨hlt, hv⟩ := List.getElem?_eq_some_iff.1 hv
    rw [List.drop_eq_getElem_cons hlt]; simp [hv]
  rw [hl] at this
  cases hc : heapCell w (elA sv (k * sz + o)) with
  | none => simp [hc] at this
  | some u => simp [hc] at this; rw [this]
theorem Ev.ldE0 {α : Type} [Inhabited α] {a : Operand} {m : Bool} {enc : α → List Value} {sz c k : Nat} {sv v : Value} {xs : List α} (h : ρ.ev a = some (elp sv (k * sz))) (hh : Has cs (SlT m enc sz sv c xs) r) (hk : k < xs.length)
    (hv : lnth (enc (nth xs k)) 0 = some v) : Ev P (.ld none a) ρ cs v := by
  refine ⟨rfl, fun w hs => ?_⟩
  obtain ⟨S, H, _, _, hz, _, _⟩ := hs.mem hh
  exact (Ev.ldE1 (o := 0) (by simpa using h) hh hk hv hz.1).run w hs
theorem Ev.ldEp {α : Type} [Inhabited α] {a : Operand} {m : Bool} {enc : α → List Value} {sz c k o n : Nat} {sv : Value} {us : List Value} {xs : List α} (h : ρ.ev a = some (elp sv (k * sz + o))) (hh : Has cs (SlT m enc sz sv c xs) r) (hk : k < xs.length)
    (hn : o + n ≤ sz) (hu : lsub (enc (nth xs k)) o n = us) : Ev P (.ld (some n) a) ρ cs (.agg us.toArray) :=
  ⟨rfl, fun w hs => ⟨_, us, h, by rw [← hu, nth_eq hk]; exact hs.elems hh k hk o n hn, rfl, rfl⟩⟩

theorem Ev.ia {α : Type} {x i : Operand} {m : Bool} {enc : α → List Value} {sz c k : Nat} {kk : IntKind} {sv : Value} {xs : List α} (hx : ρ.ev x = some sv) (hi : ρ.ev i = some (.int kk (k : Int))) (hh : Has cs (SlT m enc sz sv c xs) r)
    (hk : k < xs.length) : Ev P (.ia sz x i) ρ cs (elp sv (k * sz)) := by
  refine ⟨rfl, fun w hs => ?_⟩
  obtain ⟨S, H, _, _, hz, h0, hc⟩ := hs.mem hh
  have hk' : k < (xs.map enc).length := by simpa using hk
  cases m with
  | true =>
    rcases hc with ⟨h1, h2, _⟩ | ⟨b, T, pre, rest, h1, h2, h3, h4⟩
    · rw [h2] at hk'; simp at hk'
    · subst h1
      exact ⟨⟨b, pre.length, none⟩, _, c, kk, k, hx, hi, by omega, by omega, by simp [elp, elA], rfl⟩
  | false =>
    rcases hc with ⟨h2, _⟩ | ⟨b, off', T, fz, C, h1, h2, h3, h4⟩
    · rw [h2] at hk'; simp at hk'
    · subst h1
      exact ⟨⟨b, off', none⟩, _, c, kk, k, hx, hi, by omega, by omega, by simp [elp, elA], rfl⟩

theorem SlT.form {α : Type} {m : Bool} {enc : α → List Value} {sz c : Nat} {sv : Value} {xs : List α} {S H : Hp} (h : (SlT m enc sz sv c xs).holds S H) : ∃ a, sv = .slice a xs.length c ∧ xs.length ≤ c := by
  obtain ⟨hz, h0, hc⟩ := h
  cases m with
  | true =>
    rcases hc with ⟨h1, h2, h3⟩ | ⟨b, T, pre, rest, h1, h2, h3, h4⟩
    · have : xs = [] := by simpa using h2
      subst this; exact ⟨none, by simpa [h3] using h1, by simp⟩
    · exact ⟨_, by simpa using h1, by simpa using h2⟩
  | false =>
    rcases hc with ⟨h2, a, h1, _⟩ | ⟨b, off', T, fz, C, h1, h2, h3, h4⟩
    · have : xs = [] := by simpa using h2
      subst this; exact ⟨a, by simpa using h1, by simp⟩
    · exact ⟨_, by simpa using h1, by simpa using h2⟩

theorem Sat.lenF {α : Type} {m : Bool} {enc : α → List Value} {sz c : Nat} {sv : Value} {xs : List α} {h : Heap} (hs : Sat h cs) (hh : Has cs (SlT m enc sz sv c xs) r) : xs.length ≤ 140737488355328 := by
  obtain ⟨S, H, _, _, hz, h0, hc⟩ := hs.mem hh
  simpa using hz.2

theorem Ev.ln {α : Type} {x : Operand} {m : Bool} {enc : α → List Value} {sz c : Nat} {sv : Value} {xs : List α} (hx : ρ.ev x = some sv) (hh : Has cs (SlT m enc sz sv c xs) r) : Ev P (.ln x) ρ cs (i64 (xs.length : Int)) := by
  refine ⟨rfl, fun w hs => ?_⟩
  obtain ⟨S, H, _, _, hc⟩ := hs.mem hh
  obtain ⟨a, h1, _⟩ := SlT.form hc
  exact ⟨a, xs.length, c, by rw [hx, h1], rfl, rfl⟩
theorem Ev.lnv {x : Operand} {a : Option Addr} {n c : Nat} (hx : ρ.ev x = some (.slice a n c)) : Ev P (.ln x) ρ cs (i64 (n : Int)) := ⟨rfl, fun w hs => ⟨a, n, c, hx, rfl, rfl⟩⟩
theorem Ev.lns {x : Operand} {s : ByteArray} (hx : ρ.ev x = some (.string s)) : Ev P (.lns x) ρ cs (i64 (s.size : Int)) := ⟨rfl, fun w hs => ⟨s, hx, rfl, rfl⟩⟩

theorem Ev.ext {x : Operand} {i : Nat} {l : List Value} {v : Value} (hx : ρ.ev x = some (.tuple l.toArray)) (hv : lnth l i = some v) : Ev P (.ext x i) ρ cs v :=
  ⟨rfl, fun w hs => ⟨_, v, hx, by rw [lnth_eq] at hv; simpa using hv, rfl, rfl⟩⟩
theorem Ev.mki {x : Operand} {t : Nat} {v : Value} (hx : ρ.ev x = some v) : Ev P (.mki t x) ρ cs (.iface t v) := ⟨rfl, fun w hs => ⟨v, hx, rfl, rfl⟩⟩
theorem Ev.mkf {f : Nat} {xs : List Operand} {vs : List Value} (hx : ρ.evs xs = some vs) : Ev P (.mkf f xs) ρ cs (.func (.func f) #[] vs.toArray) := ⟨rfl, fun w hs => ⟨vs, hx, rfl, rfl⟩⟩
theorem Ev.agg {src : List Src} {l : List Value} (h : Cells ρ src l) : Ev P (.agg src) ρ cs (.agg l.toArray) := ⟨rfl, fun w hs => ⟨l, h, rfl, rfl⟩⟩
theorem Ev.fld {x : Operand} {n off : Nat} {l : List Value} {v : Value} (hx : ρ.ev x = some (.agg l.toArray)) (hv : lnth l off = some v) : Ev P (.fld false n off x) ρ cs v :=
  ⟨rfl, fun w hs => ⟨_, v, hx, by rw [lnth_eq] at hv; simpa using hv, rfl, rfl⟩⟩
theorem Ev.fldA {x : Operand} {n off : Nat} {l us : List Value} (hx : ρ.ev x = some (.agg l.toArray)) (hu : lsub l off n = us) : Ev P (.fld true n off x) ρ cs (.agg us.toArray) := by
  refine ⟨rfl, fun w hs => ⟨_, _, hx, ?_, rfl, rfl⟩⟩
  subst hu
  simp only [if_true, lsub]
  congr 1
  rw [← Array.toList_inj]; simp [List.drop_take]

/-! Integers -/
theorem Ev.int {op : BinOp} {x y : Operand} {k : IntKind} {n m : Int} {v : Value} (hx : ρ.ev x = some (.int k n)) (hy : ρ.ev y = some (.int k m)) (hv : intBin op k n m = some v) : Ev P (.bini op x y) ρ cs v :=
  ⟨rfl, fun w hs => ⟨k, n, k, m, v, hx, hy, .inr rfl, hv, rfl, rfl⟩⟩
theorem Ev.shift {op : BinOp} {x y : Operand} {k k' : IntKind} {n m : Int} {v : Value} (hx : ρ.ev x = some (.int k n)) (hy : ρ.ev y = some (.int k' m)) (ho : isShift op = true) (hv : intBin op k n m = some v) : Ev P (.bini op x y) ρ cs v :=
  ⟨rfl, fun w hs => ⟨k, n, k', m, v, hx, hy, .inl ho, hv, rfl, rfl⟩⟩

/-- What a number comes to in its kind. -/
def Wr (k : IntKind) (n r : Int) : Prop := k.wrap n = r
theorem Wr.i64 {n : Int} (h1 : -9223372036854775808 ≤ n) (h2 : n ≤ 9223372036854775807) : Wr .i64 n n := by
  unfold Wr IntKind.wrap; simp [IntKind.min, IntKind.max, IntKind.bits, IntKind.signed]; omega
theorem Wr.u64 {n : Int} (h1 : 0 ≤ n) (h2 : n ≤ 18446744073709551615) : Wr .u64 n n := by
  unfold Wr IntKind.wrap; simp [IntKind.min, IntKind.max, IntKind.bits, IntKind.signed]; omega
theorem Wr.u8 {n : Int} (h1 : 0 ≤ n) (h2 : n ≤ 255) : Wr .u8 n n := by
  unfold Wr IntKind.wrap; simp [IntKind.min, IntKind.max, IntKind.bits, IntKind.signed]; omega
theorem Wr.self (k : IntKind) (n : Int) : Wr k n (k.wrap n) := rfl

theorem Ev.add {x y : Operand} {k : IntKind} {n m q : Int} (hx : ρ.ev x = some (.int k n)) (hy : ρ.ev y = some (.int k m)) (hw : Wr k (n + m) q) : Ev P (.bini .add x y) ρ cs (.int k q) := Ev.int hx hy (by simp only [intBin]; rw [hw])
theorem Ev.sub {x y : Operand} {k : IntKind} {n m q : Int} (hx : ρ.ev x = some (.int k n)) (hy : ρ.ev y = some (.int k m)) (hw : Wr k (n - m) q) : Ev P (.bini .sub x y) ρ cs (.int k q) := Ev.int hx hy (by simp only [intBin]; rw [hw])
theorem Ev.mul {x y : Operand} {k : IntKind} {n m q : Int} (hx : ρ.ev x = some (.int k n)) (hy : ρ.ev y = some (.int k m)) (hw : Wr k (n * m) q) : Ev P (.bini .mul x y) ρ cs (.int k q) := Ev.int hx hy (by simp only [intBin]; rw [hw])
theorem Ev.cv {x : Operand} {k k' : IntKind} {n q : Int} (hx : ρ.ev x = some (.int k' n)) (hw : Wr k n q) : Ev P (.cv k x) ρ cs (.int k q) := ⟨rfl, fun w hs => ⟨k', n, hx, by rw [hw], rfl⟩⟩

/-- What asks no memory, reckoned. -/
def evalQ (k : Kd) (ρ : Env) : Option Value :=
  match k with
  | .mv x => ρ.ev x
  | .nilc x => match ρ.ev x with
    | some (.pointer (some a)) => some (.pointer (some a))
    | some (.func (.func f) a c) => some (.func (.func f) a c)
    | _ => none
  | .fa off x => match ρ.ev x with
    | some (.pointer (some ⟨b, o, none⟩)) => some (.pointer (some ⟨b, o + off, none⟩))
    | _ => none
  | .ext x i => match ρ.ev x with
    | some (.tuple ⟨l⟩) => lnth l i
    | _ => none
  | .fld false _ off x => match ρ.ev x with
    | some (.agg ⟨l⟩) => lnth l off
    | _ => none
  | .mki t x => match ρ.ev x with
    | some v => some (.iface t v)
    | none => none
  | .un .not x => match ρ.ev x with
    | some (.bool b) => some (.bool (!b))
    | _ => none
  | .cmp sc false x y => match ρ.ev x, ρ.ev y with
    | some u, some v => match scalEq sc u v with
      | some b => some (.bool b)
      | none => none
    | _, _ => none
  | .cmp sc true x y => match ρ.ev x, ρ.ev y with
    | some u, some v => match scalEq sc u v with
      | some b => some (.bool (!b))
      | none => none
    | _, _ => none
  | .ln x => match ρ.ev x with
    | some (.slice _ n _) => some (.int .i64 n)
    | _ => none
  | .lns x => match ρ.ev x with
    | some (.string s) => some (.int .i64 s.size)
    | _ => none
  | _ => none

end
section
variable {P : Program} {ρ : Env} {cs r : List Assn}

theorem Ev.calc {k : Kd} {v : Value} (h : evalQ k ρ = some v) : Ev P k ρ cs v := by
  cases k <;> simp only [evalQ, reduceCtorEq] at h
  case mv x => exact .mv h
  case nilc x =>
    split at h
    · cases h; exact .nil (by assumption)
    · cases h; exact .nilf (by assumption)
    · cases h
  case fa off x =>
    split at h
    · cases h; exact .fa (by assumption)
    · cases h
  case ext x i =>
    split at h
    · exact .ext (by assumption) h
    · cases h
  case fld ag n off x =>
    cases ag
    · simp only [] at h
      split at h
      · exact .fld (by assumption) h
      · cases h
    · simp at h
  case mki t x =>
    split at h
    · cases h; exact .mki (by assumption)
    · cases h
  case un op x =>
    cases op <;> simp only [reduceCtorEq] at h
    split at h
    · rename_i b hb
      cases h
      exact ⟨rfl, fun w hs => ⟨_, .bool (!b), hb, fun w => by simp [Op.unary], rfl, rfl⟩⟩
    · cases h
  case cmp sc neg x y =>
    cases neg <;> simp only [] at h <;> split at h
    · rename_i u v' hx hy
      split at h
      · rename_i b hb
        cases h
        exact ⟨rfl, fun w hs => ⟨u, v', b, hx, hy, hb, by cases b <;> rfl, rfl⟩⟩
      · cases h
    · cases h
    · rename_i u v' hx hy
      split at h
      · rename_i b hb
        cases h
        exact ⟨rfl, fun w hs => ⟨u, v', b, hx, hy, hb, by cases b <;> rfl, rfl⟩⟩
      · cases h
    · cases h
  case ln x =>
    split at h
    · cases h; exact .lnv (by assumption)
    · cases h
  case lns x =>
    split at h
    · cases h; exact .lns (by assumption)
    · cases h

/-! Values of plain types -/
theorem Ev.eqs {neg : Bool} {fl : List Fl} {x y : Operand} {u v : List Value} {b : Bool} (hx : ρ.ev x = some (.agg u.toArray)) (hy : ρ.ev y = some (.agg v.toArray)) (h : EqC fl u v b) : Ev P (.eqs neg fl x y) ρ cs (.bool (b != neg)) :=
  ⟨rfl, fun w hs => ⟨_, _, b, hx, hy, by simpa using h, rfl, rfl⟩⟩

/-- A type whose '==' is its values' equality. -/
class EqEnc {α : Type} [DecidableEq α] (fl : outParam (List Fl)) (enc : α → List Value) : Prop where
  eq : ∀ a b : α, EqC fl (enc a) (enc b) (decide (a = b))

theorem Ev.idx {x i : Operand} {s : ByteArray} {k : IntKind} {n : Nat} {b : UInt8} (hx : ρ.ev x = some (.string s)) (hi : ρ.ev i = some (.int k (n : Int))) (hb : s[n]? = some b) : Ev P (.idx x i) ρ cs (.int .u8 b.toNat) :=
  ⟨rfl, fun w hs => ⟨s, k, n, b, hx, hi, by omega, by simpa using hb, rfl, rfl⟩⟩
theorem Ev.mn {x y : Operand} {k k' : IntKind} {n m : Int} (hx : ρ.ev x = some (.int k n)) (hy : ρ.ev y = some (.int k' m)) : Ev P (.mm false x y) ρ cs (.int k (if m < n then m else n)) := ⟨rfl, fun w hs => ⟨k, n, k', m, hx, hy, rfl, rfl⟩⟩
theorem Ev.mx {x y : Operand} {k k' : IntKind} {n m : Int} (hx : ρ.ev x = some (.int k n)) (hy : ρ.ev y = some (.int k' m)) : Ev P (.mm true x y) ρ cs (.int k (if m > n then m else n)) := ⟨rfl, fun w hs => ⟨k, n, k', m, hx, hy, rfl, rfl⟩⟩
theorem Ev.cap {α : Type} {x : Operand} {m : Bool} {enc : α → List Value} {sz c : Nat} {sv : Value} {xs : List α} (hx : ρ.ev x = some sv) (hh : Has cs (SlT m enc sz sv c xs) r) : Ev P (.cap x) ρ cs (i64 (c : Int)) := by
  refine ⟨rfl, fun w hs => ?_⟩
  obtain ⟨S, H, _, _, hc⟩ := hs.mem hh
  obtain ⟨a, h1, _⟩ := SlT.form hc
  exact ⟨a, xs.length, c, by rw [hx, h1], rfl, rfl⟩

theorem Ev.eqT {α : Type} [DecidableEq α] {fl : List Fl} {enc : α → List Value} {x y : Operand} {a a' : α} (hx : ρ.ev x = some (.agg (enc a).toArray)) (hy : ρ.ev y = some (.agg (enc a').toArray)) [E : EqEnc fl enc] :
    Ev P (.eqs false fl x y) ρ cs (.bool (decide (a = a'))) := by
  have := Ev.eqs (P := P) (cs := cs) (neg := false) hx hy (E.eq a a')
  simpa using this
theorem Ev.neT {α : Type} [DecidableEq α] {fl : List Fl} {enc : α → List Value} {x y : Operand} {a a' : α} (hx : ρ.ev x = some (.agg (enc a).toArray)) (hy : ρ.ev y = some (.agg (enc a').toArray)) [E : EqEnc fl enc] :
    Ev P (.eqs true fl x y) ρ cs (.bool (decide (a ≠ a'))) := by
  have := Ev.eqs (P := P) (cs := cs) (neg := true) hx hy (E.eq a a')
  simpa using this

end
end Go.SL

set_option linter.unusedSimpArgs false
set_option linter.unusedVariables false
set_option linter.unusedSectionVars false
namespace Go.SL
open Go

section
variable {P : Program} {ρ : Env} {cs r : List Assn} {t : Tr} {K : Env → List Assn → Prop}

theorem JT.done (h : K ρ cs) : JT P .done ρ cs K := ⟨fun _ hs => ⟨ρ, cs, Env.sub.rfl, hs, h⟩⟩
theorem JT.both {u : Tr} (h1 : JT P t ρ cs K) (h2 : JT P u ρ cs K) : JT P (.both t u) ρ cs K := ⟨fun h hs => ⟨h1.run h hs, h2.run h hs⟩⟩

theorem Imp.take {c : Assn} {ds : List Assn} (h : Has cs c r) (h' : Imp r ds) : Imp cs (c :: ds) := Imp.trans h (Imp.cons h')
theorem Imp.dropT {c : Assn} {ds : List Assn} (h : Imp cs ds) : Imp (c :: cs) ds := Imp.trans Imp.drop h

theorem Up.of {a b : List Assn} (h : Imp a b) : Up a b := fun _ hs => hs.imp h
theorem Up.refl (a : List Assn) : Up a a := fun _ h => h
theorem Up.trans {a b c : List Assn} (h : Up a b) (h' : Up b c) : Up a c := fun x hs => h' x (h x hs)
theorem Up.ex {α : Type} {A : α → Assn} {ds : List Assn} (h : ∀ x, Up (A x :: cs) ds) : Up (ex A :: cs) ds := by
  rintro w ⟨S, H, hS, hH, hd, H1, H2, h1, h2, hd', ⟨x, hx⟩, hr⟩
  exact h x w ⟨S, H, hS, hH, hd, H1, H2, h1, h2, hd', hx, hr⟩
theorem Up.pur {p : Prop} {ds : List Assn} (h : p → Up cs ds) : Up (pur p :: cs) ds := by
  intro w hs
  have hp : p := by obtain ⟨S, H, hS, hH, hd, hst⟩ := hs; exact Imp.pur_out hst
  exact h hp w (hs.imp Imp.drop)

theorem JT.up {cs' : List Assn} (hi : Up cs cs') (h : JT P t ρ cs' K) : JT P t ρ cs K := ⟨fun w hs => h.run w (hi _ hs)⟩
theorem JT.imp {cs' : List Assn} (hi : Imp cs cs') (h : JT P t ρ cs' K) : JT P t ρ cs K := JT.up (.of hi) h
theorem JT.has {c : Assn} (hh : Has cs c r) (h : JT P t ρ (c :: r) K) : JT P t ρ cs K := JT.imp hh h
theorem JT.ex {α : Type} {A : α → Assn} (h : ∀ x, JT P t ρ (A x :: cs) K) : JT P t ρ (ex A :: cs) K := ⟨by
  intro w hs
  obtain ⟨S, H, hS, hH, hd, H1, H2, h1, h2, hd', ⟨x, hx⟩, hr⟩ := hs
  exact (h x).run w ⟨S, H, hS, hH, hd, H1, H2, h1, h2, hd', hx, hr⟩⟩
theorem JT.pur {p : Prop} (h : p → JT P t ρ cs K) : JT P t ρ (pur p :: cs) K := ⟨by
  intro w hs
  have hp : p := by obtain ⟨S, H, hS, hH, hd, hst⟩ := hs; exact Imp.pur_out hst
  exact (h hp).run w (hs.imp Imp.drop)⟩
theorem JT.sep {l : List Assn} (h : JT P t ρ (l ++ cs) K) : JT P t ρ (sep l :: cs) K := JT.imp Imp.sep_out h

theorem J.up {N : Nat} {cc : CC} {Q : Exit → Env → List Assn → Prop} {cs' : List Assn} (hi : Up cs cs') (h : J P N cc ρ cs' Q) : J P N cc ρ cs Q := ⟨fun φ ha w hs => h.run φ ha w (hi _ hs)⟩
theorem J.imp {N : Nat} {cc : CC} {Q : Exit → Env → List Assn → Prop} {cs' : List Assn} (hi : Imp cs cs') (h : J P N cc ρ cs' Q) : J P N cc ρ cs Q := J.up (.of hi) h
theorem J.has {N : Nat} {cc : CC} {Q : Exit → Env → List Assn → Prop} {c : Assn} (hh : Has cs c r) (h : J P N cc ρ (c :: r) Q) : J P N cc ρ cs Q := J.imp hh h
theorem J.ex {N : Nat} {cc : CC} {Q : Exit → Env → List Assn → Prop} {α : Type} {A : α → Assn} (h : ∀ x, J P N cc ρ (A x :: cs) Q) : J P N cc ρ (ex A :: cs) Q := ⟨by
  intro φ ha w hs
  obtain ⟨S, H, hS, hH, hd, H1, H2, h1, h2, hd', ⟨x, hx⟩, hr⟩ := hs
  exact (h x).run φ ha w ⟨S, H, hS, hH, hd, H1, H2, h1, h2, hd', hx, hr⟩⟩
theorem J.pur {N : Nat} {cc : CC} {Q : Exit → Env → List Assn → Prop} {p : Prop} (h : p → J P N cc ρ cs Q) : J P N cc ρ (pur p :: cs) Q := ⟨by
  intro φ ha w hs
  have hp : p := by obtain ⟨S, H, hS, hH, hd, hst⟩ := hs; exact Imp.pur_out hst
  exact (h hp).run φ ha w (hs.imp Imp.drop)⟩
theorem J.sep {N : Nat} {cc : CC} {Q : Exit → Env → List Assn → Prop} {l : List Assn} (h : J P N cc ρ (l ++ cs) Q) : J P N cc ρ (sep l :: cs) Q := J.imp Imp.sep_out h

/-! ### Quiet operations -/

theorem semK_at {k : Kd} (hq : quietK k = true) {ρ : Env} {h : Heap} {v : Value} {K : Value → Heap → Prop} (hs : k.sem P ρ h fun v' h' => v' = v ∧ h' = h) (hK : K v h) : k.sem P ρ h K := by
  have := sem_mono P hq (K' := fun v' h' => v' = v ∧ h' = h ∧ K v' h') hs fun v' ⟨e1, e2⟩ => ⟨e1, e2, by rw [e1]; exact hK⟩
  obtain ⟨v', h1, h2⟩ := sem_quiet P hq this
  obtain ⟨rfl, _, h3⟩ := h2
  exact sem_mono P hq h1 fun u ⟨e, _⟩ => by rw [e]; exact h3

theorem JT.q {dst : Nat} {k : Kd} {v : Value} (he : Ev P k ρ cs v) (h : JT P t ((dst, v) :: ρ) cs K) : JT P (.st ⟨some dst, k, none⟩ t) ρ cs K := ⟨by
  intro w hs
  simp only [runT, semG]
  exact semK_at he.q (he.run w hs) (h.run w hs)⟩

theorem JT.qT {dst : Nat} {k : Kd} {v : Value} {g : Nat} {b : Bool} (hg : ρ.lk g = some (.bool b)) (he : Ev P k ρ cs v) (h : JT P t ((dst, v) :: ρ) cs K) : JT P (.st ⟨some dst, k, some (g, b)⟩ t) ρ cs K := ⟨by
  intro w hs
  simp only [runT, semG]
  exact ⟨_, hg, fun _ => semK_at he.q (he.run w hs) (h.run w hs), fun e => absurd rfl e⟩⟩

theorem JT.skipV {dst : Nat} {k : Kd} {g : Nat} {b : Bool} {v : Value} (hg : ρ.lk g = some v) (hb : v ≠ .bool b) (h : JT P t ((dst, undef) :: ρ) cs K) : JT P (.st ⟨some dst, k, some (g, b)⟩ t) ρ cs K := ⟨by
  intro w hs
  simp only [runT, semG]
  exact ⟨v, hg, (fun e => absurd e hb), fun _ => h.run w hs⟩⟩
theorem ne_not {b b' : Bool} (hb : b' = !b) : (Value.bool b') ≠ .bool b := fun e => by injection e with e; subst hb; cases b <;> cases e
theorem undef_ne {b : Bool} : undef ≠ Value.bool b := fun e => by simp [undef] at e
theorem JT.skip {dst : Nat} {k : Kd} {g : Nat} {b b' : Bool} (hg : ρ.lk g = some (.bool b')) (hb : b' = !b) (h : JT P t ((dst, undef) :: ρ) cs K) : JT P (.st ⟨some dst, k, some (g, b)⟩ t) ρ cs K := JT.skipV hg (ne_not hb) h
theorem JT.skipU {dst : Nat} {k : Kd} {g : Nat} {b : Bool} (hg : ρ.lk g = some undef) (h : JT P t ((dst, undef) :: ρ) cs K) : JT P (.st ⟨some dst, k, some (g, b)⟩ t) ρ cs K := JT.skipV hg undef_ne h

/-- A guard that is not known: what comes is there under it. -/
theorem JT.qV {dst : Nat} {k : Kd} {v u : Value} {g : Nat} {y b : Bool} (hg : ρ.lk g = some u) (hu : (u = .bool b) ↔ (y = true)) (he : y = true → Ev P k ρ cs v) (h : JT P t ((dst, gd y v) :: ρ) cs K) : JT P (.st ⟨some dst, k, some (g, b)⟩ t) ρ cs K := ⟨by
  intro w hs
  simp only [runT, semG]
  refine ⟨u, hg, fun e => ?_, fun e => ?_⟩
  · have hy := hu.1 e
    subst hy; exact semK_at (he rfl).q ((he rfl).run w hs) (h.run w hs)
  · have : y = false := by cases y <;> simp_all
    subst this; exact h.run w hs⟩
theorem JT.qg {dst : Nat} {k : Kd} {v : Value} {g : Nat} {x : Bool} (hg : ρ.lk g = some (.bool x)) (he : x = true → Ev P k ρ cs v) (h : JT P t ((dst, gd x v) :: ρ) cs K) : JT P (.st ⟨some dst, k, some (g, true)⟩ t) ρ cs K :=
  JT.qV hg (by simp) he h
theorem JT.qh {dst : Nat} {k : Kd} {v : Value} {g : Nat} {x : Bool} (hg : ρ.lk g = some (.bool x)) (he : x = false → Ev P k ρ cs v) (h : JT P t ((dst, gd (!x) v) :: ρ) cs K) : JT P (.st ⟨some dst, k, some (g, false)⟩ t) ρ cs K :=
  JT.qV hg (by simp) (fun e => he (by simpa using e)) h
theorem gd_true (v : Value) : gd true v = v := rfl
theorem gd_false (v : Value) : gd false v = undef := rfl
/-- The guard is itself there only under a guard. -/
theorem JT.qg2 {dst : Nat} {k : Kd} {v : Value} {g : Nat} {x y : Bool} (hg : ρ.lk g = some (gd x (.bool y))) (he : x = true → y = true → Ev P k ρ cs v) (h : JT P t ((dst, gd (x && y) v) :: ρ) cs K) : JT P (.st ⟨some dst, k, some (g, true)⟩ t) ρ cs K :=
  JT.qV hg (by cases x <;> simp [gd_true, gd_false, undef]) (fun e => by simp only [Bool.and_eq_true] at e; exact he e.1 e.2) h
theorem JT.qh2 {dst : Nat} {k : Kd} {v : Value} {g : Nat} {x y : Bool} (hg : ρ.lk g = some (gd x (.bool y))) (he : x = true → y = false → Ev P k ρ cs v) (h : JT P t ((dst, gd (x && !y) v) :: ρ) cs K) : JT P (.st ⟨some dst, k, some (g, false)⟩ t) ρ cs K :=
  JT.qV hg (by cases x <;> simp [gd_true, gd_false, undef]) (fun e => by simp only [Bool.and_eq_true, Bool.not_eq_true'] at e; exact he e.1 e.2) h

/-- A guard that is not known, taken apart. -/
theorem JT.split {c : COp} {g : Nat} {x b : Bool} (hc : c.guard = some (g, b)) (hg : ρ.lk g = some (.bool x)) (h1 : x = true → JT P (.st c t) ρ cs K) (h2 : x = false → JT P (.st c t) ρ cs K) : JT P (.st c t) ρ cs K := by
  cases x
  · exact h2 rfl
  · exact h1 rfl

/-! ### Again -/

theorem again_of {c : COp} {v : Value} {h : Heap} (hq : quietK c.k = true) (hs : c.k.sem P ρ h fun v' h' => v' = v ∧ h' = h) (hd : ∀ d, c.dst = some d → ρ.lk d = some v) :
    c.k.sem P ρ h fun v h' => h' = h ∧ ∀ d, c.dst = some d → ρ.lk d = some v :=
  sem_mono P hq hs fun v' ⟨e, e'⟩ => ⟨e', fun d hd' => by rw [e]; exact hd d hd'⟩

theorem JT.ag {d : Nat} {k : Kd} {v : Value} (he : Ev P k ρ cs v) (hd : ρ.lk d = some v) (h : JT P t ρ cs K) : JT P (.ag ⟨some d, k, none⟩ t) ρ cs K := ⟨by
  intro w hs
  refine ⟨?_, h.run w hs⟩
  unfold againG semG
  exact again_of he.q (he.run w hs) fun d' e => by cases e; exact hd⟩
theorem JT.agT {d : Nat} {k : Kd} {v : Value} {g : Nat} {b : Bool} (hg : ρ.lk g = some (.bool b)) (he : Ev P k ρ cs v) (hd : ρ.lk d = some v) (h : JT P t ρ cs K) : JT P (.ag ⟨some d, k, some (g, b)⟩ t) ρ cs K := ⟨by
  intro w hs
  refine ⟨?_, h.run w hs⟩
  unfold againG semG
  exact ⟨_, hg, fun _ => again_of he.q (he.run w hs) fun d' e => by cases e; exact hd, fun e => absurd rfl e⟩⟩
theorem JT.agV {d : Nat} {k : Kd} {g : Nat} {b : Bool} {v : Value} (hg : ρ.lk g = some v) (hb : v ≠ .bool b) (hd : ρ.lk d = some undef) (h : JT P t ρ cs K) : JT P (.ag ⟨some d, k, some (g, b)⟩ t) ρ cs K := ⟨by
  intro w hs
  refine ⟨?_, h.run w hs⟩
  unfold againG semG
  exact ⟨v, hg, (fun e => absurd e hb), fun _ => ⟨rfl, fun d' e => by cases e; exact hd⟩⟩⟩
theorem JT.agF {d : Nat} {k : Kd} {g : Nat} {b b' : Bool} (hg : ρ.lk g = some (.bool b')) (hb : b' = !b) (hd : ρ.lk d = some undef) (h : JT P t ρ cs K) : JT P (.ag ⟨some d, k, some (g, b)⟩ t) ρ cs K := JT.agV hg (ne_not hb) hd h
theorem JT.agU {d : Nat} {k : Kd} {g : Nat} {b : Bool} (hg : ρ.lk g = some undef) (hd : ρ.lk d = some undef) (h : JT P t ρ cs K) : JT P (.ag ⟨some d, k, some (g, b)⟩ t) ρ cs K := JT.agV hg undef_ne hd h

/-! ### New memory -/

theorem JT.new {d T : Nat} {l : List Value} (h : ∀ b, JT P t ((d, ptr b) :: ρ) (pc b T l :: cs) K) : JT P (.st ⟨some d, .new T l.toArray, none⟩ t) ρ cs K := ⟨by
  intro w hs
  simp only [runT, semG, Kd.sem]
  exact (h w.size).run _ (hs.push _)⟩

theorem JT.box {d T : Nat} {x : Operand} {l : List Value} (hx : ρ.ev x = some (.agg l.toArray)) (h : ∀ b, JT P t ((d, ptr b) :: ρ) (pc b T l :: cs) K) : JT P (.st ⟨some d, .box T x, none⟩ t) ρ cs K := ⟨by
  intro w hs
  simp only [runT, semG, Kd.sem]
  exact ⟨_, hx, (h w.size).run _ (hs.push _)⟩⟩
theorem JT.box1 {d T : Nat} {x : Operand} {v : Value} (hx : ρ.ev x = some v) (hv : isOne v = true) (h : ∀ b, JT P t ((d, ptr b) :: ρ) (pc b T [v] :: cs) K) : JT P (.st ⟨some d, .box T x, none⟩ t) ρ cs K := ⟨by
  intro w hs
  simp only [runT, semG, Kd.sem]
  refine ⟨_, hx, ?_⟩
  have : v.cells = [v].toArray := by cases v <;> simp [isOne] at hv <;> rfl
  rw [this]
  exact (h w.size).run _ (hs.push _)⟩

theorem SlT.mk {α : Type} {enc : α → List Value} {sz n : Nat} {xs : List α} {b T : Nat} {l : List Value} {h : Heap} (hs : Sat h (pc b T l :: cs)) (hl : l = (xs.map enc).flatten) (hn : xs.length = n) (hz : 0 < sz) (hL : n ≤ 140737488355328)
    (he : ∀ x ∈ xs, (enc x).length = sz ∧ ∀ v ∈ enc x, isOne v = true) : Sat h (SlT true enc sz (.slice (some ⟨b, 0, none⟩) n n) n xs :: cs) := by
  refine hs.imp ?_
  rintro S H ⟨H1, H2, h1, h2, hd, hc, hr⟩
  refine ⟨H1, H2, h1, h2, hd, ⟨⟨hz, by simpa [hn] using hL⟩, fun e he' => ?_, .inr ⟨b, T, [], [], ?_, ?_, ?_, ?_⟩⟩, hr⟩
  · obtain ⟨x, hx, rfl⟩ := List.mem_map.1 he'; exact he x hx
  · simp [hn]
  · simp [hn]
  · rw [List.append_nil, List.nil_append, ← hl]; exact hc
  · simp [hn]

/-- A slice made on the spot: its elements as they stand. -/
def unit1 (es : List (List Value)) : List Value := es.flatten

theorem JT.bsl {d T len sz : Nat} {src : List Src} {l : List Value} {es : List (List Value)} (hc : Cells ρ src l) (hes : l = es.flatten) (hn : es.length = len) (hz : 0 < sz) (hL : len ≤ 140737488355328) (he : ∀ e ∈ es, e.length = sz ∧ ∀ v ∈ e, isOne v = true)
    (h : ∀ sv, JT P t ((d, sv) :: ρ) (SlT true (fun e => e) sz sv len es :: cs) K) : JT P (.st ⟨some d, .bsl T src len, none⟩ t) ρ cs K := ⟨by
  intro w hs
  simp only [runT, semG, Kd.sem]
  refine ⟨l, hc, (h _).run _ ?_⟩
  exact SlT.mk (hs.push (.cells l.toArray T)) (by simpa using hes) hn hz hL he⟩

/-! ### Stores -/

def lput : List Value → Nat → List Value → List Value
  | l, _, [] => l
  | [], _, _ => []
  | _ :: l, 0, u :: us => u :: lput l 0 us
  | v :: l, n + 1, us => v :: lput l n us

theorem lput_spec : ∀ (l : List Value) (n : Nat) (us : List Value), n + us.length ≤ l.length → (lput l n us).length = l.length ∧ ∀ i, (lput l n us)[i]? = if n ≤ i ∧ i < n + us.length then us[i - n]? else l[i]?
  | l, n, [], _ => ⟨by cases l <;> cases n <;> rfl, fun i => by have : lput l n [] = l := by cases l <;> cases n <;> rfl
                                                                rw [this, if_neg]; simp⟩
  | [], n, u :: us, h => by simp at h
  | v :: l, 0, u :: us, h => by
    obtain ⟨h1, h2⟩ := lput_spec l 0 us (by simp at h ⊢; omega)
    refine ⟨by simp [lput, h1], fun i => ?_⟩
    cases i with
    | zero => simp [lput]
    | succ i =>
      simp only [lput, List.getElem?_cons_succ, h2, List.length_cons]
      by_cases hi : i < us.length
      · rw [if_pos (by omega), if_pos (by omega)]; simp
      · rw [if_neg (by omega), if_neg (by omega)]
  | v :: l, n + 1, u :: us, h => by
    obtain ⟨h1, h2⟩ := lput_spec l n (u :: us) (by simp at h ⊢; omega)
    refine ⟨by simp [lput, h1], fun i => ?_⟩
    cases i with
    | zero => simp [lput]
    | succ i =>
      simp only [lput, List.getElem?_cons_succ, h2, List.length_cons]
      by_cases hi : n ≤ i ∧ i < n + (us.length + 1)
      · rw [if_pos hi, if_pos (by omega)]; congr 1; omega
      · rw [if_neg hi, if_neg (by omega)]

theorem storeList_cells {b T : Nat} : ∀ (us l : List Value) (o i : Nat) (h : Heap), h[b]? = some (.cells l.toArray T (0, 0)) → o + i + us.length ≤ l.length → (∀ u ∈ us, isOne u = true) →
    ∃ h', storeList ⟨b, o, none⟩ us i h = some h' ∧ h'[b]? = some (.cells (lput l (o + i) us).toArray T (0, 0)) ∧ ∀ k, k ≠ b → h'[k]? = h[k]?
  | [], l, o, i, h, hb, _, _ => by
    have : lput l (o + i) [] = l := by cases l <;> cases (o + i) <;> rfl
    exact ⟨h, rfl, by rw [this]; exact hb, fun _ _ => rfl⟩
  | u :: us, l, o, i, h, hb, hn, ho => by
    simp only [List.length_cons] at hn
    have hlt : o + i < l.length := by omega
    have hset : (setHeapCell h ⟨b, o + i, none⟩ u)[b]? = some (.cells (l.set (o + i) u).toArray T (0, 0)) := by
      have hbl := (Array.getElem?_eq_some_iff.1 hb).1
      simp only [setHeapCell, Array.getElem?_modify, hb, if_true, Option.map_some]
      simp [List.setIfInBounds_toArray]
    have hoth : ∀ k, k ≠ b → (setHeapCell h ⟨b, o + i, none⟩ u)[k]? = h[k]? := by
      intro k hk
      simp [setHeapCell, Array.getElem?_modify, Ne.symm hk]
    obtain ⟨h', e1, e2, e3⟩ := storeList_cells us (l.set (o + i) u) o (i + 1) _ hset (by simp; omega) (fun x hx => ho x (by simp [hx]))
    refine ⟨h', ?_, ?_, fun k hk => (e3 k hk).trans (hoth k hk)⟩
    · simp only [storeList, ho u (by simp), if_true, Addr.add_none, cell_of hb]
      have hc : l.toArray[o + i]? = some l[o + i] := by simp [hlt]
      have hf : heapFrozen h ⟨b, o + i, none⟩ = false := by simp [heapFrozen, hb]
      simp only [hc, hf, Bool.false_eq_true, if_false]
      exact e1
    · rw [e2]
      congr 2
      have : lput (l.set (o + i) u) (o + (i + 1)) us = lput l (o + i) (u :: us) := by
        obtain ⟨a1, a2⟩ := lput_spec (l.set (o + i) u) (o + (i + 1)) us (by simp; omega)
        obtain ⟨b1, b2⟩ := lput_spec l (o + i) (u :: us) (by simp; omega)
        apply List.ext_getElem?
        intro j
        rw [a2, b2]
        simp only [List.length_cons]
        by_cases hj : o + (i + 1) ≤ j ∧ j < o + (i + 1) + us.length
        · rw [if_pos hj, if_pos (by omega), show j - (o + i) = (j - (o + (i + 1))) + 1 by omega]; simp
        · rw [if_neg hj]
          by_cases hj2 : j = o + i
          · subst hj2
            rw [if_pos (by omega)]; simp [hlt]
          · rw [if_neg (by omega), List.getElem?_set_ne (Ne.symm hj2)]
      rw [this]

theorem JT.st {n o b T : Nat} {a x : Operand} {v : Value} {us l : List Value} (ha : ρ.ev a = some (.pointer (some ⟨b, o, none⟩))) (hx : ρ.ev x = some v) (hv : v.cells.toList = us) (hn : us.length = n) (hu : us.all isOne = true)
    (hh : Has cs (pc b T l) r) (hl : o + n ≤ l.length) (h : JT P t ρ (pc b T (lput l o us) :: r) K) : JT P (.st ⟨none, .st n a x, none⟩ t) ρ cs K := ⟨by
  intro w hs
  simp only [runT, semG, Kd.sem]
  obtain ⟨w', h1, h2, h3⟩ := storeList_cells (b := b) (T := T) us l o 0 w (hs.pc hh) (by omega) (fun u hu' => List.all_eq_true.1 hu u hu')
  refine ⟨⟨b, o, none⟩, v, w', ha, hx, by rw [← hn, ← hv]; simp, by rw [hv]; exact h1, h.run w' ?_⟩
  exact (hs.imp hh).set h2 h3⟩

theorem JT.stp {n o b T : Nat} {a x : Operand} {v : Value} {us l l' : List Value} (ha : ρ.ev a = some (.pointer (some ⟨b, o, none⟩))) (hx : ρ.ev x = some v) (hv : v.cells.toList = us) (hn : us.length = n) (hu : us.all isOne = true)
    (hh : Has cs (pc b T l) r) (hl : o + n ≤ l.length) (hp : lput l o us = l') (h : JT P t ρ (pc b T l' :: r) K) : JT P (.st ⟨none, .st n a x, none⟩ t) ρ cs K :=
  JT.st ha hx hv hn hu hh hl (by rw [hp]; exact h)

/-- A store through a pointer that covers the whole block. -/
theorem lput_all {l us : List Value} (h : us.length = l.length) : lput l 0 us = us := by
  obtain ⟨h1, h2⟩ := lput_spec l 0 us (by omega)
  apply List.ext_getElem?
  intro i
  rw [h2]
  by_cases hi : i < us.length
  · rw [if_pos (by omega)]; simp
  · rw [if_neg (by omega), List.getElem?_eq_none (by omega), List.getElem?_eq_none (by omega)]
theorem JT.stw {n b T : Nat} {a x : Operand} {us l : List Value} (ha : ρ.ev a = some (.pointer (some ⟨b, 0, none⟩))) (hx : ρ.ev x = some (.agg us.toArray)) (hn : us.length = n) (hu : us.all isOne = true)
    (hh : Has cs (pc b T l) r) (hl : l.length = n) (h : JT P t ρ (pc b T us :: r) K) : JT P (.st ⟨none, .st n a x, none⟩ t) ρ cs K :=
  JT.st ha hx (us := us) (by simp [Value.cells]) hn hu hh (by omega) (by rw [lput_all (by omega)]; exact h)

/-! ### Calls -/

theorem JT.call {dst : Option Nat} {f : Operand} {args : List Operand} {fid : Nat} {vs : List Value} {cs0 : List Assn} {R : Value → List Assn → Prop} (hf : ρ.ev f = some (.func (.func fid) #[] #[])) (ha : ρ.evs args = some vs)
    (hfn : Meets P fid vs cs0 R) (hi : Up cs cs0) (h : ∀ v cs', R v cs' → JT P t (ρ.put dst v) cs' K) : JT P (.st ⟨dst, .call f args, none⟩ t) ρ cs K := ⟨by
  intro w hs
  simp only [runT, semG, Kd.sem]
  refine ⟨.func fid, #[], vs, hf, ha, hfn.1, fun W hW => ?_⟩
  have := hfn.2 W (by rw [hW]; exact hi _ hs)
  simp only [Array.append_empty]
  refine this.mono ?_
  rintro e w' ⟨v, cs', rfl, hkp, hs', hR⟩
  exact ⟨v, rfl, hkp, (h v cs' hR).run w'.heap hs'⟩⟩

/-- A closure. -/
theorem JT.callv {dst : Option Nat} {f : Operand} {args : List Operand} {fid : Nat} {vs cap : List Value} {cs0 : List Assn} {R : Value → List Assn → Prop} (hf : ρ.ev f = some (.func (.func fid) #[] cap.toArray)) (ha : ρ.evs args = some vs)
    (hfn : Meets P fid (vs ++ cap) cs0 R) (hi : Up cs cs0) (h : ∀ v cs', R v cs' → JT P t (ρ.put dst v) cs' K) : JT P (.st ⟨dst, .call f args, none⟩ t) ρ cs K := ⟨by
  intro w hs
  simp only [runT, semG, Kd.sem]
  refine ⟨.func fid, cap.toArray, vs, hf, ha, hfn.1, fun W hW => ?_⟩
  have := hfn.2 W (by rw [hW]; exact hi _ hs)
  simp only [List.append_toArray]
  refine this.mono ?_
  rintro e w' ⟨v, cs', rfl, hkp, hs', hR⟩
  exact ⟨v, rfl, hkp, (h v cs' hR).run w'.heap hs'⟩⟩

/-! ### Loops over a function -/

/-- A loop's yield, called so where 'cs' is known. -/
def MeetsY (P : Program) (l : Nat) (args : List Value) (cs : List Assn) (R : Value → List Assn → Prop) : Prop :=
  ∀ w : World, Sat w.heap cs → YieldW P l args w fun v w' => ∃ cs', Sat w'.heap cs' ∧ R v cs'
theorem JT.yield {dst : Option Nat} {f : Operand} {args : List Operand} {l : Nat} {vs : List Value} {cs0 : List Assn} {R : Value → List Assn → Prop} (hf : ρ.ev f = some (.func (.yield l) #[] #[])) (ha : ρ.evs args = some vs)
    (hy : MeetsY P l vs cs0 R) (hi : Up cs cs0) (h : ∀ v cs', R v cs' → JT P t (ρ.put dst v) cs' K) : JT P (.st ⟨dst, .call f args, none⟩ t) ρ cs K := ⟨by
  intro w hs
  simp only [runT, semG, Kd.sem]
  refine ⟨.yield l, #[], vs, hf, ha, rfl, fun W hW => ?_⟩
  refine YieldW.mono ?_ (hy W (by rw [hW]; exact hi _ hs))
  rintro v w' ⟨cs', hs', hR⟩
  exact (h v cs' hR).run w'.heap hs'⟩
def updE (ρ : Env) : List Nat → List Value → Env
  | p :: ps, v :: vs => updE ((p, v) :: ρ) ps vs
  | _, _ => ρ
theorem Agr.upds : ∀ {ps : List Nat} {vs : List Value} {φ : Fr} {ρ : Env}, Agr φ ρ → Agr (SL.upds φ ps vs) (updE ρ ps vs)
  | [], _, _, _, h => h
  | _ :: _, [], _, _, h => h
  | p :: ps, v :: vs, φ, ρ, h => Agr.upds (ps := ps) (vs := vs) (fun t u e => by
    rw [lk_cons] at e
    unfold upd
    by_cases hp : p = t
    · rw [if_pos hp] at e; injection e with e; rw [if_pos hp.symm]; exact e
    · rw [if_neg hp] at e; rw [if_neg (fun h => hp h.symm)]; exact h t u e)
/-- How a round may end. -/
def roundQ (A : List Assn → Prop) (B : Code → List Assn → Prop) : Exit → List Assn → Prop
  | .normal, cs => A cs
  | .ret, cs => B .ret cs
  | .exit id, cs => B (.exit id) cs
  | _, _ => False
/-- A round: the loop's variables are set, the body is carried out; what the loop itself needs ('X') stays. -/
def RoundJ (P : Program) (N : Nat) (ρ : Env) (ps : List Nat) (x y : CC) (vs : List Value) (cs : List Assn) (A : List Assn → Prop) (B : Code → List Assn → Prop) : Prop :=
  ∀ X : Assn, J P N x (updE ρ ps vs) (X :: cs) fun e ρ' cs' => e = .normal ∧ ∃ cs3, Up cs' (X :: cs3) ∧ ∀ X' : Assn, J P N y ρ' (X' :: cs3) fun e _ cs'' => ∃ cs2, Up cs'' (X' :: cs2) ∧ roundQ A B e cs2

theorem J.rangeF {N : Nat} {Q : Exit → Env → List Assn → Prop} {g : Operand} {ps : List Nat} {x y : CC} {fid : Nat} {lb : List Value} (hg : ρ.ev g = some (.func (.func fid) #[] lb.toArray))
    (h : ∀ (l : Nat) (Rd : Assn) (Dn : Code → Assn),
      (∀ (vs : List Value) (cs1 : List Assn) (A : List Assn → Prop) (B : Code → List Assn → Prop), vs.length = ps.length → RoundJ P N ρ ps x y vs cs1 A B →
        MeetsY P l vs (Rd :: cs1) fun v cs' => (v = .bool true ∧ ∃ cs2, cs' = Rd :: cs2 ∧ A cs2) ∨ (v = .bool false ∧ ∃ c cs2, cs' = Dn c :: cs2 ∧ B c cs2)) →
      Meets P fid (.func (.yield l) #[] #[] :: lb) (Rd :: cs) fun _ cs' => (∃ cs2, cs' = Rd :: cs2 ∧ Q .normal ρ cs2) ∨ ∃ c e cs2, exitOf c = some e ∧ cs' = Dn c :: cs2 ∧ Q e ρ cs2) :
    J P N (.rangeF g ps x y) ρ cs Q := ⟨by
  intro φ hs hp hsat
  refine ⟨fid, lb.toArray, evF hs hg, fun r l h1 e1 e2 hrounds => ?_⟩
  have hM := h l (pt l (.loop (Loop.rdy r))) (fun c => pt l (.loop (Loop.end_ r c))) ?rounds
  case rounds =>
    intro vs cs1 A B hlen hJ w hw
    refine hrounds vs w.heap (fun v h' => ∃ cs', Sat h' cs' ∧ ((v = .bool true ∧ ∃ cs2, cs' = pt l (.loop (Loop.rdy r)) :: cs2 ∧ A cs2) ∨ (v = .bool false ∧ ∃ c cs2, cs' = pt l (.loop (Loop.end_ r c)) :: cs2 ∧ B c cs2))) hlen hw.get ?_ w rfl
    refine wpC_mono (cc := x) ?_ ((hJ (pt l (.loop (Loop.rdy r)))).run _ (Agr.upds hs) w.heap hw)
    rintro e φ' h' ⟨ρ', cs', hA, hs', rfl, cs3, hu, hJy⟩
    have hs3 := hu _ hs'
    refine ⟨rfl, hs3.get, ?_⟩
    have hlt := (Array.getElem?_eq_some_iff.1 hs3.get).1
    have hs4 : Sat (h'.setIfInBounds l (.loop (Loop.bsy r))) (pt l (.loop (Loop.bsy r)) :: cs3) := hs3.set (by simp [hlt]) (fun k hk => Array.getElem?_setIfInBounds_ne (Ne.symm hk))
    refine wpC_mono (cc := y) ?_ ((hJy (pt l (.loop (Loop.bsy r)))).run φ' hA _ hs4)
    rintro e φ'' h'' ⟨ρ'', cs'', _, hs'', cs2, hu2, hm⟩
    have h2 := hu2 _ hs''
    have hlt2 := (Array.getElem?_eq_some_iff.1 h2.get).1
    have hset : ∀ r', Sat (h''.setIfInBounds l (.loop r')) (pt l (.loop r') :: cs2) := fun r' => h2.set (by simp [hlt2]) (fun k hk => Array.getElem?_setIfInBounds_ne (Ne.symm hk))
    cases e with
    | normal => exact ⟨h2.get, _, hset _, .inl ⟨rfl, cs2, rfl, hm⟩⟩
    | ret => exact ⟨h2.get, _, hset _, .inr ⟨rfl, _, cs2, rfl, hm⟩⟩
    | exit id => exact ⟨h2.get, _, hset _, .inr ⟨rfl, _, cs2, rfl, hm⟩⟩
    | _ => exact hm.elim
  subst e2
  have h0 : Sat ((hp.push (.deferred (some []))).push (.loop (Loop.rdy r))) (pt l (.loop (Loop.rdy r)) :: cs) := by
    have := (hsat.pushD (.deferred (some []))).push (.loop (Loop.rdy r))
    simp only [Array.size_push] at this
    rw [e1]; exact this
  refine ⟨hM.1, fun W hW => ?_⟩
  have := hM.2 W (by rw [hW]; exact h0)
  simp only [List.append_toArray, List.cons_append, List.nil_append] at this ⊢
  refine this.mono ?_
  rintro e w' ⟨v, cs', rfl, hkp, hs', hR⟩
  refine ⟨v, rfl, hkp, ?_⟩
  rcases hR with ⟨cs2, rfl, hq⟩ | ⟨c, e, cs2, hce, rfl, hq⟩
  · have hlt2 := (Array.getElem?_eq_some_iff.1 hs'.get).1
    exact .inl ⟨hs'.get, ρ, cs2, hs, (hs'.set (b := l) (o' := .loop { Loop.rdy r with state := .exhausted }) (by simp [hlt2]) (fun k hk => Array.getElem?_setIfInBounds_ne (Ne.symm hk))).imp Imp.drop, hq⟩
  · have hlt2 := (Array.getElem?_eq_some_iff.1 hs'.get).1
    exact .inr ⟨c, e, hce, hs'.get, ρ, cs2, hs, (hs'.set (b := l) (o' := .loop { Loop.end_ r c with state := .exhausted }) (by simp [hlt2]) (fun k hk => Array.getElem?_setIfInBounds_ne (Ne.symm hk))).imp Imp.drop, hq⟩⟩

end
end Go.SL

set_option linter.unusedSimpArgs false
set_option linter.unusedVariables false
set_option linter.unusedSectionVars false
namespace Go.SL
open Go

section
variable {P : Program} {ρ : Env} {cs r : List Assn} {t : Tr} {K : Env → List Assn → Prop}

theorem flat_len {es : List (List Value)} {sz : Nat} (h : ∀ e ∈ es, e.length = sz) : es.flatten.length = es.length * sz := by
  induction es with
  | nil => simp
  | cons e es ih =>
    have h1 := h e (by simp)
    have h2 := ih fun x hx => h x (by simp [hx])
    simp only [List.flatten_cons, List.length_append, List.length_cons, h1, h2, Nat.succ_mul]; omega

theorem flat_drop {sz : Nat} : ∀ {es : List (List Value)} (h : ∀ e ∈ es, e.length = sz) (k : Nat), k ≤ es.length → es.flatten.drop (k * sz) = (es.drop k).flatten
  | es, _, 0, _ => by simp
  | [], _, k + 1, hk => by simp at hk
  | e :: es, h, k + 1, hk => by
    have h1 := h e (by simp)
    rw [List.flatten_cons, List.drop_append, Nat.succ_mul, List.drop_eq_nil_of_le (by omega), List.nil_append, show k * sz + sz - e.length = k * sz by omega, List.drop_succ_cons]
    exact flat_drop (fun x hx => h x (by simp [hx])) k (by simpa using hk)

theorem flat_take {sz : Nat} : ∀ {es : List (List Value)} (h : ∀ e ∈ es, e.length = sz) (k : Nat), k ≤ es.length → es.flatten.take (k * sz) = (es.take k).flatten
  | es, _, 0, _ => by simp
  | [], _, k + 1, hk => by simp at hk
  | e :: es, h, k + 1, hk => by
    have h1 := h e (by simp)
    rw [List.flatten_cons, List.take_append, Nat.succ_mul, List.take_of_length_le (by omega), show k * sz + sz - e.length = k * sz by omega, List.take_succ_cons, List.flatten_cons]
    rw [flat_take (fun x hx => h x (by simp [hx])) k (by simpa using hk)]

/-- The cells of a slice's elements. -/
theorem Sat.slice {α : Type} {h : Heap} {m : Bool} {enc : α → List Value} {sz c : Nat} {sv : Value} {xs : List α} (hs : Sat h cs) (hh : Has cs (SlT m enc sz sv c xs) r) :
    0 < sz ∧ (∀ e ∈ xs.map enc, e.length = sz ∧ ∀ v ∈ e, isOne v = true) ∧ xs.length ≤ c ∧ ∃ a, sv = .slice a xs.length c ∧ firstList h sz xs.length sv = some (xs.map enc).flatten := by
  obtain ⟨S, H, hS, hH, hz, h0, hc⟩ := hs.mem hh
  have hl : (xs.map enc).flatten.length = xs.length * sz := by rw [flat_len fun e he => (h0 e he).1]; simp
  refine ⟨hz.1, h0, ?_⟩
  cases m with
  | true =>
    rcases hc with ⟨h1, h2, h3⟩ | ⟨b, T, pre, rest, h1, h2, h3, h4⟩
    · have : xs = [] := by simpa using h2
      subst this; subst h1; subst h3
      exact ⟨by simp, none, by simp, rfl⟩
    · have hb := hH _ _ h3
      refine ⟨by simpa using h2, _, by simpa using h1, ?_⟩
      subst h1
      simp only [firstList]
      rw [cells_of hb _ 0 (by simp only [List.size_toArray, List.length_append]; omega)]
      congr 1
      simp only [List.toList_toArray, Nat.add_zero, List.drop_left]
      rw [List.take_append_of_le_length (by omega), List.take_of_length_le (by omega)]
  | false =>
    rcases hc with ⟨h2, a, h1, h3⟩ | ⟨b, off', T, fz, C, h1, h2, h3, h4⟩
    · have : xs = [] := by simpa using h2
      subst this; subst h1
      refine ⟨by simp, a, by simp, ?_⟩
      cases a <;> simp [firstList, heapCells]
    · have hb := hS _ _ h3
      refine ⟨by simpa using h2, _, by simpa using h1, ?_⟩
      subst h1
      simp only [firstList]
      have hCs : off' + (xs.map enc).flatten.length ≤ C.size ∨ (xs.map enc).flatten.length = 0 := by
        rcases Nat.eq_zero_or_pos (xs.map enc).flatten.length with e | e
        · exact .inr e
        · have := h4 ((xs.map enc).flatten.length - 1) (by omega)
          rw [List.getElem?_eq_getElem (by omega)] at this
          have := (Array.getElem?_eq_some_iff.1 this).1
          exact .inl (by omega)
      rcases hCs with hCs | h00
      · rw [cells_of hb _ 0 (by omega)]
        congr 1
        simp only [Nat.add_zero]
        apply List.ext_getElem?
        intro i
        rw [List.getElem?_take]
        by_cases hi : i < xs.length * sz
        · rw [if_pos hi, List.getElem?_drop, Array.getElem?_toList, h4 i (by omega)]
        · rw [if_neg hi, List.getElem?_eq_none (by omega)]
      · have hx0 : xs.length * sz = 0 := by omega
        have : (xs.map enc).flatten = [] := List.length_eq_zero_iff.1 h00
        rw [hx0, this]; rfl

/-! ### A slice that is never written again -/

theorem Sat.freezeS {α : Type} {h : Heap} {enc : α → List Value} {sz c : Nat} {sv : Value} {xs : List α} (hs : Sat h (SlT true enc sz sv c xs :: cs)) : Sat h (SlT false enc sz sv c xs :: cs) := by
  obtain ⟨S, H, hS, hH, hd, H1, H2, l1, l2, hd', hc, hr⟩ := hs
  obtain ⟨hz, h0, hc⟩ := hc
  rcases hc with ⟨h1, h2, h3⟩ | ⟨b, T, pre, rest, h1, h2, h3, h4⟩
  · exact ⟨S, H, hS, hH, hd, H1, H2, l1, l2, hd', ⟨hz, h0, .inl ⟨h2, none, by rw [h1, h3], fun _ => h3⟩⟩, hr⟩
  · have hpt : Sat h (pt b (.cells (pre ++ ((xs.map enc).flatten ++ rest)).toArray T (0, 0)) :: cs) := ⟨S, H, hS, hH, hd, H1, H2, l1, l2, hd', h3, hr⟩
    refine hpt.freeze.imp ?_
    rintro S H ⟨H1, H2, l1, l2, hd', hc, hr⟩
    refine ⟨H1, H2, l1, l2, hd', ⟨hz, h0, .inr ⟨b, pre.length, T, (0, 0), _, h1, h2, hc, fun i hi => ?_⟩⟩, hr⟩
    simp only [List.getElem?_toArray]
    rw [List.getElem?_append_right (Nat.le_add_right _ _), Nat.add_sub_cancel_left, List.getElem?_append_left hi]

theorem Up.frz {α : Type} {enc : α → List Value} {sz c : Nat} {sv : Value} {xs : List α} {ds : List Assn} (hh : Has cs (SlT true enc sz sv c xs) r) (h : Up (SlT false enc sz sv c xs :: r) ds) : Up cs ds :=
  fun w hs => h w (Sat.freezeS (hs.imp hh))
theorem JT.frz {α : Type} {enc : α → List Value} {sz c : Nat} {sv : Value} {xs : List α} (hh : Has cs (SlT true enc sz sv c xs) r) (h : JT P t ρ (SlT false enc sz sv c xs :: r) K) : JT P t ρ cs K :=
  JT.up (Up.frz hh (Up.refl _)) h
theorem J.frz {N : Nat} {cc : CC} {Q : Exit → Env → List Assn → Prop} {α : Type} {enc : α → List Value} {sz c : Nat} {sv : Value} {xs : List α} (hh : Has cs (SlT true enc sz sv c xs) r) (h : J P N cc ρ (SlT false enc sz sv c xs :: r) Q) : J P N cc ρ cs Q :=
  J.up (Up.frz hh (Up.refl _)) h
theorem Up.frzPc {b T : Nat} {l : List Value} {ds : List Assn} (hh : Has cs (pc b T l) r) (h : Up (rc b T l :: r) ds) : Up cs ds :=
  fun w hs => h w (Sat.freeze (hs.imp hh))

/-- A slice that can be read. -/
def Rd {α : Type} (cs : List Assn) (enc : α → List Value) (sz c : Nat) (sv : Value) (xs : List α) : Prop := ∀ h, Sat h cs → Sat h [SlT false enc sz sv c xs]
theorem Rd.of {α : Type} {m : Bool} {enc : α → List Value} {sz c : Nat} {sv : Value} {xs : List α} (hh : Has cs (SlT m enc sz sv c xs) r) : Rd cs enc sz c sv xs := by
  intro h hs
  cases m with
  | true => exact (Sat.freezeS (hs.imp hh)).imp (Imp.cons (Imp.nil _))
  | false => exact (hs.imp hh).imp (Imp.cons (Imp.nil _))
theorem Rd.there {α : Type} {enc : α → List Value} {sz c : Nat} {sv : Value} {xs : List α} {d : Assn} (hh : Rd cs enc sz c sv xs) : Rd (d :: cs) enc sz c sv xs := fun h hs => hh h (hs.imp Imp.drop)

/-- The empty slice, whoever has it. -/
theorem Sat.nilS {α : Type} {enc : α → List Value} {sz : Nat} (m : Bool) (hz : 0 < sz) {h : Heap} (hs : Sat h cs) : Sat h (SlT m enc sz (.slice none 0 0) 0 ([] : List α) :: cs) := by
  refine hs.imp fun S H h => ⟨fun _ => none, H, fun b o e => (by cases e), Hp.le_refl _, fun b => .inl rfl, ⟨⟨hz, by simp⟩, by simp, ?_⟩, h⟩
  cases m
  · exact .inl ⟨rfl, none, rfl, fun _ => rfl⟩
  · exact .inl ⟨rfl, rfl, rfl⟩
theorem Up.nilS {α : Type} {enc : α → List Value} {sz : Nat} (m : Bool) (hz : 0 < sz) {ds : List Assn} (h : Up (SlT m enc sz (.slice none 0 0) 0 ([] : List α) :: cs) ds) : Up cs ds := fun w hs => h w (hs.nilS m hz)
theorem J.nilS {N : Nat} {cc : CC} {Q : Exit → Env → List Assn → Prop} {α : Type} (enc : α → List Value) (sz : Nat) (m : Bool) (hz : 0 < sz) (h : J P N cc ρ (SlT m enc sz (.slice none 0 0) 0 ([] : List α) :: cs) Q) : J P N cc ρ cs Q :=
  J.up (Up.nilS m hz (Up.refl _)) h
theorem JT.nilS {α : Type} (enc : α → List Value) (sz : Nat) (m : Bool) (hz : 0 < sz) (h : JT P t ρ (SlT m enc sz (.slice none 0 0) 0 ([] : List α) :: cs) K) : JT P t ρ cs K :=
  JT.up (Up.nilS m hz (Up.refl _)) h

/-! ### A part of a slice -/

/-- The bound's value. -/
inductive Bd (ρ : Env) (d : Nat) : Option Operand → Nat → Prop
  | no : Bd ρ d none d
  | so {o k n} (h : ρ.ev o = some (.int k ((n : Nat) : Int))) : Bd ρ d (some o) n

theorem Bd.lo {d n : Nat} {x : Option Operand} (h : Bd ρ d x n) : sliceLo x ρ d = some n := by
  cases h with
  | no => rfl
  | so h => simp [sliceLo, h]

theorem sub_spec {α : Type} {enc : α → List Value} {sz : Nat} {xs : List α} (h0 : ∀ e ∈ xs.map enc, e.length = sz ∧ ∀ v ∈ e, isOne v = true) (l u : Nat) :
    ∀ e ∈ ((xs.take u).drop l).map enc, e.length = sz ∧ ∀ v ∈ e, isOne v = true := by
  intro e he
  obtain ⟨x, hx, rfl⟩ := List.mem_map.1 he
  exact h0 _ (List.mem_map.2 ⟨x, List.mem_of_mem_take (List.mem_of_mem_drop hx), rfl⟩)

/-- What a part of a slice is. -/
def partV (a : Option Addr) (sz l u m : Nat) : Value := .slice (if m = l then a else a.map (·.add (l * sz))) (u - l) (m - l)

theorem Sat.part {α : Type} {sz c l u m : Nat} {enc : α → List Value} {a : Option Addr} {xs : List α} {w : Heap} (hs : Sat w cs) (hh : Has cs (SlT false enc sz (.slice a xs.length c) c xs) r)
    (h1 : l ≤ u) (h2 : u ≤ xs.length) (h3 : u ≤ m) (h4 : m ≤ c) : Sat w (SlT false enc sz (partV a sz l u m) (m - l) ((xs.take u).drop l) :: cs) := by
  obtain ⟨hz, h0, hlc, _, _, hf⟩ := hs.slice hh
  unfold partV
  have hlen : ((xs.take u).drop l).length = u - l := by simp; omega
  refine hs.imp ?_
  intro S H hst
  obtain ⟨H1, H2, l1, l2, hd, ⟨hzz, _, hc⟩, hr⟩ := hh S H hst
  refine ⟨fun _ => none, H, fun b o e => (by cases e), Hp.le_refl _, fun b => .inl rfl, ⟨⟨hz, by have := hzz.2; simp at this ⊢; omega⟩, sub_spec h0 l u, ?_⟩, hst⟩
  · by_cases hul : u = l
    · refine .inl ⟨by simp; omega, if m = l then a else a.map (·.add (l * sz)), by simp [hul], fun hn => ?_⟩
      by_cases hml : m = l
      · omega
      · rw [if_neg hml] at hn
        cases a with
        | none =>
          rcases hc with ⟨h5, a', h6, h7⟩ | ⟨b, off', T, fz, C, h6, h7, h8, h9⟩
          · simp at h6; have := h7 h6.1.symm; omega
          · simp at h6
        | some a => simp at hn
    · have hml : ¬ m = l := by omega
      rcases hc with ⟨h5, a', h6, h7⟩ | ⟨b, off', T, fz, C, h6, h7, h8, h9⟩
      · have : xs = [] := by simpa using h5
        subst this; simp at h2; omega
      · obtain ⟨rfl, _⟩ := Value.slice.inj h6
        refine .inr ⟨b, off' + l * sz, T, fz, C, ?_, ?_, h8, fun i hi => ?_⟩
        · simp only [if_neg hml, Option.map_some, Addr.add_none, List.length_map, hlen]
        · simp only [List.length_map, hlen]; omega
        · have e1 : ((xs.take u).drop l).map enc = ((xs.map enc).take u).drop l := by simp [List.map_take, List.map_drop]
          have hlens : ∀ e ∈ xs.map enc, e.length = sz := fun e he => (h0 e he).1
          have hlens' : ∀ e ∈ (xs.map enc).take u, e.length = sz := fun e he => hlens e (List.mem_of_mem_take he)
          rw [e1] at hi ⊢
          rw [← flat_drop hlens' l (by simp; omega), ← flat_take hlens u (by simpa using h2)] at hi ⊢
          simp only [List.length_drop, List.length_take] at hi
          rw [List.getElem?_drop, List.getElem?_take, if_pos (by omega), ← h9 _ (by omega), Nat.add_assoc]

/-- A part of a slice that is never written. -/
theorem JT.slS {α : Type} {d sz c l u m : Nat} {x : Operand} {lo hi mx : Option Operand} {enc : α → List Value} {sv : Value} {xs : List α} (hx : ρ.ev x = some sv) (hh : Has cs (SlT false enc sz sv c xs) r)
    (hm : Bd ρ c mx m) (hu : Bd ρ xs.length hi u) (hl : Bd ρ 0 lo l) (hmh : mx.isSome = true → hi.isSome = true) (h1 : l ≤ u) (h2 : u ≤ xs.length) (h3 : u ≤ m) (h4 : m ≤ c)
    (h : ∀ sv', JT P t ((d, sv') :: ρ) (SlT false enc sz sv' (m - l) ((xs.take u).drop l) :: cs) K) : JT P (.st ⟨some d, .sl sz x lo hi mx, none⟩ t) ρ cs K := ⟨by
  intro w hs
  obtain ⟨hz, h0, hlc, a, rfl, hf⟩ := hs.slice hh
  simp only [runT, semG, Kd.sem]
  exact ⟨a, xs.length, c, l, u, m, hx, hm.lo, h4, hmh, hu.lo, fun _ => h3, hl.lo, fun _ => h1, (h _).run w (hs.part hh h1 h2 h3 h4)⟩⟩

/-- A slice of one's own, looked into. -/
theorem Sat.ownS {α : Type} {enc : α → List Value} {sz c : Nat} {sv : Value} {xs : List α} {h : Heap} (hs : Sat h (SlT true enc sz sv c xs :: cs)) :
    (sv = .slice none 0 0 ∧ xs = [] ∧ c = 0) ∨ ∃ b T pre rest, sv = .slice (some ⟨b, pre.length, none⟩) xs.length c ∧ xs.length ≤ c ∧ (c - xs.length) * sz ≤ rest.length ∧
      Sat h (pt b (.cells (pre ++ ((xs.map enc).flatten ++ rest)).toArray T (0, 0)) :: cs) := by
  obtain ⟨S, H, hS, hH, hd, H1, H2, l1, l2, hd', ⟨hz, h0, hc⟩, hr⟩ := hs
  rcases hc with ⟨h1, h2, h3⟩ | ⟨b, T, pre, rest, h1, h2, h3, h4⟩
  · exact .inl ⟨h1, by simpa using h2, h3⟩
  · exact .inr ⟨b, T, pre, rest, by simpa using h1, by simpa using h2, by simpa using h4, ⟨S, H, hS, hH, hd, H1, H2, l1, l2, hd', h3, hr⟩⟩

theorem Sat.mkOwn {α : Type} {enc : α → List Value} {sz c n : Nat} {xs : List α} {b T : Nat} {pre rest l : List Value} {h : Heap} (hs : Sat h (pt b (.cells l.toArray T (0, 0)) :: cs)) (hz : 0 < sz) (hL : xs.length ≤ 140737488355328)
    (h0 : ∀ e ∈ xs.map enc, e.length = sz ∧ ∀ v ∈ e, isOne v = true) (hl : l = pre ++ ((xs.map enc).flatten ++ rest)) (hn : n = xs.length) (hc : xs.length ≤ c) (hr : (c - xs.length) * sz ≤ rest.length) :
    Sat h (SlT true enc sz (.slice (some ⟨b, pre.length, none⟩) n c) c xs :: cs) := by
  subst hl hn
  refine hs.imp ?_
  rintro S H ⟨H1, H2, l1, l2, hd, hp, hst⟩
  exact ⟨H1, H2, l1, l2, hd, ⟨⟨hz, by simpa using hL⟩, h0, .inr ⟨b, T, pre, rest, by simp, by simpa using hc, hp, by simpa using hr⟩⟩, hst⟩

/-- A part of a slice of one's own takes its place. -/
theorem JT.slO {α : Type} {d sz c l u m : Nat} {x : Operand} {lo hi mx : Option Operand} {enc : α → List Value} {sv : Value} {xs : List α} (hx : ρ.ev x = some sv) (hh : Has cs (SlT true enc sz sv c xs) r)
    (hm : Bd ρ c mx m) (hu : Bd ρ xs.length hi u) (hl : Bd ρ 0 lo l) (hmh : mx.isSome = true → hi.isSome = true) (h1 : l ≤ u) (h2 : u ≤ xs.length) (h3 : u ≤ m) (h4 : m ≤ c)
    (h : ∀ sv', JT P t ((d, sv') :: ρ) (SlT true enc sz sv' (m - l) ((xs.take u).drop l) :: r) K) : JT P (.st ⟨some d, .sl sz x lo hi mx, none⟩ t) ρ cs K := ⟨by
  intro w hs
  obtain ⟨hz, h0, hlc, a, rfl, hf⟩ := hs.slice hh
  simp only [runT, semG, Kd.sem]
  refine ⟨a, xs.length, c, l, u, m, hx, hm.lo, h4, hmh, hu.lo, fun _ => h3, hl.lo, fun _ => h1, (h _).run w ?_⟩
  have hlen : ((xs.take u).drop l).length = u - l := by simp; omega
  have h0' := sub_spec h0 l u
  have hlens : ∀ e ∈ xs.map enc, e.length = sz := fun e he => (h0 e he).1
  rcases (hs.imp hh).ownS with ⟨e1, e2, e3⟩ | ⟨b, T, pre, rest, e1, e2, e3, hs'⟩
  · subst e2 e3
    simp at h2
    obtain rfl : u = 0 := by omega
    obtain rfl : l = 0 := by omega
    obtain rfl : m = 0 := by omega
    obtain ⟨rfl, _⟩ := Value.slice.inj e1
    exact (hs.imp (Imp.trans hh Imp.drop)).nilS true hz
  · obtain ⟨rfl, _⟩ := Value.slice.inj e1
    by_cases hml : m = l
    · subst hml
      obtain rfl : u = m := by omega
      have hnil : (xs.take u).drop u = [] := by simp
      rw [if_pos rfl, hnil, Nat.sub_self]
      exact hs'.mkOwn (xs := ([] : List α)) (rest := (xs.map enc).flatten ++ rest) hz (by simp) (by simp) (by simp) rfl (by simp) (by simp)
    · rw [if_neg hml]
      simp only [Option.map_some, Addr.add_none]
      have e5 : (xs.map enc).flatten = ((xs.take l).map enc).flatten ++ ((((xs.take u).drop l).map enc).flatten ++ ((xs.drop u).map enc).flatten) := by
        rw [← List.flatten_append, ← List.flatten_append, ← List.map_append, ← List.map_append]
        congr 2
        have : xs.take l = (xs.take u).take l := by rw [List.take_take, Nat.min_eq_left h1]
        rw [← List.append_assoc, this, List.take_append_drop, List.take_append_drop]
      have e6 : pre.length + l * sz = (pre ++ ((xs.take l).map enc).flatten).length := by
        rw [List.length_append, flat_len (sz := sz)]
        · simp only [List.length_map, List.length_take]; rw [Nat.min_eq_left (by omega)]
        · intro e he
          obtain ⟨y, hy, rfl⟩ := List.mem_map.1 he
          exact (h0 _ (List.mem_map.2 ⟨y, List.mem_of_mem_take hy, rfl⟩)).1
      rw [e6]
      have e7 : (((xs.drop u).map enc).flatten).length = (xs.length - u) * sz := by
        rw [flat_len (sz := sz)]
        · simp
        · intro e he
          obtain ⟨y, hy, rfl⟩ := List.mem_map.1 he
          exact (h0 _ (List.mem_map.2 ⟨y, List.mem_of_mem_drop hy, rfl⟩)).1
      refine hs'.mkOwn (pre := pre ++ ((xs.take l).map enc).flatten) (rest := ((xs.drop u).map enc).flatten ++ rest) hz (by have := hs.lenF hh; omega) h0' ?_ (by omega) (by omega) ?_
      · rw [e5]; simp [List.append_assoc]
      · rw [hlen, List.length_append, e7]
        have : (m - l - (u - l)) ≤ (xs.length - u) + (c - xs.length) := by omega
        have := Nat.mul_le_mul_right sz this
        rw [Nat.add_mul] at this
        omega⟩

theorem lput_app : ∀ (p us q s : List Value), us.length = q.length → lput (p ++ (q ++ s)) p.length us = p ++ (us ++ s)
  | p, us, q, s, h => by
    obtain ⟨h1, h2⟩ := lput_spec (p ++ (q ++ s)) p.length us (by simp; omega)
    apply List.ext_getElem?
    intro i
    rw [h2]
    by_cases hi : i < p.length
    · rw [if_neg (by omega), List.getElem?_append_left hi, List.getElem?_append_left hi]
    · rw [List.getElem?_append_right (l₁ := p) (l₂ := q ++ s) (by omega), List.getElem?_append_right (l₁ := p) (l₂ := us ++ s) (by omega)]
      by_cases hj : i < p.length + us.length
      · rw [if_pos (by omega), List.getElem?_append_left (l₁ := us) (by omega)]
      · rw [if_neg (by omega), List.getElem?_append_right (l₁ := q) (by omega), List.getElem?_append_right (l₁ := us) (by omega), h]

theorem lput_mid (p us q s : List Value) (o : Nat) (h : o + us.length ≤ q.length) : lput (p ++ (q ++ s)) (p.length + o) us = p ++ (lput q o us ++ s) := by
  obtain ⟨h1, h2⟩ := lput_spec (p ++ (q ++ s)) (p.length + o) us (by simp; omega)
  obtain ⟨h3, h4⟩ := lput_spec q o us h
  apply List.ext_getElem?
  intro i
  rw [h2]
  by_cases hi : i < p.length
  · rw [if_neg (by omega), List.getElem?_append_left hi, List.getElem?_append_left hi]
  · rw [List.getElem?_append_right (l₁ := p) (l₂ := q ++ s) (by omega), List.getElem?_append_right (l₁ := p) (l₂ := lput q o us ++ s) (by omega)]
    by_cases hq : i - p.length < q.length
    · rw [List.getElem?_append_left (l₁ := q) hq, List.getElem?_append_left (l₁ := lput q o us) (by omega), h4]
      by_cases hj : p.length + o ≤ i ∧ i < p.length + o + us.length
      · rw [if_pos hj, if_pos (by omega)]; congr 1; omega
      · rw [if_neg hj, if_neg (by omega)]
    · rw [if_neg (by omega), List.getElem?_append_right (l₁ := q) (by omega), List.getElem?_append_right (l₁ := lput q o us) (by omega), h3]

/-- What an append comes to, where it makes a new row. -/
theorem Sat.fresh {α : Type} {enc : α → List Value} {sz c' T : Nat} {zs : List α} {us vs : List Value} {zero : Array Value} {h : Heap} (hs : Sat h cs) (hz : 0 < sz) (hL : zs.length ≤ 140737488355328) (h0 : ∀ e ∈ zs.map enc, e.length = sz ∧ ∀ v ∈ e, isOne v = true)
    (hu : us ++ vs = (zs.map enc).flatten) (hzero : zero.size = sz) (hc : zs.length ≤ c') {n : Nat} (hn : n = zs.length) :
    Sat (h.push (.cells (us.toArray ++ vs.toArray ++ Builtin.zeroCells zero (c' - n)) T)) (SlT true enc sz (.slice (some ⟨h.size, 0, none⟩) n c') c' zs :: cs) := by
  subst hn
  have hp := hs.push (.cells (us.toArray ++ vs.toArray ++ Builtin.zeroCells zero (c' - zs.length)) T)
  have : (us.toArray ++ vs.toArray ++ Builtin.zeroCells zero (c' - zs.length)) = ([] ++ ((zs.map enc).flatten ++ (Builtin.zeroCells zero (c' - zs.length)).toList)).toArray := by
    rw [← hu]; simp
  rw [this] at hp ⊢
  exact hp.mkOwn (pre := []) hz hL h0 rfl rfl hc (by simp [Builtin.zeroCells, hzero])

/-- What is appended to a slice of one's own. -/
theorem JT.apO {α β : Type} {d T sz bytes c c1 : Nat} {zero : Array Value} {x y : Operand} {enc : α → List Value} {enc' : β → List Value} {sv sw : Value} {xs ys : List α} {zs : List β}
    (hx : ρ.ev x = some sv) (hh : Has cs (SlT true enc sz sv c xs) r) (hy : ρ.ev y = some sw) (hg : Rd r enc' sz c1 sw zs) (he : zs.map enc' = ys.map enc) (hzero : zero.size = sz) (hb0 : 0 < bytes)
    (hb : (xs.length + ys.length) * bytes ≤ 140737488355328)
    (h : ∀ sv' c', xs.length + ys.length ≤ c' → JT P t ((d, sv') :: ρ) (SlT true enc sz sv' c' (xs ++ ys) :: r) K) : JT P (.st ⟨some d, .ap T sz bytes zero x y, none⟩ t) ρ cs K := ⟨by
  intro w hs
  obtain ⟨hz, h0, hlc, a, rfl, hf⟩ := hs.slice hh
  have hsr : Sat w r := hs.imp (Imp.trans hh Imp.drop)
  obtain ⟨_, g0, glc, a1, rfl, gf⟩ := (hg _ hsr).slice Has.here
  have hlen : zs.length = ys.length := by have := congrArg List.length he; simpa using this
  have hL : (xs ++ ys).length ≤ 140737488355328 := by
    rw [List.length_append]
    exact Nat.le_trans (Nat.le_mul_of_pos_right _ hb0) hb
  rw [he] at g0 gf
  have h00 : ∀ e ∈ (xs ++ ys).map enc, e.length = sz ∧ ∀ v ∈ e, isOne v = true := by
    intro e hm
    rw [List.map_append] at hm
    rcases List.mem_append.1 hm with hm | hm
    · exact h0 e hm
    · exact g0 e hm
  have hus : ((xs ++ ys).map enc).flatten = (xs.map enc).flatten ++ (ys.map enc).flatten := by simp
  simp only [runT, semG, Kd.sem]
  refine ⟨a, xs.length, c, .slice a1 zs.length c1, zs.length, hx, hy, rfl, by rw [hlen]; exact hb, hb0, ?_⟩
  by_cases hfit : xs.length + zs.length ≤ c
  · rw [if_pos hfit]
    rcases (hs.imp hh).ownS with ⟨e1, e2, e3⟩ | ⟨b, T', pre, rest, e1, e2, e3, hs'⟩
    · subst e2 e3
      have hz0 : zs.length = 0 := by simp at hfit; exact hfit ▸ rfl
      have hy0 : ys = [] := List.length_eq_zero_iff.1 (by omega)
      subst hy0
      obtain ⟨rfl, _⟩ := Value.slice.inj e1
      refine ⟨_, w, gf, rfl, ?_⟩
      have hz1 : zs = [] := List.length_eq_zero_iff.1 hz0
      subst hz1
      exact (h _ 0 (by simp)).run w (hsr.nilS true hz)
    · obtain ⟨rfl, _⟩ := Value.slice.inj e1
      have l1 : ((xs.map enc).flatten).length = xs.length * sz := by rw [flat_len fun e he => (h0 e he).1]; simp
      have l2 : ((ys.map enc).flatten).length = ys.length * sz := by rw [flat_len fun e he => (g0 e he).1]; simp
      have hroom : ys.length * sz ≤ rest.length := by
        have : ys.length ≤ c - xs.length := by omega
        have := Nat.mul_le_mul_right sz this
        omega
      obtain ⟨h', s1, s2, s3⟩ := storeList_cells (b := b) (T := T') ((ys.map enc).flatten) (pre ++ ((xs.map enc).flatten ++ rest)) (pre.length + xs.length * sz) 0 w hs'.get
        (by simp only [List.length_append]; omega) (by
          intro u hu
          obtain ⟨e, he1, he2⟩ := List.mem_flatten.1 hu
          exact (g0 e he1).2 u he2)
      refine ⟨_, h', gf, by simp only [storeAt, Addr.add_none]; exact s1, ?_⟩
      rw [show xs.length + zs.length = xs.length + ys.length by omega]
      refine (h _ c (by omega)).run h' ?_
      have hset := hs'.set s2 s3
      refine hset.mkOwn (rest := rest.drop (ys.length * sz)) hz hL h00 ?_ (by simp) (by simp; omega) ?_
      · have e5 : pre.length + xs.length * sz + 0 = (pre ++ (xs.map enc).flatten).length := by simp [l1]
        rw [e5, show pre ++ ((xs.map enc).flatten ++ rest) = (pre ++ (xs.map enc).flatten) ++ (rest.take (ys.length * sz) ++ rest.drop (ys.length * sz)) by simp [List.append_assoc]]
        rw [lput_app _ _ _ _ (by rw [l2, List.length_take]; omega), hus]
        simp [List.append_assoc]
      · rw [List.length_append, List.length_drop]
        have : c - (xs.length + ys.length) + ys.length ≤ c - xs.length := by omega
        have := Nat.mul_le_mul_right sz this
        rw [Nat.add_mul] at this
        omega
  · rw [if_neg hfit]
    refine ⟨_, _, hf, gf, fun c' hc' => ?_⟩
    rw [show xs.length + zs.length = xs.length + ys.length by omega]
    refine (h _ c' (by omega)).run _ ?_
    exact hsr.fresh hz hL h00 hus.symm hzero (by simp; omega) (by simp)⟩

/-- What is appended to a slice that is full: a new one. -/
theorem JT.apF {α β : Type} {d T sz bytes c c1 : Nat} {zero : Array Value} {x y : Operand} {enc : α → List Value} {enc' : β → List Value} {sv sw : Value} {xs ys : List α} {zs : List β}
    (hx : ρ.ev x = some sv) (hh : Rd cs enc sz c sv xs) (hy : ρ.ev y = some sw) (hg : Rd cs enc' sz c1 sw zs) (he : zs.map enc' = ys.map enc) (hzero : zero.size = sz) (hb0 : 0 < bytes)
    (hfull : c < xs.length + ys.length) (hb : (xs.length + ys.length) * bytes ≤ 140737488355328)
    (h : ∀ sv' c', xs.length + ys.length ≤ c' → JT P t ((d, sv') :: ρ) (SlT true enc sz sv' c' (xs ++ ys) :: cs) K) : JT P (.st ⟨some d, .ap T sz bytes zero x y, none⟩ t) ρ cs K := ⟨by
  intro w hs
  obtain ⟨hz, h0, hlc, a, rfl, hf⟩ := (hh _ hs).slice Has.here
  obtain ⟨_, g0, glc, a1, rfl, gf⟩ := (hg _ hs).slice Has.here
  have hlen : zs.length = ys.length := by have := congrArg List.length he; simpa using this
  have hL : (xs ++ ys).length ≤ 140737488355328 := by
    rw [List.length_append]
    exact Nat.le_trans (Nat.le_mul_of_pos_right _ hb0) hb
  rw [he] at g0 gf
  have h00 : ∀ e ∈ (xs ++ ys).map enc, e.length = sz ∧ ∀ v ∈ e, isOne v = true := by
    intro e hm
    rw [List.map_append] at hm
    rcases List.mem_append.1 hm with hm | hm
    · exact h0 e hm
    · exact g0 e hm
  have hus : ((xs ++ ys).map enc).flatten = (xs.map enc).flatten ++ (ys.map enc).flatten := by simp
  simp only [runT, semG, Kd.sem]
  refine ⟨a, xs.length, c, .slice a1 zs.length c1, zs.length, hx, hy, rfl, by rw [hlen]; exact hb, hb0, ?_⟩
  rw [if_neg (by omega)]
  refine ⟨_, _, hf, gf, fun c' hc' => ?_⟩
  rw [show xs.length + zs.length = xs.length + ys.length by omega]
  refine (h _ c' (by omega)).run _ ?_
  exact hs.fresh hz hL h00 hus.symm hzero (by simp; omega) (by simp)⟩

/-- What is appended to a slice that is full, and may be nothing: never written again. -/
theorem JT.apS {α β : Type} {d T sz bytes c1 : Nat} {zero : Array Value} {x y : Operand} {enc : α → List Value} {enc' : β → List Value} {sv sw : Value} {xs ys : List α} {zs : List β}
    (hx : ρ.ev x = some sv) (hh : Has cs (SlT false enc sz sv xs.length xs) r) (hy : ρ.ev y = some sw) (hg : Rd cs enc' sz c1 sw zs) (he : zs.map enc' = ys.map enc) (hzero : zero.size = sz) (hb0 : 0 < bytes)
    (hb : (xs.length + ys.length) * bytes ≤ 140737488355328)
    (h : ∀ sv' c', JT P t ((d, sv') :: ρ) (SlT false enc sz sv' c' (xs ++ ys) :: cs) K) : JT P (.st ⟨some d, .ap T sz bytes zero x y, none⟩ t) ρ cs K := by
  by_cases h0 : ys.length = 0
  · have : ys = [] := List.length_eq_zero_iff.1 h0
    subst this
    have hz0 : zs.length = 0 := by have := congrArg List.length he; simpa using this
    refine ⟨fun w hs => ?_⟩
    obtain ⟨hz, g0, hlc, a, rfl, hf⟩ := hs.slice hh
    obtain ⟨_, k0, glc, a1, rfl, gf⟩ := (hg _ hs).slice Has.here
    simp only [runT, semG, Kd.sem]
    refine ⟨a, xs.length, xs.length, .slice a1 zs.length c1, zs.length, hx, hy, rfl, by rw [hz0]; simpa using hb, hb0, ?_⟩
    rw [if_pos (by omega)]
    have hz1 : zs = [] := List.length_eq_zero_iff.1 hz0
    subst hz1
    refine ⟨_, w, gf, by cases a <;> simp [storeAt, storeList], ?_⟩
    have := (h (.slice a xs.length xs.length) xs.length).run w (hs.imp ?_)
    · simpa [Env.put] using this
    · rw [List.append_nil]
      intro S H hst
      obtain ⟨H1, H2, l1, l2, hd, hc, _⟩ := hh S H hst
      exact ⟨fun _ => none, H, fun b o e => (by cases e), Hp.le_refl _, fun b => .inl rfl, SlT_pers enc sz _ _ xs _ _ hc, hst⟩
  · exact JT.apF hx (Rd.of hh) hy hg he hzero hb0 (by omega) hb fun sv' c' _ => JT.frz Has.here (h sv' c')

/-- An element written. -/
theorem JT.stE {α : Type} {sz c k n o : Nat} {a x : Operand} {v : Value} {us : List Value} {enc : α → List Value} {sv : Value} {xs : List α} {x' : α} [Inhabited α] (ha : ρ.ev a = some (elp sv (k * sz + o))) (hx : ρ.ev x = some v)
    (hh : Has cs (SlT true enc sz sv c xs) r) (hk : k < xs.length) (hv : v.cells.toList = us) (hn : us.length = n) (hu : us.all isOne = true) (hl : o + n ≤ sz) (he : lput (enc (nth xs k)) o us = enc x')
    (h : JT P t ρ (SlT true enc sz sv c (xs.set k x') :: r) K) : JT P (.st ⟨none, .st n a x, none⟩ t) ρ cs K := ⟨by
  intro w hs
  obtain ⟨hz, h0, hlc, ad, rfl, hf⟩ := hs.slice hh
  have hlens : ∀ e ∈ xs.map enc, e.length = sz := fun e he => (h0 e he).1
  rw [nth_eq hk] at he
  have hxk := h0 (enc xs[k]) (List.mem_map.2 ⟨_, List.getElem_mem hk, rfl⟩)
  rcases (hs.imp hh).ownS with ⟨e1, e2, e3⟩ | ⟨b, T, pre, rest, e1, e2, e3, hs'⟩
  · subst e2; simp at hk
  · obtain ⟨rfl, _⟩ := Value.slice.inj e1
    simp only [runT, semG, Kd.sem]
    have split : (xs.map enc).flatten = ((xs.take k).map enc).flatten ++ (enc xs[k] ++ ((xs.drop (k + 1)).map enc).flatten) := by
      have : xs = xs.take k ++ (xs[k] :: xs.drop (k + 1)) := by rw [← List.drop_eq_getElem_cons hk, List.take_append_drop]
      rw [congrArg (fun l => (l.map enc).flatten) this]
      simp only [List.map_append, List.map_cons, List.flatten_append, List.flatten_cons]
    have splitx : ((xs.set k x').map enc).flatten = ((xs.take k).map enc).flatten ++ (enc x' ++ ((xs.drop (k + 1)).map enc).flatten) := by
      rw [List.set_eq_take_append_cons_drop, if_pos hk]; simp
    have lt : ((xs.take k).map enc).flatten.length = k * sz := by
      rw [flat_len (sz := sz)]
      · simp only [List.length_map, List.length_take]; rw [Nat.min_eq_left (by omega)]
      · intro e he
        obtain ⟨y, hy, rfl⟩ := List.mem_map.1 he
        exact hlens _ (List.mem_map.2 ⟨y, List.mem_of_mem_take hy, rfl⟩)
    have hlenp : (lput (enc xs[k]) o us).length = (enc xs[k]).length := (lput_spec _ _ _ (by rw [hxk.1, hn]; exact hl)).1
    obtain ⟨h', s1, s2, s3⟩ := storeList_cells (b := b) (T := T) us (pre ++ ((xs.map enc).flatten ++ rest)) (pre.length + (k * sz + o)) 0 w hs'.get
      (by rw [split]; simp only [List.length_append, lt, hxk.1, hn]; omega) (fun u hu' => List.all_eq_true.1 hu u hu')
    refine ⟨⟨b, pre.length + (k * sz + o), none⟩, v, h', by rw [ha]; show some (Value.pointer (some ((⟨b, pre.length, none⟩ : Addr).add (k * sz + o)))) = _; rw [Addr.add_none], hx, by rw [← hn, ← hv]; simp, by rw [hv]; exact s1, h.run h' ?_⟩
    have hset := hs'.set s2 s3
    have h00 : ∀ e ∈ (xs.set k x').map enc, e.length = sz ∧ ∀ v ∈ e, isOne v = true := by
      intro e hm
      obtain ⟨y, hy, rfl⟩ := List.mem_map.1 hm
      rcases List.mem_or_eq_of_mem_set hy with hy | rfl
      · exact h0 _ (List.mem_map.2 ⟨y, hy, rfl⟩)
      · rw [← he]
        refine ⟨hlenp.trans hxk.1, fun u hu' => ?_⟩
        obtain ⟨j, hj⟩ := List.mem_iff_getElem?.1 hu'
        rw [(lput_spec _ _ _ (by rw [hxk.1, hn]; exact hl)).2] at hj
        split at hj
        · exact List.all_eq_true.1 hu u (List.mem_iff_getElem?.2 ⟨_, hj⟩)
        · exact hxk.2 u (List.mem_iff_getElem?.2 ⟨_, hj⟩)
    refine Eq.mp ?_ (hset.mkOwn (pre := pre) (rest := rest) (xs := xs.set k x') (n := xs.length) (c := c) hz (by rw [List.length_set]; exact hs.lenF hh) h00 ?_ (by simp) (by simpa using hlc) (by simpa using e3))
    · rfl
    · rw [splitx, ← he, split]
      have := lput_mid (pre ++ ((xs.take k).map enc).flatten) us (enc xs[k]) (((xs.drop (k + 1)).map enc).flatten ++ rest) o (by rw [hxk.1, hn]; exact hl)
      rw [List.length_append, lt, Nat.add_assoc] at this
      simp only [List.append_assoc, Nat.add_zero] at this ⊢
      exact this⟩

end
end Go.SL
