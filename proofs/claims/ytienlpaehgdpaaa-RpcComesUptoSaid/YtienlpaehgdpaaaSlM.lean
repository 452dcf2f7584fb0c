/- The walk's own words, part M: the rules for a region's operations, one behind the other; those that make or write memory; calls. Conditions: none. -/
import Derived.Test.YtienlpaehgdpaaaSlL
set_option linter.unusedSimpArgs false
set_option linter.unusedVariables false
set_option linter.unusedSectionVars false
namespace Go.SL
open Go

section
variable {P : Program} {ρ : Env} {cs r : List Assn} {t : Tr} {K : Env → List Assn → Prop}

theorem JT.done (h : K ρ cs) : JT P .done ρ cs K := ⟨fun _ hs => ⟨ρ, cs, Env.sub.rfl, hs, h⟩⟩
theorem JT.both {u : Tr} (h1 : JT P t ρ cs K) (h2 : JT P u ρ cs K) : JT P (.both t u) ρ cs K := ⟨fun h hs => ⟨h1.run h hs, h2.run h hs⟩⟩

theorem Imp.take {c : Assn} {ds : List Assn} (h : Has cs c r) (h' : Imp r ds) : Imp cs (c :: ds) := Imp.trans h (Imp.cons h')
theorem Imp.dropT {c : Assn} {ds : List Assn} (h : Imp cs ds) : Imp (c :: cs) ds := Imp.trans Imp.drop h

theorem Up.of {a b : List Assn} (h : Imp a b) : Up a b := fun _ hs => hs.imp h
theorem Up.refl (a : List Assn) : Up a a := fun _ h => h
theorem Up.trans {a b c : List Assn} (h : Up a b) (h' : Up b c) : Up a c := fun x hs => h' x (h x hs)
theorem Up.ex {α : Type} {A : α → Assn} {ds : List Assn} (h : ∀ x, Up (A x :: cs) ds) : Up (ex A :: cs) ds := by
  rintro w ⟨S, H, hS, hH, hd, H1, H2, h1, h2, hd', ⟨x, hx⟩, hr⟩
  exact h x w ⟨S, H, hS, hH, hd, H1, H2, h1, h2, hd', hx, hr⟩
theorem Up.pur {p : Prop} {ds : List Assn} (h : p → Up cs ds) : Up (pur p :: cs) ds := by
  intro w hs
  have hp : p := by obtain ⟨S, H, hS, hH, hd, hst⟩ := hs; exact Imp.pur_out hst
  exact h hp w (hs.imp Imp.drop)

theorem JT.up {cs' : List Assn} (hi : Up cs cs') (h : JT P t ρ cs' K) : JT P t ρ cs K := ⟨fun w hs => h.run w (hi _ hs)⟩
theorem JT.imp {cs' : List Assn} (hi : Imp cs cs') (h : JT P t ρ cs' K) : JT P t ρ cs K := JT.up (.of hi) h
theorem JT.has {c : Assn} (hh : Has cs c r) (h : JT P t ρ (c :: r) K) : JT P t ρ cs K := JT.imp hh h
theorem JT.ex {α : Type} {A : α → Assn} (h : ∀ x, JT P t ρ (A x :: cs) K) : JT P t ρ (ex A :: cs) K := ⟨by
  intro w hs
  obtain ⟨S, H, hS, hH, hd, H1, H2, h1, h2, hd', ⟨x, hx⟩, hr⟩ := hs
  exact (h x).run w ⟨S, H, hS, hH, hd, H1, H2, h1, h2, hd', hx, hr⟩⟩
theorem JT.pur {p : Prop} (h : p → JT P t ρ cs K) : JT P t ρ (pur p :: cs) K := ⟨by
  intro w hs
  have hp : p := by obtain ⟨S, H, hS, hH, hd, hst⟩ := hs; exact Imp.pur_out hst
  exact (h hp).run w (hs.imp Imp.drop)⟩
theorem JT.sep {l : List Assn} (h : JT P t ρ (l ++ cs) K) : JT P t ρ (sep l :: cs) K := JT.imp Imp.sep_out h

theorem J.up {N : Nat} {cc : CC} {Q : Exit → Env → List Assn → Prop} {cs' : List Assn} (hi : Up cs cs') (h : J P N cc ρ cs' Q) : J P N cc ρ cs Q := ⟨fun φ ha w hs => h.run φ ha w (hi _ hs)⟩
theorem J.imp {N : Nat} {cc : CC} {Q : Exit → Env → List Assn → Prop} {cs' : List Assn} (hi : Imp cs cs') (h : J P N cc ρ cs' Q) : J P N cc ρ cs Q := J.up (.of hi) h
theorem J.has {N : Nat} {cc : CC} {Q : Exit → Env → List Assn → Prop} {c : Assn} (hh : Has cs c r) (h : J P N cc ρ (c :: r) Q) : J P N cc ρ cs Q := J.imp hh h
theorem J.ex {N : Nat} {cc : CC} {Q : Exit → Env → List Assn → Prop} {α : Type} {A : α → Assn} (h : ∀ x, J P N cc ρ (A x :: cs) Q) : J P N cc ρ (ex A :: cs) Q := ⟨by
  intro φ ha w hs
  obtain ⟨S, H, hS, hH, hd, H1, H2, h1, h2, hd', ⟨x, hx⟩, hr⟩ := hs
  exact (h x).run φ ha w ⟨S, H, hS, hH, hd, H1, H2, h1, h2, hd', hx, hr⟩⟩
theorem J.pur {N : Nat} {cc : CC} {Q : Exit → Env → List Assn → Prop} {p : Prop} (h : p → J P N cc ρ cs Q) : J P N cc ρ (pur p :: cs) Q := ⟨by
  intro φ ha w hs
  have hp : p := by obtain ⟨S, H, hS, hH, hd, hst⟩ := hs; exact Imp.pur_out hst
  exact (h hp).run φ ha w (hs.imp Imp.drop)⟩
theorem J.sep {N : Nat} {cc : CC} {Q : Exit → Env → List Assn → Prop} {l : List Assn} (h : J P N cc ρ (l ++ cs) Q) : J P N cc ρ (sep l :: cs) Q := J.imp Imp.sep_out h

/-! ### Quiet operations -/

theorem semK_at {k : Kd} (hq : quietK k = true) {ρ : Env} {h : Heap} {v : Value} {K : Value → Heap → Prop} (hs : k.sem P ρ h fun v' h' => v' = v ∧ h' = h) (hK : K v h) : k.sem P ρ h K := by
  have := sem_mono P hq (K' := fun v' h' => v' = v ∧ h' = h ∧ K v' h') hs fun v' ⟨e1, e2⟩ => ⟨e1, e2, by rw [e1]; exact hK⟩
  obtain ⟨v', h1, h2⟩ := sem_quiet P hq this
  obtain ⟨rfl, _, h3⟩ := h2
  exact sem_mono P hq h1 fun u ⟨e, _⟩ => by rw [e]; exact h3

theorem JT.q {dst : Nat} {k : Kd} {v : Value} (he : Ev P k ρ cs v) (h : JT P t ((dst, v) :: ρ) cs K) : JT P (.st ⟨some dst, k, none⟩ t) ρ cs K := ⟨by
  intro w hs
  simp only [runT, semG]
  exact semK_at he.q (he.run w hs) (h.run w hs)⟩

theorem JT.qT {dst : Nat} {k : Kd} {v : Value} {g : Nat} {b : Bool} (hg : ρ.lk g = some (.bool b)) (he : Ev P k ρ cs v) (h : JT P t ((dst, v) :: ρ) cs K) : JT P (.st ⟨some dst, k, some (g, b)⟩ t) ρ cs K := ⟨by
  intro w hs
  simp only [runT, semG]
  exact ⟨_, hg, fun _ => semK_at he.q (he.run w hs) (h.run w hs), fun e => absurd rfl e⟩⟩

theorem JT.skipV {dst : Nat} {k : Kd} {g : Nat} {b : Bool} {v : Value} (hg : ρ.lk g = some v) (hb : v ≠ .bool b) (h : JT P t ((dst, undef) :: ρ) cs K) : JT P (.st ⟨some dst, k, some (g, b)⟩ t) ρ cs K := ⟨by
  intro w hs
  simp only [runT, semG]
  exact ⟨v, hg, (fun e => absurd e hb), fun _ => h.run w hs⟩⟩
theorem ne_not {b b' : Bool} (hb : b' = !b) : (Value.bool b') ≠ .bool b := fun e => by injection e with e; subst hb; cases b <;> cases e
theorem undef_ne {b : Bool} : undef ≠ Value.bool b := fun e => by simp [undef] at e
theorem JT.skip {dst : Nat} {k : Kd} {g : Nat} {b b' : Bool} (hg : ρ.lk g = some (.bool b')) (hb : b' = !b) (h : JT P t ((dst, undef) :: ρ) cs K) : JT P (.st ⟨some dst, k, some (g, b)⟩ t) ρ cs K := JT.skipV hg (ne_not hb) h
theorem JT.skipU {dst : Nat} {k : Kd} {g : Nat} {b : Bool} (hg : ρ.lk g = some undef) (h : JT P t ((dst, undef) :: ρ) cs K) : JT P (.st ⟨some dst, k, some (g, b)⟩ t) ρ cs K := JT.skipV hg undef_ne h

/-- A guard that is not known: what comes is there under it. -/
theorem JT.qV {dst : Nat} {k : Kd} {v u : Value} {g : Nat} {y b : Bool} (hg : ρ.lk g = some u) (hu : (u = .bool b) ↔ (y = true)) (he : y = true → Ev P k ρ cs v) (h : JT P t ((dst, gd y v) :: ρ) cs K) : JT P (.st ⟨some dst, k, some (g, b)⟩ t) ρ cs K := ⟨by
  intro w hs
  simp only [runT, semG]
  refine ⟨u, hg, fun e => ?_, fun e => ?_⟩
  · have hy := hu.1 e
    subst hy; exact semK_at (he rfl).q ((he rfl).run w hs) (h.run w hs)
  · have : y = false := by cases y <;> simp_all
    subst this; exact h.run w hs⟩
theorem JT.qg {dst : Nat} {k : Kd} {v : Value} {g : Nat} {x : Bool} (hg : ρ.lk g = some (.bool x)) (he : x = true → Ev P k ρ cs v) (h : JT P t ((dst, gd x v) :: ρ) cs K) : JT P (.st ⟨some dst, k, some (g, true)⟩ t) ρ cs K :=
  JT.qV hg (by simp) he h
theorem JT.qh {dst : Nat} {k : Kd} {v : Value} {g : Nat} {x : Bool} (hg : ρ.lk g = some (.bool x)) (he : x = false → Ev P k ρ cs v) (h : JT P t ((dst, gd (!x) v) :: ρ) cs K) : JT P (.st ⟨some dst, k, some (g, false)⟩ t) ρ cs K :=
  JT.qV hg (by simp) (fun e => he (by simpa using e)) h
theorem gd_true (v : Value) : gd true v = v := rfl
theorem gd_false (v : Value) : gd false v = undef := rfl
/-- The guard is itself there only under a guard. -/
theorem JT.qg2 {dst : Nat} {k : Kd} {v : Value} {g : Nat} {x y : Bool} (hg : ρ.lk g = some (gd x (.bool y))) (he : x = true → y = true → Ev P k ρ cs v) (h : JT P t ((dst, gd (x && y) v) :: ρ) cs K) : JT P (.st ⟨some dst, k, some (g, true)⟩ t) ρ cs K :=
  JT.qV hg (by cases x <;> simp [gd_true, gd_false, undef]) (fun e => by simp only [Bool.and_eq_true] at e; exact he e.1 e.2) h
theorem JT.qh2 {dst : Nat} {k : Kd} {v : Value} {g : Nat} {x y : Bool} (hg : ρ.lk g = some (gd x (.bool y))) (he : x = true → y = false → Ev P k ρ cs v) (h : JT P t ((dst, gd (x && !y) v) :: ρ) cs K) : JT P (.st ⟨some dst, k, some (g, false)⟩ t) ρ cs K :=
  JT.qV hg (by cases x <;> simp [gd_true, gd_false, undef]) (fun e => by simp only [Bool.and_eq_true, Bool.not_eq_true'] at e; exact he e.1 e.2) h

/-- A guard that is not known, taken apart. -/
theorem JT.split {c : COp} {g : Nat} {x b : Bool} (hc : c.guard = some (g, b)) (hg : ρ.lk g = some (.bool x)) (h1 : x = true → JT P (.st c t) ρ cs K) (h2 : x = false → JT P (.st c t) ρ cs K) : JT P (.st c t) ρ cs K := by
  cases x
  · exact h2 rfl
  · exact h1 rfl

/-! ### Again -/

theorem again_of {c : COp} {v : Value} {h : Heap} (hq : quietK c.k = true) (hs : c.k.sem P ρ h fun v' h' => v' = v ∧ h' = h) (hd : ∀ d, c.dst = some d → ρ.lk d = some v) :
    c.k.sem P ρ h fun v h' => h' = h ∧ ∀ d, c.dst = some d → ρ.lk d = some v :=
  sem_mono P hq hs fun v' ⟨e, e'⟩ => ⟨e', fun d hd' => by rw [e]; exact hd d hd'⟩

theorem JT.ag {d : Nat} {k : Kd} {v : Value} (he : Ev P k ρ cs v) (hd : ρ.lk d = some v) (h : JT P t ρ cs K) : JT P (.ag ⟨some d, k, none⟩ t) ρ cs K := ⟨by
  intro w hs
  refine ⟨?_, h.run w hs⟩
  unfold againG semG
  exact again_of he.q (he.run w hs) fun d' e => by cases e; exact hd⟩
theorem JT.agT {d : Nat} {k : Kd} {v : Value} {g : Nat} {b : Bool} (hg : ρ.lk g = some (.bool b)) (he : Ev P k ρ cs v) (hd : ρ.lk d = some v) (h : JT P t ρ cs K) : JT P (.ag ⟨some d, k, some (g, b)⟩ t) ρ cs K := ⟨by
  intro w hs
  refine ⟨?_, h.run w hs⟩
  unfold againG semG
  exact ⟨_, hg, fun _ => again_of he.q (he.run w hs) fun d' e => by cases e; exact hd, fun e => absurd rfl e⟩⟩
theorem JT.agV {d : Nat} {k : Kd} {g : Nat} {b : Bool} {v : Value} (hg : ρ.lk g = some v) (hb : v ≠ .bool b) (hd : ρ.lk d = some undef) (h : JT P t ρ cs K) : JT P (.ag ⟨some d, k, some (g, b)⟩ t) ρ cs K := ⟨by
  intro w hs
  refine ⟨?_, h.run w hs⟩
  unfold againG semG
  exact ⟨v, hg, (fun e => absurd e hb), fun _ => ⟨rfl, fun d' e => by cases e; exact hd⟩⟩⟩
theorem JT.agF {d : Nat} {k : Kd} {g : Nat} {b b' : Bool} (hg : ρ.lk g = some (.bool b')) (hb : b' = !b) (hd : ρ.lk d = some undef) (h : JT P t ρ cs K) : JT P (.ag ⟨some d, k, some (g, b)⟩ t) ρ cs K := JT.agV hg (ne_not hb) hd h
theorem JT.agU {d : Nat} {k : Kd} {g : Nat} {b : Bool} (hg : ρ.lk g = some undef) (hd : ρ.lk d = some undef) (h : JT P t ρ cs K) : JT P (.ag ⟨some d, k, some (g, b)⟩ t) ρ cs K := JT.agV hg undef_ne hd h

/-! ### New memory -/

theorem JT.new {d T : Nat} {l : List Value} (h : ∀ b, JT P t ((d, ptr b) :: ρ) (pc b T l :: cs) K) : JT P (.st ⟨some d, .new T l.toArray, none⟩ t) ρ cs K := ⟨by
  intro w hs
  simp only [runT, semG, Kd.sem]
  exact (h w.size).run _ (hs.push _)⟩

theorem JT.box {d T : Nat} {x : Operand} {l : List Value} (hx : ρ.ev x = some (.agg l.toArray)) (h : ∀ b, JT P t ((d, ptr b) :: ρ) (pc b T l :: cs) K) : JT P (.st ⟨some d, .box T x, none⟩ t) ρ cs K := ⟨by
  intro w hs
  simp only [runT, semG, Kd.sem]
  exact ⟨_, hx, (h w.size).run _ (hs.push _)⟩⟩
theorem JT.box1 {d T : Nat} {x : Operand} {v : Value} (hx : ρ.ev x = some v) (hv : isOne v = true) (h : ∀ b, JT P t ((d, ptr b) :: ρ) (pc b T [v] :: cs) K) : JT P (.st ⟨some d, .box T x, none⟩ t) ρ cs K := ⟨by
  intro w hs
  simp only [runT, semG, Kd.sem]
  refine ⟨_, hx, ?_⟩
  have : v.cells = [v].toArray := by cases v <;> simp [isOne] at hv <;> rfl
  rw [this]
  exact (h w.size).run _ (hs.push _)⟩

theorem SlT.mk {α : Type} {enc : α → List Value} {sz n : Nat} {xs : List α} {b T : Nat} {l : List Value} {h : Heap} (hs : Sat h (pc b T l :: cs)) (hl : l = (xs.map enc).flatten) (hn : xs.length = n) (hz : 0 < sz) (hL : n ≤ 140737488355328)
    (he : ∀ x ∈ xs, (enc x).length = sz ∧ ∀ v ∈ enc x, isOne v = true) : Sat h (SlT true enc sz (.slice (some ⟨b, 0, none⟩) n n) n xs :: cs) := by
  refine hs.imp ?_
  rintro S H ⟨H1, H2, h1, h2, hd, hc, hr⟩
  refine ⟨H1, H2, h1, h2, hd, ⟨⟨hz, by simpa [hn] using hL⟩, fun e he' => ?_, .inr ⟨b, T, [], [], ?_, ?_, ?_, ?_⟩⟩, hr⟩
  · obtain ⟨x, hx, rfl⟩ := List.mem_map.1 he'; exact he x hx
  · simp [hn]
  · simp [hn]
  · rw [List.append_nil, List.nil_append, ← hl]; exact hc
  · simp [hn]

/-- A slice made on the spot: its elements as they stand. -/
def unit1 (es : List (List Value)) : List Value := es.flatten

theorem JT.bsl {d T len sz : Nat} {src : List Src} {l : List Value} {es : List (List Value)} (hc : Cells ρ src l) (hes : l = es.flatten) (hn : es.length = len) (hz : 0 < sz) (hL : len ≤ 140737488355328) (he : ∀ e ∈ es, e.length = sz ∧ ∀ v ∈ e, isOne v = true)
    (h : ∀ sv, JT P t ((d, sv) :: ρ) (SlT true (fun e => e) sz sv len es :: cs) K) : JT P (.st ⟨some d, .bsl T src len, none⟩ t) ρ cs K := ⟨by
  intro w hs
  simp only [runT, semG, Kd.sem]
  refine ⟨l, hc, (h _).run _ ?_⟩
  exact SlT.mk (hs.push (.cells l.toArray T)) (by simpa using hes) hn hz hL he⟩

/-! ### Stores -/

def lput : List Value → Nat → List Value → List Value
  | l, _, [] => l
  | [], _, _ => []
  | _ :: l, 0, u :: us => u :: lput l 0 us
  | v :: l, n + 1, us => v :: lput l n us

theorem lput_spec : ∀ (l : List Value) (n : Nat) (us : List Value), n + us.length ≤ l.length → (lput l n us).length = l.length ∧ ∀ i, (lput l n us)[i]? = if n ≤ i ∧ i < n + us.length then us[i - n]? else l[i]?
  | l, n, [], _ => ⟨by cases l <;> cases n <;> rfl, fun i => by have : lput l n [] = l := by cases l <;> cases n <;> rfl
                                                                rw [this, if_neg]; simp⟩
  | [], n, u :: us, h => by simp at h
  | v :: l, 0, u :: us, h => by
    obtain ⟨h1, h2⟩ := lput_spec l 0 us (by simp at h ⊢; omega)
    refine ⟨by simp [lput, h1], fun i => ?_⟩
    cases i with
    | zero => simp [lput]
    | succ i =>
      simp only [lput, List.getElem?_cons_succ, h2, List.length_cons]
      by_cases hi : i < us.length
      · rw [if_pos (by omega), if_pos (by omega)]; simp
      · rw [if_neg (by omega), if_neg (by omega)]
  | v :: l, n + 1, u :: us, h => by
    obtain ⟨h1, h2⟩ := lput_spec l n (u :: us) (by simp at h ⊢; omega)
    refine ⟨by simp [lput, h1], fun i => ?_⟩
    cases i with
    | zero => simp [lput]
    | succ i =>
      simp only [lput, List.getElem?_cons_succ, h2, List.length_cons]
      by_cases hi : n ≤ i ∧ i < n + (us.length + 1)
      · rw [if_pos hi, if_pos (by omega)]; congr 1; omega
      · rw [if_neg hi, if_neg (by omega)]

theorem storeList_cells {b T : Nat} : ∀ (us l : List Value) (o i : Nat) (h : Heap), h[b]? = some (.cells l.toArray T (0, 0)) → o + i + us.length ≤ l.length → (∀ u ∈ us, isOne u = true) →
    ∃ h', storeList ⟨b, o, none⟩ us i h = some h' ∧ h'[b]? = some (.cells (lput l (o + i) us).toArray T (0, 0)) ∧ ∀ k, k ≠ b → h'[k]? = h[k]?
  | [], l, o, i, h, hb, _, _ => by
    have : lput l (o + i) [] = l := by cases l <;> cases (o + i) <;> rfl
    exact ⟨h, rfl, by rw [this]; exact hb, fun _ _ => rfl⟩
  | u :: us, l, o, i, h, hb, hn, ho => by
    simp only [List.length_cons] at hn
    have hlt : o + i < l.length := by omega
    have hset : (setHeapCell h ⟨b, o + i, none⟩ u)[b]? = some (.cells (l.set (o + i) u).toArray T (0, 0)) := by
      have hbl := (Array.getElem?_eq_some_iff.1 hb).1
      simp only [setHeapCell, Array.getElem?_modify, hb, if_true, Option.map_some]
      simp [List.setIfInBounds_toArray]
    have hoth : ∀ k, k ≠ b → (setHeapCell h ⟨b, o + i, none⟩ u)[k]? = h[k]? := by
      intro k hk
      simp [setHeapCell, Array.getElem?_modify, Ne.symm hk]
    obtain ⟨h', e1, e2, e3⟩ := storeList_cells us (l.set (o + i) u) o (i + 1) _ hset (by simp; omega) (fun x hx => ho x (by simp [hx]))
    refine ⟨h', ?_, ?_, fun k hk => (e3 k hk).trans (hoth k hk)⟩
    · simp only [storeList, ho u (by simp), if_true, Addr.add_none, cell_of hb]
      have hc : l.toArray[o + i]? = some l[o + i] := by simp [hlt]
      have hf : heapFrozen h ⟨b, o + i, none⟩ = false := by simp [heapFrozen, hb]
      simp only [hc, hf, Bool.false_eq_true, if_false]
      exact e1
    · rw [e2]
      congr 2
      have : lput (l.set (o + i) u) (o + (i + 1)) us = lput l (o + i) (u :: us) := by
        obtain ⟨a1, a2⟩ := lput_spec (l.set (o + i) u) (o + (i + 1)) us (by simp; omega)
        obtain ⟨b1, b2⟩ := lput_spec l (o + i) (u :: us) (by simp; omega)
        apply List.ext_getElem?
        intro j
        rw [a2, b2]
        simp only [List.length_cons]
        by_cases hj : o + (i + 1) ≤ j ∧ j < o + (i + 1) + us.length
        · rw [if_pos hj, if_pos (by omega), show j - (o + i) = (j - (o + (i + 1))) + 1 by omega]; simp
        · rw [if_neg hj]
          by_cases hj2 : j = o + i
          · subst hj2
            rw [if_pos (by omega)]; simp [hlt]
          · rw [if_neg (by omega), List.getElem?_set_ne (Ne.symm hj2)]
      rw [this]

theorem JT.st {n o b T : Nat} {a x : Operand} {v : Value} {us l : List Value} (ha : ρ.ev a = some (.pointer (some ⟨b, o, none⟩))) (hx : ρ.ev x = some v) (hv : v.cells.toList = us) (hn : us.length = n) (hu : us.all isOne = true)
    (hh : Has cs (pc b T l) r) (hl : o + n ≤ l.length) (h : JT P t ρ (pc b T (lput l o us) :: r) K) : JT P (.st ⟨none, .st n a x, none⟩ t) ρ cs K := ⟨by
  intro w hs
  simp only [runT, semG, Kd.sem]
  obtain ⟨w', h1, h2, h3⟩ := storeList_cells (b := b) (T := T) us l o 0 w (hs.pc hh) (by omega) (fun u hu' => List.all_eq_true.1 hu u hu')
  refine ⟨⟨b, o, none⟩, v, w', ha, hx, by rw [← hn, ← hv]; simp, by rw [hv]; exact h1, h.run w' ?_⟩
  exact (hs.imp hh).set h2 h3⟩

theorem JT.stp {n o b T : Nat} {a x : Operand} {v : Value} {us l l' : List Value} (ha : ρ.ev a = some (.pointer (some ⟨b, o, none⟩))) (hx : ρ.ev x = some v) (hv : v.cells.toList = us) (hn : us.length = n) (hu : us.all isOne = true)
    (hh : Has cs (pc b T l) r) (hl : o + n ≤ l.length) (hp : lput l o us = l') (h : JT P t ρ (pc b T l' :: r) K) : JT P (.st ⟨none, .st n a x, none⟩ t) ρ cs K :=
  JT.st ha hx hv hn hu hh hl (by rw [hp]; exact h)

/-- A store through a pointer that covers the whole block. -/
theorem lput_all {l us : List Value} (h : us.length = l.length) : lput l 0 us = us := by
  obtain ⟨h1, h2⟩ := lput_spec l 0 us (by omega)
  apply List.ext_getElem?
  intro i
  rw [h2]
  by_cases hi : i < us.length
  · rw [if_pos (by omega)]; simp
  · rw [if_neg (by omega), List.getElem?_eq_none (by omega), List.getElem?_eq_none (by omega)]
theorem JT.stw {n b T : Nat} {a x : Operand} {us l : List Value} (ha : ρ.ev a = some (.pointer (some ⟨b, 0, none⟩))) (hx : ρ.ev x = some (.agg us.toArray)) (hn : us.length = n) (hu : us.all isOne = true)
    (hh : Has cs (pc b T l) r) (hl : l.length = n) (h : JT P t ρ (pc b T us :: r) K) : JT P (.st ⟨none, .st n a x, none⟩ t) ρ cs K :=
  JT.st ha hx (us := us) (by simp [Value.cells]) hn hu hh (by omega) (by rw [lput_all (by omega)]; exact h)

/-! ### Calls -/

theorem JT.call {dst : Option Nat} {f : Operand} {args : List Operand} {fid : Nat} {vs : List Value} {cs0 : List Assn} {R : Value → List Assn → Prop} (hf : ρ.ev f = some (.func (.func fid) #[] #[])) (ha : ρ.evs args = some vs)
    (hfn : Meets P fid vs cs0 R) (hi : Up cs cs0) (h : ∀ v cs', R v cs' → JT P t (ρ.put dst v) cs' K) : JT P (.st ⟨dst, .call f args, none⟩ t) ρ cs K := ⟨by
  intro w hs
  simp only [runT, semG, Kd.sem]
  refine ⟨fid, #[], vs, hf, ha, hfn.1, fun W hW => ?_⟩
  have := hfn.2 W (by rw [hW]; exact hi _ hs)
  simp only [Array.append_empty]
  refine this.mono ?_
  rintro e w' ⟨v, cs', rfl, hkp, hs', hR⟩
  exact ⟨v, rfl, hkp, (h v cs' hR).run w'.heap hs'⟩⟩

/-- A closure. -/
theorem JT.callv {dst : Option Nat} {f : Operand} {args : List Operand} {fid : Nat} {vs cap : List Value} {cs0 : List Assn} {R : Value → List Assn → Prop} (hf : ρ.ev f = some (.func (.func fid) #[] cap.toArray)) (ha : ρ.evs args = some vs)
    (hfn : Meets P fid (vs ++ cap) cs0 R) (hi : Up cs cs0) (h : ∀ v cs', R v cs' → JT P t (ρ.put dst v) cs' K) : JT P (.st ⟨dst, .call f args, none⟩ t) ρ cs K := ⟨by
  intro w hs
  simp only [runT, semG, Kd.sem]
  refine ⟨fid, cap.toArray, vs, hf, ha, hfn.1, fun W hW => ?_⟩
  have := hfn.2 W (by rw [hW]; exact hi _ hs)
  simp only [List.append_toArray]
  refine this.mono ?_
  rintro e w' ⟨v, cs', rfl, hkp, hs', hR⟩
  exact ⟨v, rfl, hkp, (h v cs' hR).run w'.heap hs'⟩⟩

end
end Go.SL
