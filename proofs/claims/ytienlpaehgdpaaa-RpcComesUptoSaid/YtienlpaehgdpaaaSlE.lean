/- The walk's own words, part E: a region whose order the tape draws: one look in one order serves them all. Conditions: none. -/
import Derived.Test.YtienlpaehgdpaaaSlD
set_option linter.unusedSimpArgs false
set_option linter.unusedVariables false
namespace Go.SL
open Go

def Src.ops : Src → List Operand
  | .z _ => []
  | .c x _ _ => [x]

def Kd.operands : Kd → List Operand
  | .mv x | .box _ x | .ld _ x | .nilc x | .un _ x | .cv _ x | .fa _ x | .fld _ _ _ x | .ln x | .lns x | .lnm x | .ext x _ | .mki _ x | .cap x | .ent x | .rng x | .nxt x | .clr _ x => [x]
  | .pick a b c => [a, b, c]
  | .new _ _ | .mkm => []
  | .cmp _ _ x i | .lkp _ _ _ x i | .idx x i | .mm _ x i | .mpe _ _ x i | .del _ x i | .mks _ _ _ _ x i | .cpy _ x i => [x, i]
  | .mup _ a b c | .ens a b c => [a, b, c]
  | .sls x lo hi => x :: (lo.toList ++ hi.toList)
  | .agg src | .bsl _ src _ => src.flatMap Src.ops
  | .st _ a x | .bin _ _ a x | .bini _ a x | .eqs _ _ a x | .ia _ a x | .iaa _ _ a x | .ap _ _ _ _ a x => [a, x]
  | .sl _ x lo hi mx => x :: (lo.toList ++ hi.toList ++ mx.toList)
  | .call f args => f :: args
  | .mkf _ cs => cs
  | .raw o => o.op.operands.toList

def quietK : Kd → Bool
  | .new .. | .box .. | .bsl .. | .st .. | .ap .. | .call .. | .raw .. | .mkm | .mup .. | .mpe .. | .ens .. | .del .. | .rng .. | .nxt .. | .mks .. | .cpy .. | .clr .. => false
  | _ => true

def readsK : Kd → Bool
  | .ld .. | .bin .. | .lnm .. | .lkp .. | .ent .. => true
  | _ => false

def allocK : Kd → Bool
  | .new .. | .box .. | .bsl .. | .mkm | .rng .. | .mks .. => true
  | _ => false

def opTmps (l : List Operand) : List Nat := l.filterMap fun | .tmp t => some t | _ => none

def COp.looks (c : COp) : List Nat := opTmps c.k.operands ++ (match c.guard with | some (t, _) => [t] | none => [])

section
variable (P : Program)

theorem ev_congr {ρ ρ' : Env} {x : Operand} (h : ∀ t, x = .tmp t → ρ.lk t = ρ'.lk t) : ρ.ev x = ρ'.ev x := by
  cases x with
  | tmp t => exact h t rfl
  | _ => rfl

theorem Cells.congr {ρ ρ' : Env} {src : List Src} {cs : List Value} (h : Cells ρ src cs) : (∀ x ∈ src.flatMap Src.ops, ρ.ev x = ρ'.ev x) → Cells ρ' src cs := by
  induction h with
  | nil => intro _; exact .nil
  | z h ih => intro hx; exact .z (ih fun x hm => hx x (by simp [Src.ops] at hm ⊢; exact hm))
  | c he hn hu h ih =>
    intro hx
    refine .c (by rw [← hx _ (by simp [Src.ops])]; exact he) hn hu (ih fun x hm => hx x ?_)
    simp only [List.flatMap_cons, List.mem_append]
    exact .inr hm

theorem sliceLo_congr {ρ ρ' : Env} {x : Option Operand} {d : Nat} (h : ∀ y ∈ x.toList, ρ.ev y = ρ'.ev y) : sliceLo x ρ d = sliceLo x ρ' d := by
  cases x with
  | none => rfl
  | some y => simp only [sliceLo, h y (by simp)]

theorem evs_congr {ρ ρ' : Env} : ∀ {xs : List Operand}, (∀ x ∈ xs, ρ.ev x = ρ'.ev x) → ρ.evs xs = ρ'.evs xs
  | [], _ => rfl
  | x :: r, h => by
    simp only [Env.evs, h x (by simp), evs_congr (xs := r) fun y hy => h y (by simp [hy])]

theorem sem_congr {k : Kd} (hq : quietK k = true) {ρ ρ' : Env} {h : Heap} {K : Value → Heap → Prop} (he : ∀ x ∈ k.operands, ρ.ev x = ρ'.ev x)
    (hs : k.sem P ρ h K) : k.sem P ρ' h K := by
  cases k <;> simp only [quietK, Bool.false_eq_true] at hq <;> simp only [Kd.operands, List.mem_cons, List.not_mem_nil, or_false, forall_eq_or_imp, forall_eq] at he
  case agg src => obtain ⟨cs, h1, h2⟩ := hs; exact ⟨cs, h1.congr he, h2⟩
  case ld n a =>
    cases n
    · simp only [Kd.sem, he] at hs ⊢; exact hs
    · simp only [Kd.sem, he] at hs ⊢; exact hs
  case sl sz x lo hi mx =>
    obtain ⟨h0, h1⟩ := he
    have e1 := fun d => sliceLo_congr (ρ := ρ) (ρ' := ρ') (x := lo) (d := d) fun y hy => h1 y (by simp at hy ⊢; simp [hy])
    have e2 := fun d => sliceLo_congr (ρ := ρ) (ρ' := ρ') (x := hi) (d := d) fun y hy => h1 y (by simp at hy ⊢; simp [hy])
    have e3 := fun d => sliceLo_congr (ρ := ρ) (ρ' := ρ') (x := mx) (d := d) fun y hy => h1 y (by simp at hy ⊢; simp [hy])
    simp only [Kd.sem, h0, e1, e2, e3] at hs ⊢; exact hs
  case mkf f cs => simp only [Kd.sem, evs_congr he] at hs ⊢; exact hs
  case sls x lo hi =>
    obtain ⟨h0, h1⟩ := he
    have e1 := fun d => sliceLo_congr (ρ := ρ) (ρ' := ρ') (x := lo) (d := d) fun y hy => h1 y (by simp at hy ⊢; simp [hy])
    have e2 := fun d => sliceLo_congr (ρ := ρ) (ρ' := ρ') (x := hi) (d := d) fun y hy => h1 y (by simp at hy ⊢; simp [hy])
    simp only [Kd.sem, h0, e1, e2] at hs ⊢; exact hs
  all_goals (simp only [Kd.sem, he] at hs ⊢; exact hs)

/-- A quiet operation yields one value and leaves the heap alone. -/
theorem sem_quiet {k : Kd} (hq : quietK k = true) {ρ : Env} {h : Heap} {K : Value → Heap → Prop} (hs : k.sem P ρ h K) :
    ∃ v, k.sem P ρ h (fun v' h' => v' = v ∧ h' = h) ∧ K v h := by
  cases k <;> simp only [quietK, Bool.false_eq_true] at hq
  case mv x => obtain ⟨v, h1, h2⟩ := hs; exact ⟨v, ⟨v, h1, rfl, rfl⟩, h2⟩
  case pick c a b => obtain ⟨t, v, h0, h1, h2⟩ := hs; exact ⟨v, ⟨t, v, h0, h1, rfl, rfl⟩, h2⟩
  case agg src => obtain ⟨cs, h1, h2⟩ := hs; exact ⟨_, ⟨cs, h1, rfl, rfl⟩, h2⟩
  case ld n a =>
    cases n
    · obtain ⟨ad, v, h0, h1, h2⟩ := hs; exact ⟨_, ⟨ad, v, h0, h1, rfl, rfl⟩, h2⟩
    · obtain ⟨ad, v, h0, h1, h2⟩ := hs; exact ⟨_, ⟨ad, v, h0, h1, rfl, rfl⟩, h2⟩
  case nilc x => obtain ⟨v, h0, h1, h2⟩ := hs; exact ⟨_, ⟨v, h0, h1, rfl, rfl⟩, h2⟩
  case bin op t x y => obtain ⟨u, v, r, h0, h1, h2, h3⟩ := hs; exact ⟨_, ⟨u, v, r, h0, h1, h2, rfl, rfl⟩, h3⟩
  case bini op x y => obtain ⟨k, n, k', m, r, h0, h1, h2, h3, h4⟩ := hs; exact ⟨_, ⟨k, n, k', m, r, h0, h1, h2, h3, rfl, rfl⟩, h4⟩
  case eqs neg fl x y => obtain ⟨u, v, b, h0, h1, h2, h3⟩ := hs; exact ⟨_, ⟨u, v, b, h0, h1, h2, rfl, rfl⟩, h3⟩
  case un op x => obtain ⟨u, r, h0, h1, h2⟩ := hs; exact ⟨_, ⟨u, r, h0, h1, rfl, rfl⟩, h2⟩
  case cv k x => obtain ⟨u, r, h0, h1⟩ := hs; exact ⟨_, ⟨u, r, h0, rfl, rfl⟩, h1⟩
  case fa off x => obtain ⟨ad, h0, h1⟩ := hs; exact ⟨_, ⟨ad, h0, rfl, rfl⟩, h1⟩
  case fld ag n off x => obtain ⟨cs, v, h0, h1, h2⟩ := hs; exact ⟨_, ⟨cs, v, h0, h1, rfl, rfl⟩, h2⟩
  case ia sz x i => obtain ⟨ad, len, cap, k, n, h0, h1, h2, h3, h4⟩ := hs; exact ⟨_, ⟨ad, len, cap, k, n, h0, h1, h2, h3, rfl, rfl⟩, h4⟩
  case iaa len sz x i => obtain ⟨ad, k, n, h0, h1, h2, h3, h4⟩ := hs; exact ⟨_, ⟨ad, k, n, h0, h1, h2, h3, rfl, rfl⟩, h4⟩
  case sl sz x lo hi mx =>
    obtain ⟨a, len, cap, l, u, m, h0, h1, h2, h3, h4, h5, h6, h7, h8⟩ := hs
    exact ⟨_, ⟨a, len, cap, l, u, m, h0, h1, h2, h3, h4, h5, h6, h7, rfl, rfl⟩, h8⟩
  case ln x => obtain ⟨a, n, c, h0, h1⟩ := hs; exact ⟨_, ⟨a, n, c, h0, rfl, rfl⟩, h1⟩
  case lns x => obtain ⟨s, h0, h1⟩ := hs; exact ⟨_, ⟨s, h0, rfl, rfl⟩, h1⟩
  case lnm x =>
    obtain ⟨r, h0, h1⟩ := hs
    cases r with
    | none => exact ⟨_, ⟨none, h0, rfl, rfl⟩, h1⟩
    | some r => obtain ⟨es, c, h2, h3⟩ := h1; exact ⟨_, ⟨some r, h0, es, c, h2, rfl, rfl⟩, h3⟩
  case ext x i => obtain ⟨vs, v, h0, h1, h2⟩ := hs; exact ⟨_, ⟨vs, v, h0, h1, rfl, rfl⟩, h2⟩
  case cmp sc neg x y => obtain ⟨u, v, b, h0, h1, h2, h3⟩ := hs; exact ⟨_, ⟨u, v, b, h0, h1, h2, rfl, rfl⟩, h3⟩
  case cap x => obtain ⟨a, n, c, h0, h1⟩ := hs; exact ⟨_, ⟨a, n, c, h0, rfl, rfl⟩, h1⟩
  case lkp ok kt z x i => obtain ⟨m, key, es, r, h0, h1, h2, h3, h4⟩ := hs; exact ⟨_, ⟨m, key, es, r, h0, h1, h2, h3, rfl, rfl⟩, h4⟩
  case idx x i => obtain ⟨s, k, n, b, h0, h1, h2, h3, h4⟩ := hs; exact ⟨_, ⟨s, k, n, b, h0, h1, h2, h3, rfl, rfl⟩, h4⟩
  case mm mx x y => obtain ⟨k, n, k', m, h0, h1, h2⟩ := hs; exact ⟨_, ⟨k, n, k', m, h0, h1, rfl, rfl⟩, h2⟩
  case sls x lo hi => obtain ⟨s, l, u, h0, h1, h2, h3, h4, h5⟩ := hs; exact ⟨_, ⟨s, l, u, h0, h1, h2, h3, h4, rfl, rfl⟩, h5⟩
  case ent x => obtain ⟨r, m, si, se, la, es, c, st, e, h0, h1, h2, h3, h4, h5, h6⟩ := hs; exact ⟨_, ⟨r, m, si, se, la, es, c, st, e, h0, h1, h2, h3, h4, h5, rfl, rfl⟩, h6⟩
  case mki t x => obtain ⟨v, h0, h1⟩ := hs; exact ⟨_, ⟨v, h0, rfl, rfl⟩, h1⟩
  case mkf f cs => obtain ⟨vs, h0, h1⟩ := hs; exact ⟨_, ⟨vs, h0, rfl, rfl⟩, h1⟩

theorem sem_mono {k : Kd} (hq : quietK k = true) {ρ : Env} {h : Heap} {K K' : Value → Heap → Prop} (hs : k.sem P ρ h K) (hm : ∀ v, K v h → K' v h) : k.sem P ρ h K' := by
  obtain ⟨v, h1, h2⟩ := sem_quiet P hq hs
  clear hs
  cases k <;> simp only [quietK, Bool.false_eq_true] at hq
  case ld n a => cases n <;> simp only [Kd.sem] at h1 ⊢ <;> (obtain ⟨ad, u, e1, e2, rfl, _⟩ := h1; exact ⟨ad, u, e1, e2, hm _ h2⟩)
  case lnm x =>
    obtain ⟨r, h0, h1⟩ := h1
    cases r with
    | none => obtain ⟨rfl, _⟩ := h1; exact ⟨none, h0, hm _ h2⟩
    | some r => obtain ⟨es, c, h3, rfl, _⟩ := h1; exact ⟨some r, h0, es, c, h3, hm _ h2⟩
  case mv x => obtain ⟨u, e1, rfl, _⟩ := h1; exact ⟨u, e1, hm _ h2⟩
  case pick c a b => obtain ⟨t, u, e0, e1, rfl, _⟩ := h1; exact ⟨t, u, e0, e1, hm _ h2⟩
  case agg src => obtain ⟨cs, e1, rfl, _⟩ := h1; exact ⟨cs, e1, hm _ h2⟩
  case nilc x => obtain ⟨u, e0, e1, rfl, _⟩ := h1; exact ⟨u, e0, e1, hm _ h2⟩
  case bin op t x y => obtain ⟨u, z, r, e0, e1, e2, rfl, _⟩ := h1; exact ⟨u, z, r, e0, e1, e2, hm _ h2⟩
  case bini op x y => obtain ⟨k, n, k', m, r, e0, e1, e2, e3, rfl, _⟩ := h1; exact ⟨k, n, k', m, r, e0, e1, e2, e3, hm _ h2⟩
  case eqs neg fl x y => obtain ⟨u, z, b, e0, e1, e2, rfl, _⟩ := h1; exact ⟨u, z, b, e0, e1, e2, hm _ h2⟩
  case un op x => obtain ⟨u, r, e0, e1, rfl, _⟩ := h1; exact ⟨u, r, e0, e1, hm _ h2⟩
  case cv k x => obtain ⟨u, r, e0, rfl, _⟩ := h1; exact ⟨u, r, e0, hm _ h2⟩
  case fa off x => obtain ⟨ad, e0, rfl, _⟩ := h1; exact ⟨ad, e0, hm _ h2⟩
  case fld ag n off x => obtain ⟨cs, u, e0, e1, rfl, _⟩ := h1; exact ⟨cs, u, e0, e1, hm _ h2⟩
  case ia sz x i => obtain ⟨ad, len, cap, k, n, e0, e1, e2, e3, rfl, _⟩ := h1; exact ⟨ad, len, cap, k, n, e0, e1, e2, e3, hm _ h2⟩
  case iaa len sz x i => obtain ⟨ad, k, n, e0, e1, e2, e3, rfl, _⟩ := h1; exact ⟨ad, k, n, e0, e1, e2, e3, hm _ h2⟩
  case sl sz x lo hi mx =>
    obtain ⟨a, len, cap, l, u, m, e0, e1, e2, e3, e4, e5, e6, e7, rfl, _⟩ := h1
    exact ⟨a, len, cap, l, u, m, e0, e1, e2, e3, e4, e5, e6, e7, hm _ h2⟩
  case ln x => obtain ⟨a, n, c, e0, rfl, _⟩ := h1; exact ⟨a, n, c, e0, hm _ h2⟩
  case lns x => obtain ⟨s, e0, rfl, _⟩ := h1; exact ⟨s, e0, hm _ h2⟩
  case ext x i => obtain ⟨vs, u, e0, e1, rfl, _⟩ := h1; exact ⟨vs, u, e0, e1, hm _ h2⟩
  case cmp sc neg x y => obtain ⟨u, z, b, e0, e1, e2, rfl, _⟩ := h1; exact ⟨u, z, b, e0, e1, e2, hm _ h2⟩
  case cap x => obtain ⟨a, n, c, e0, rfl, _⟩ := h1; exact ⟨a, n, c, e0, hm _ h2⟩
  case lkp ok kt z x i => obtain ⟨m, key, es, r, e0, e1, e2, e3, rfl, _⟩ := h1; exact ⟨m, key, es, r, e0, e1, e2, e3, hm _ h2⟩
  case idx x i => obtain ⟨s, k, n, b, e0, e1, e2, e3, rfl, _⟩ := h1; exact ⟨s, k, n, b, e0, e1, e2, e3, hm _ h2⟩
  case mm mx x y => obtain ⟨k, n, k', m, e0, e1, rfl, _⟩ := h1; exact ⟨k, n, k', m, e0, e1, hm _ h2⟩
  case sls x lo hi => obtain ⟨s, l, u, e0, e1, e2, e3, e4, rfl, _⟩ := h1; exact ⟨s, l, u, e0, e1, e2, e3, e4, hm _ h2⟩
  case ent x => obtain ⟨r, m, si, se, la, es, c, st, e, e0, e1, e2, e3, e4, e5, rfl, _⟩ := h1; exact ⟨r, m, si, se, la, es, c, st, e, e0, e1, e2, e3, e4, e5, hm _ h2⟩
  case mki t x => obtain ⟨u, e0, rfl, _⟩ := h1; exact ⟨u, e0, hm _ h2⟩
  case mkf f cs => obtain ⟨vs, e0, rfl, _⟩ := h1; exact ⟨vs, e0, hm _ h2⟩

/-- What reads no memory yields the same at any heap. -/
theorem sem_free {k : Kd} (hq : quietK k = true) (hr : readsK k = false) {ρ : Env} {h h2 : Heap} {K : Value → Prop} (hs : k.sem P ρ h (fun v' h' => h' = h ∧ K v')) :
    k.sem P ρ h2 (fun v' h' => h' = h2 ∧ K v') := by
  cases k <;> simp only [quietK, readsK, Bool.false_eq_true, reduceCtorEq] at hq hr
  case sl sz x lo hi mx =>
    obtain ⟨a, len, cap, l, u, m, e0, e1, e2, e3, e4, e5, e6, e7, _, e8⟩ := hs
    exact ⟨a, len, cap, l, u, m, e0, e1, e2, e3, e4, e5, e6, e7, rfl, e8⟩
  all_goals (simp only [Kd.sem] at hs ⊢; simpa using hs)

theorem get_push_lt {h : Heap} {o x : Obj} {b : Nat} (hb : h[b]? = some x) : (h.push o)[b]? = some x := by
  have hlt : b < h.size := by
    rcases Nat.lt_or_ge b h.size with h' | h'
    · exact h'
    · rw [Array.getElem?_eq_none h'] at hb; cases hb
  rw [Array.getElem?_push_lt hlt, ← hb, Array.getElem?_eq_getElem hlt]

theorem heapCell_push {h : Heap} {o : Obj} {ad : Addr} {v : Value} (hv : heapCell h ad = some v) : heapCell (h.push o) ad = some v := by
  unfold heapCell at hv ⊢
  cases hb : h[ad.block]? with
  | none => simp [hb] at hv
  | some x =>
    have hlt : ad.block < h.size := by
      rcases Nat.lt_or_ge ad.block h.size with h' | h'
      · exact h'
      · rw [Array.getElem?_eq_none h'] at hb; cases hb
    have : (h.push o)[ad.block]? = some x := by rw [Array.getElem?_push_lt hlt]; rw [Array.getElem?_eq_getElem hlt] at hb; exact hb
    rw [this]; rw [hb] at hv; exact hv

theorem heapCells_push {h : Heap} {o : Obj} {ad : Addr} : ∀ {n i : Nat} {vs : List Value}, heapCells h ad i n = some vs → heapCells (h.push o) ad i n = some vs
  | 0, i, vs, hv => by simpa [heapCells] using hv
  | n + 1, i, vs, hv => by
    simp only [heapCells] at hv ⊢
    cases h1 : heapCell h (ad.add i) with
    | none => simp [h1] at hv
    | some v =>
      cases h2 : heapCells h ad (i + 1) n with
      | none => simp [h1, h2] at hv
      | some ws => simp [h1, h2] at hv; rw [heapCell_push h1, heapCells_push h2]; simp [hv]

def pushSafe : Kd → Bool
  | .bin .. => false
  | _ => true

theorem sem_push {k : Kd} (hq : quietK k = true) (hp : pushSafe k = true) {ρ : Env} {h : Heap} {o : Obj} {K : Value → Prop} (hs : k.sem P ρ h (fun v' h' => h' = h ∧ K v')) :
    k.sem P ρ (h.push o) (fun v' h' => h' = h.push o ∧ K v') := by
  by_cases hr : readsK k = false
  · exact sem_free P hq hr hs
  · cases k <;> simp only [quietK, readsK, pushSafe, Bool.false_eq_true, not_true_eq_false, reduceCtorEq, not_false_eq_true] at hq hr hp
    case ld n a =>
      cases n
      · obtain ⟨ad, v, h0, h1, _, h2⟩ := hs; exact ⟨ad, v, h0, heapCell_push h1, rfl, h2⟩
      · obtain ⟨ad, v, h0, h1, _, h2⟩ := hs; exact ⟨ad, v, h0, heapCells_push h1, rfl, h2⟩
    case lnm x =>
      obtain ⟨r, h0, h1⟩ := hs
      cases r with
      | none => exact ⟨none, h0, rfl, h1.2⟩
      | some r =>
        obtain ⟨es, c, h2, _, h3⟩ := h1
        refine ⟨some r, h0, es, c, ?_, rfl, h3⟩
        exact get_push_lt h2
    case lkp ok kt z x i =>
      obtain ⟨m, key, es, r, h0, h1, h2, h3, _, h4⟩ := hs
      refine ⟨m, key, es, r, h0, h1, ?_, h3, rfl, h4⟩
      cases m <;> simp only [mapOf] at h2 ⊢
      rename_i o
      cases o with
      | none => exact h2
      | some b => obtain ⟨c, hb⟩ := h2; exact ⟨c, get_push_lt hb⟩
    case ent x =>
      obtain ⟨r, m, si, se, la, es, c, st, e, h0, h1, h2, h3, h4, h5, _, h6⟩ := hs
      exact ⟨r, m, si, se, la, es, c, st, e, h0, get_push_lt h1, h2, get_push_lt h3, h4, h5, rfl, h6⟩

theorem sem_alloc {k : Kd} (ha : allocK k = true) {ρ : Env} {h : Heap} {K : Value → Heap → Prop} (hs : k.sem P ρ h K) :
    k.sem P ρ h (fun v h' => (∃ o, h' = h.push o) ∧ K v h') := by
  cases k <;> simp only [allocK, Bool.false_eq_true] at ha
  case new T cells => exact ⟨⟨_, rfl⟩, hs⟩
  case box T x => obtain ⟨v, h1, h2⟩ := hs; exact ⟨v, h1, ⟨_, rfl⟩, h2⟩
  case bsl T src len => obtain ⟨cs, h1, h2⟩ := hs; exact ⟨cs, h1, ⟨_, rfl⟩, h2⟩
  case mkm => exact ⟨⟨_, rfl⟩, hs⟩
  case rng x => obtain ⟨b, es, c, h1, h2, h3⟩ := hs; exact ⟨b, es, c, h1, h2, ⟨_, rfl⟩, h3⟩
  case mks T sz bytes z l c => obtain ⟨n, m, h1, h2, h3, h4, h5, h6⟩ := hs; exact ⟨n, m, h1, h2, h3, h4, h5, ⟨_, rfl⟩, h6⟩

end
end Go.SL
