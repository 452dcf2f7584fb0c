/- The walk's own words, part O: a body made shorter: regions that stand one behind the other are one; what only hands a value on is struck. Conditions: none. -/
import Derived.Test.YtgcmglieciaifaaSlH
set_option linter.unusedSimpArgs false
set_option linter.unusedVariables false
set_option linter.unusedSectionVars false
namespace Go.SL
open Go

/-! ### Regions one behind the other -/
def app : Tr → Tr → Tr
  | .done, u => u
  | .st c t, u => .st c (app t u)
  | .ag c t, u => .ag c (app t u)
  | .both a b, u => .both (app a u) (app b u)
def lin : Tr → Bool
  | .done => true
  | .st _ t => lin t
  | .ag _ t => lin t
  | .both _ _ => false
def sq : CC → CC → CC
  | .skip, k => k
  | .exit i, _ => .exit i
  | .ret, _ => .ret
  | .ops t, .ops u => bif lin t then .ops (app t u) else .seq (.ops t) (.ops u)
  | .ops t, .seq (.ops u) z => bif lin t then .seq (.ops (app t u)) z else .seq (.ops t) (.seq (.ops u) z)
  | a, .skip => a
  | a, k => .seq a k
def flat : CC → CC → CC
  | .skip, k => k
  | .exit i, _ => .exit i
  | .ret, _ => .ret
  | .ops t, k => sq (.ops t) k
  | .seq a b, k => flat a (flat b k)
  | .cond o a b, k => sq (.cond o (flat a .skip) (flat b .skip)) k
  | .block id a, k => sq (.block id (flat a .skip)) k
  | .loop a, k => sq (.loop (flat a .skip)) k
  | .rangeF g ps x y, k => sq (.rangeF g ps (flat x .skip) (flat y .skip)) k

section
variable {P : Program}
theorem runT_app : ∀ {t u : Tr} {ρ : Env} {h : Heap} {K : Env → Heap → Prop}, runT P (app t u) ρ h K → runT P t ρ h fun ρ h => runT P u ρ h K
  | .done, _, _, _, _, H => H
  | .st c t, _, _, _, _, H => semG_mono Env.sub.rfl (fun _ _ H => runT_app H) H
  | .ag c t, _, _, _, _, H => ⟨H.1, runT_app H.2⟩
  | .both a b, _, _, _, _, H => ⟨runT_app H.1, runT_app H.2⟩
theorem opsH_app {t u : Tr} {K : Fr → Heap → Prop} {φ : Fr} {h : Heap} (H : opsH P (app t u) K φ h) : opsH P t (opsH P u K) φ h := by
  obtain ⟨M, H⟩ := H
  refine ⟨M, fun ρ h1 h2 => runT_mono' (fun ρ' h' H2 φ' hφ => ⟨keyMax ρ', fun ρ2 h3 h4 => ?_⟩) (runT_app (H ρ h1 h2))⟩
  exact runT_sub (sub_of hφ h3 h4) (fun _ _ _ hs k φ2 hφ2 => k φ2 (hφ2.sub hs)) H2
theorem seqH_skip {Q : Exit → Fr → Heap → Prop} : ∀ e φ h, Q e φ h → seqH (wpC P .skip Q) Q e φ h
  | .normal, _, _, x => x
  | .exit _, _, _, x => x
  | .ret, _, _, x => x
  | .goto _, _, _, x => x
  | .panic _, _, _, x => x
  | .outgrown, _, _, x => x
theorem seqH_skip' {Q : Exit → Fr → Heap → Prop} : ∀ e φ h, seqH (wpC P .skip Q) Q e φ h → Q e φ h
  | .normal, _, _, x => x
  | .exit _, _, _, x => x
  | .ret, _, _, x => x
  | .goto _, _, _, x => x
  | .panic _, _, _, x => x
  | .outgrown, _, _, x => x
theorem sq_ok {a k : CC} {Q : Exit → Fr → Heap → Prop} {φ : Fr} {h : Heap} (H : wpC P (sq a k) Q φ h) : wpC P (.seq a k) Q φ h := by
  unfold sq at H
  split at H
  · exact H
  · exact H
  · exact H
  · rename_i t u
    cases e : lin t with
    | false => rw [e] at H; exact H
    | true => rw [e] at H; exact opsH_app (P := P) (K := Q .normal) H
  · rename_i t u z
    cases e : lin t with
    | false => rw [e] at H; exact H
    | true => rw [e] at H; exact opsH_app (P := P) (K := wpC P z Q) H
  · show wpC P a (seqH (wpC P .skip Q) Q) φ h
    exact wpC_mono seqH_skip H
  · exact H
theorem flat_ok : ∀ {a k : CC} {Q : Exit → Fr → Heap → Prop} {φ : Fr} {h : Heap}, wpC P (flat a k) Q φ h → wpC P (.seq a k) Q φ h
  | .skip, _, _, _, _, H => H
  | .exit _, _, _, _, _, H => H
  | .ret, _, _, _, _, H => H
  | .ops t, _, _, _, _, H => sq_ok H
  | .seq a b, k, Q, φ, h, H => by
    have H1 : wpC P (.seq a (flat b k)) Q φ h := flat_ok H
    refine wpC_mono (cc := a) (Q' := seqH (wpC P b (seqH (wpC P k Q) Q)) (seqH (wpC P k Q) Q)) ?_ H1
    intro e φ' h' x
    cases e with
    | normal => exact flat_ok (a := b) (k := k) x
    | _ => exact x
  | .cond o a b, k, Q, φ, h, H => by
    obtain ⟨x, h0, h1, h2⟩ := sq_ok H
    exact ⟨x, h0, fun e => wpC_mono seqH_skip' (flat_ok (h1 e)), fun e => wpC_mono seqH_skip' (flat_ok (h2 e))⟩
  | .block id a, k, Q, φ, h, H => wpC_mono (cc := a) seqH_skip' (flat_ok (sq_ok H))
  | .loop a, k, Q, φ, h, H => by
    obtain ⟨I, h0, h1⟩ := sq_ok H
    exact ⟨I, h0, fun n φ h hi => wpC_mono (cc := a) seqH_skip' (flat_ok (h1 n φ h hi))⟩
  | .rangeF g ps x y, k, Q, φ, h, H => by
    obtain ⟨fid, lb, hg, H⟩ := sq_ok H
    exact ⟨fid, lb, hg, fun r l h1 e1 e2 hr => H r l h1 e1 e2 fun vs h2 K hlen hl hw => hr vs h2 K hlen hl
      (wpC_mono (cc := x) (fun e φ' h' z => by obtain ⟨z1, z2, z3⟩ := seqH_skip' (P := P) e φ' h' z; exact ⟨z1, z2, wpC_mono (cc := y) seqH_skip' (flat_ok z3)⟩) (flat_ok hw))⟩
end

/-! ### What only hands a value on -/
def tb (E d : Nat) : Bool := Nat.beq (Nat.land (Nat.shiftRight E d) 1) 1
abbrev Ent := Nat × Operand × Option (Nat × Bool)
def geq : Option (Nat × Bool) → Option (Nat × Bool) → Bool
  | none, none => true
  | some (a, x), some (b, y) => Nat.beq a b && bif x then y else !y
  | _, _ => false
theorem geq_eq : ∀ {a b : Option (Nat × Bool)}, geq a b = true → a = b
  | none, none, _ => rfl
  | some (a, x), some (b, y), h => by
    simp only [geq, Bool.and_eq_true] at h
    have := Nat.eq_of_beq_eq_true h.1
    subst this
    cases x <;> cases y <;> simp_all
  | none, some _, h => by cases h
  | some _, none, h => by cases h
def look : List Ent → Nat → Option (Nat × Bool) → Option Operand
  | [], _, _ => none
  | (d, x, g') :: r, t, g => bif Nat.beq d t && (geq g' none || geq g' g) then some x else look r t g
def sbf (E : Nat) (σ : List Ent) (g : Option (Nat × Bool)) : Operand → Operand
  | .tmp t => bif tb E t then (look σ t g).getD (.tmp t) else .tmp t
  | o => o
def opOk (E : Nat) (σ : List Ent) (g : Option (Nat × Bool)) : Operand → Bool
  | .tmp t => !tb E t || (look σ t g).isSome
  | _ => true
def okK (E : Nat) (σ : List Ent) (g : Option (Nat × Bool)) : Kd → Bool
  | .raw _ => Nat.beq E 0
  | .bin _ _ x y => opOk E [] none x && opOk E [] none y
  | k => k.operands.all (opOk E σ g)
def gOk (E : Nat) : Option (Nat × Bool) → Bool
  | none => true
  | some (t, _) => !tb E t
def dOk (E : Nat) : Option Nat → Bool
  | none => true
  | some d => !tb E d
def tellsOf (e : Nat) (x : Ent) : Bool := Nat.beq x.1 e || (match x.2.1 with | .tmp s => Nat.beq s e | _ => false) || (match x.2.2 with | some (t, _) => Nat.beq t e | none => false)
def killE : Option Nat → List Ent → List Ent
  | none, σ => σ
  | some e, σ => σ.filter fun x => !tellsOf e x
def mvOf (E : Nat) : COp → Option (Nat × Operand)
  | ⟨some d, .mv x, _⟩ => bif tb E d then some (d, x) else none
  | _ => none
def optT (E : Nat) : List Ent → Tr → Option Tr
  | _, .done => some .done
  | σ, .st c t => bif gOk E c.guard && okK E σ c.guard c.k then
      match mvOf E c with
      | some (d, x) => optT E ((d, sbf E σ c.guard x, c.guard) :: killE (some d) σ) t
      | none => bif dOk E c.dst then (optT E (killE c.dst σ) t).map (.st ⟨c.dst, c.k.mp (sbf E σ c.guard), c.guard⟩) else none
    else none
  | σ, .ag c t => bif gOk E c.guard && okK E σ c.guard c.k && dOk E c.dst then (optT E σ t).map (.ag ⟨c.dst, c.k.mp (sbf E σ c.guard), c.guard⟩) else none
  | σ, .both t u => match optT E σ t, optT E σ u with
    | some a, some b => some (.both a b)
    | _, _ => none

/-- Slots whose being known is asked for. -/
def opM : Operand → Nat
  | .tmp t => t + 1
  | _ => 0
def gM : Option (Nat × Bool) → Nat
  | none => 0
  | some (t, _) => t + 1
def cM (c : COp) : Nat := max (gM c.guard) (match c.k with | .mv x => opM x | _ => 0)
def trM : Tr → Nat
  | .done => 0
  | .st c t => max (cM c) (trM t)
  | .ag _ t => trM t
  | .both t u => max (trM t) (trM u)

def R1 (E : Nat) (ρ1 ρ0 : Env) : Prop := ∀ t, tb E t = false → ∀ v, ρ1.lk t = some v → ρ0.lk t = some v
def gHolds (ρ : Env) (g : Option (Nat × Bool)) : Prop := ∀ t b, g = some (t, b) → ρ.lk t = some (.bool b)
def R2 (σ : List Ent) (ρ1 ρ0 : Env) : Prop := ∀ d x g, (d, x, g) ∈ σ → gHolds ρ0 g → ∀ v, ρ1.ev x = some v → ρ0.lk d = some v

theorem look_mem : ∀ {σ : List Ent} {t : Nat} {g : Option (Nat × Bool)} {x : Operand}, look σ t g = some x → ∃ g', (t, x, g') ∈ σ ∧ (g' = none ∨ g' = g)
  | (d, y, g') :: r, t, g, x, h => by
    simp only [look] at h
    cases hc : (Nat.beq d t && (geq g' none || geq g' g)) with
    | true =>
      rw [hc] at h
      simp only [Bool.and_eq_true, Bool.or_eq_true] at hc
      have := Nat.eq_of_beq_eq_true hc.1
      subst this
      injection h with h
      subst h
      exact ⟨g', by simp, hc.2.imp geq_eq geq_eq⟩
    | false =>
      rw [hc] at h
      obtain ⟨g2, h1, h2⟩ := look_mem (σ := r) h
      exact ⟨g2, List.mem_cons_of_mem _ h1, h2⟩
theorem gHolds_none (ρ : Env) : gHolds ρ none := fun _ _ e => by cases e
theorem sbf_ok {E : Nat} {σ : List Ent} {ρ1 ρ0 : Env} {g : Option (Nat × Bool)} (h1 : R1 E ρ1 ρ0) (h2 : R2 σ ρ1 ρ0) (hg : gHolds ρ0 g) {o : Operand} (ho : opOk E σ g o = true) {v : Value} (e : ρ1.ev (sbf E σ g o) = some v) : ρ0.ev o = some v := by
  cases o with
  | tmp t =>
    simp only [sbf, opOk] at e ho
    cases ht : tb E t with
    | false => rw [ht] at e; exact h1 t ht v e
    | true =>
      rw [ht] at e ho
      simp only [Bool.not_true, Bool.false_or, Option.isSome_iff_exists] at ho
      obtain ⟨x, hx⟩ := ho
      rw [hx] at e
      obtain ⟨g', hm, hc⟩ := look_mem hx
      refine h2 t x g' hm ?_ v e
      rcases hc with rfl | rfl
      · exact gHolds_none _
      · exact hg
  | _ => exact e
theorem opOk_nil {E : Nat} {σ : List Ent} {g : Option (Nat × Bool)} {o : Operand} (h : opOk E [] none o = true) : sbf E σ g o = o ∧ opOk E σ g o = true := by
  cases o with
  | tmp t =>
    simp only [opOk, look, Option.isSome_none, Bool.or_false, Bool.not_eq_true'] at h
    simp [sbf, opOk, h]
  | _ => exact ⟨rfl, rfl⟩
theorem tb_zero (t : Nat) : tb 0 t = false := by
  show Nat.beq (Nat.land (0 >>> t) 1) 1 = false
  rw [Nat.zero_shiftRight]; rfl
theorem okK_lift {P : Program} {E : Nat} {σ : List Ent} {ρ1 ρ0 : Env} {g : Option (Nat × Bool)} {k : Kd} (h1 : R1 E ρ1 ρ0) (h2 : R2 σ ρ1 ρ0) (hg : gHolds ρ0 g) (hk : okK E σ g k = true) {h : Heap} {K K' : Value → Heap → Prop}
    (hm : ∀ v h, K v h → K' v h) (H : (k.mp (sbf E σ g)).sem P ρ1 h K) : k.sem P ρ0 h K' := by
  refine Kd.lift ?_ ?_ ?_ hm H
  · intro o ho v e
    refine sbf_ok h1 h2 hg ?_ e
    unfold okK at hk
    split at hk
    · have hE := Nat.eq_of_beq_eq_true hk; subst hE
      cases o with
      | tmp t => simp [opOk, tb_zero]
      | _ => rfl
    · simp only [Bool.and_eq_true] at hk
      simp only [Kd.operands, List.mem_cons, List.not_mem_nil, or_false] at ho
      rcases ho with rfl | rfl
      · exact (opOk_nil hk.1).2
      · exact (opOk_nil hk.2).2
    · exact (List.all_eq_true.1 hk) o ho
  · rintro op t x y rfl
    simp only [okK, Bool.and_eq_true] at hk
    exact ⟨(opOk_nil hk.1).1, (opOk_nil hk.2).1⟩
  · rintro o rfl
    have hE := Nat.eq_of_beq_eq_true hk; subst hE
    exact fun t v e => h1 t (tb_zero t) v e

theorem R1.put {E : Nat} {ρ1 ρ0 : Env} (h : R1 E ρ1 ρ0) (d : Option Nat) (v : Value) : R1 E (ρ1.put d v) (ρ0.put d v) := by
  cases d with
  | none => exact h
  | some d =>
    intro t ht u e
    simp only [Env.put, lk_cons] at e ⊢
    split
    · rename_i c; rw [if_pos c] at e; exact e
    · rename_i c; rw [if_neg c] at e; exact h t ht u e
theorem lk_put_ne {ρ : Env} {d : Option Nat} {v : Value} {t : Nat} (h : d ≠ some t) : (ρ.put d v).lk t = ρ.lk t := by
  cases d with
  | none => rfl
  | some d => simp only [Env.put, lk_cons]; rw [if_neg (fun e => h (by rw [e]))]
theorem Tot.put {M : Nat} {ρ : Env} (h : Tot M ρ) (d : Option Nat) (v : Value) : Tot M (ρ.put d v) := by
  cases d with
  | none => exact h
  | some d =>
    intro t ht
    simp only [Env.put, lk_cons]
    split
    · exact ⟨_, rfl⟩
    · exact h t ht
theorem tells_not {e d : Nat} {x : Operand} {g : Option (Nat × Bool)} (h : tellsOf e (d, x, g) = false) : d ≠ e ∧ x ≠ .tmp e ∧ ∀ t b, g = some (t, b) → t ≠ e := by
  simp only [tellsOf, Bool.or_eq_false_iff] at h
  obtain ⟨⟨h1, h2⟩, h3⟩ := h
  refine ⟨fun c => by subst c; simp at h1, fun c => by subst c; simp at h2, fun t b hg c => by subst hg; subst c; simp at h3⟩
theorem R2.kill {σ : List Ent} {ρ1 ρ0 : Env} (h : R2 σ ρ1 ρ0) (d : Option Nat) {v1 v0 : Value} {ρ1' : Env} (h1 : ρ1' = ρ1.put d v1 ∨ ρ1' = ρ1) : R2 (killE d σ) ρ1' (ρ0.put d v0) := by
  cases d with
  | none => rcases h1 with rfl | rfl <;> exact h
  | some e =>
    intro d x g hm hg v hv
    simp only [killE, List.mem_filter, Bool.not_eq_true'] at hm
    obtain ⟨hm, hk⟩ := hm
    obtain ⟨n1, n2, n3⟩ := tells_not hk
    have hv' : ρ1.ev x = some v := by
      rcases h1 with rfl | rfl
      · cases x with
        | tmp s =>
          have hne : (some e : Option Nat) ≠ some s := fun c => n2 (by injection c with c; rw [c])
          have : (ρ1.put (some e) v1).lk s = ρ1.lk s := lk_put_ne hne
          simp only [Env.ev] at hv ⊢
          rw [← this]; exact hv
        | _ => exact hv
      · exact hv
    rw [lk_put_ne (fun c => n1 (by injection c with c; exact c.symm))]
    refine h d x g hm (fun t b ht => ?_) v hv'
    have := hg t b ht
    rwa [lk_put_ne (fun c => n3 t b ht (by injection c with c; exact c.symm))] at this

theorem mvOf_some {E : Nat} {c : COp} {d : Nat} {x : Operand} (h : mvOf E c = some (d, x)) : ∃ g, c = ⟨some d, .mv x, g⟩ ∧ tb E d = true := by
  unfold mvOf at h
  split at h
  · rename_i d' x' g
    cases ht : tb E d' with
    | true => rw [ht] at h; simp only [cond_true, Option.some.injEq, Prod.mk.injEq] at h; obtain ⟨rfl, rfl⟩ := h; exact ⟨g, rfl, ht⟩
    | false => rw [ht] at h; cases h
  · cases h
theorem Tot.ev {M : Nat} {ρ : Env} (h : Tot M ρ) {x : Operand} (hx : opM x ≤ M) : ∃ v, ρ.ev x = some v := by
  cases x with
  | tmp t => exact h t (by simp only [opM] at hx; omega)
  | _ => exact ⟨_, rfl⟩
theorem semG_lift {P : Program} {E : Nat} {σ : List Ent} {ρ1 ρ0 : Env} {d : Option Nat} {k : Kd} {g : Option (Nat × Bool)} (h1 : R1 E ρ1 ρ0) (h2 : R2 σ ρ1 ρ0) (hgo : gOk E g = true) (hk : okK E σ g k = true) {h : Heap} {K K' : Value → Heap → Prop}
    (hm : ∀ v h, K v h → K' v h) (H : semG P ⟨d, k.mp (sbf E σ g), g⟩ ρ1 h K) : semG P ⟨d, k, g⟩ ρ0 h K' := by
  cases g with
  | none => exact okK_lift h1 h2 (gHolds_none _) hk hm H
  | some tb' =>
    obtain ⟨t, b⟩ := tb'
    obtain ⟨gv, hg, a1, a2⟩ := H
    have ht : tb E t = false := by simpa [gOk] using hgo
    have hg0 := h1 t ht _ hg
    refine ⟨gv, hg0, fun e => okK_lift h1 h2 (fun t' b' e' => ?_) hk hm (a1 e), fun e => hm _ _ (a2 e)⟩
    cases e'; rw [hg0, e]

theorem optT_ok {P : Program} {E : Nat} : ∀ {t t' : Tr} {σ : List Ent} {ρ1 ρ0 : Env} {h : Heap} {K1 K0 : Env → Heap → Prop} {M : Nat}, optT E σ t = some t' → R1 E ρ1 ρ0 → R2 σ ρ1 ρ0 → Tot M ρ0 → trM t ≤ M →
    (∀ ρ1 ρ0 h, R1 E ρ1 ρ0 → K1 ρ1 h → K0 ρ0 h) → runT P t' ρ1 h K1 → runT P t ρ0 h K0
  | .done, t', σ, ρ1, ρ0, h, K1, K0, M, ho, h1, h2, hT, hM, hK, H => by
    simp only [optT, Option.some.injEq] at ho; subst ho; exact hK _ _ _ h1 H
  | .both t u, t', σ, ρ1, ρ0, h, K1, K0, M, ho, h1, h2, hT, hM, hK, H => by
    simp only [optT] at ho
    simp only [trM] at hM
    split at ho
    · rename_i a b ha hb
      cases ho
      exact ⟨optT_ok ha h1 h2 hT (by omega) hK H.1, optT_ok hb h1 h2 hT (by omega) hK H.2⟩
    · cases ho
  | .ag c t, t', σ, ρ1, ρ0, h, K1, K0, M, ho, h1, h2, hT, hM, hK, H => by
    obtain ⟨dst, k, g⟩ := c
    simp only [optT] at ho
    simp only [trM] at hM
    cases hc : (gOk E g && okK E σ g k && dOk E dst) with
    | false => rw [hc] at ho; cases ho
    | true =>
      rw [hc] at ho
      simp only [Bool.and_eq_true] at hc
      simp only [cond_true, Option.map_eq_some_iff] at ho
      obtain ⟨u, hu, rfl⟩ := ho
      refine ⟨semG_lift h1 h2 hc.1.1 hc.1.2 ?_ H.1, optT_ok hu h1 h2 hT hM hK H.2⟩
      rintro v h' ⟨e, hd⟩
      refine ⟨e, fun d hd' => h1 d ?_ _ (hd d hd')⟩
      have hc2 := hc.2
      simp only at hd'
      subst hd'
      simpa [dOk] using hc2
  | .st c t, t', σ, ρ1, ρ0, h, K1, K0, M, ho, h1, h2, hT, hM, hK, H => by
    simp only [optT] at ho
    simp only [trM] at hM
    cases hc : (gOk E c.guard && okK E σ c.guard c.k) with
    | false => rw [hc] at ho; cases ho
    | true =>
      rw [hc] at ho
      simp only [Bool.and_eq_true] at hc
      simp only [cond_true] at ho
      split at ho
      · rename_i d x hmv
        obtain ⟨g, rfl, hd⟩ := mvOf_some hmv
        simp only at ho hc
        have hkx : opOk E σ g x = true := by
          have := hc.2
          simpa [okK, Kd.operands] using this
        obtain ⟨u, hu⟩ := hT.ev (x := x) (by simp only [cM] at hM; omega)
        have go : ∀ w, (gHolds ρ0 g → w = u) → runT P t (ρ0.put (some d) w) h K0 := by
          intro w hw
          refine optT_ok ho ?_ ?_ (hT.put _ _) (by omega) hK H
          · intro s hs v e
            rw [lk_put_ne (fun c => by injection c with c; rw [c, hs] at hd; cases hd)]
            exact h1 s hs v e
          · intro d2 x2 g2 hm
            rcases List.mem_cons.1 hm with he | hm
            · simp only [Prod.mk.injEq] at he
              obtain ⟨rfl, rfl, rfl⟩ := he
              intro hg v hv
              have hg0 : gHolds ρ0 g2 := fun t b e => by
                have := hg t b e
                subst e
                have hgo := hc.1
                simp only [gOk, Bool.not_eq_true'] at hgo
                rwa [lk_put_ne (fun c => by injection c with c; rw [c, hgo] at hd; cases hd)] at this
              have h3 := sbf_ok h1 h2 hg0 hkx hv
              rw [hu] at h3
              injection h3 with h3
              simp only [Env.put, lk_cons, if_true]
              rw [hw hg0, h3]
            · exact (R2.kill h2 (some d) (v1 := w) (v0 := w) (.inr rfl)) d2 x2 g2 hm
        cases g with
        | none => exact ⟨u, hu, go u fun _ => rfl⟩
        | some tb' =>
          obtain ⟨t0, b⟩ := tb'
          obtain ⟨gv, hgv⟩ := hT t0 (by simp only [cM, gM] at hM; omega)
          refine ⟨gv, hgv, fun e => ⟨u, hu, go u fun _ => rfl⟩, fun e => go undef fun hg => ?_⟩
          have := hg t0 b rfl
          rw [hgv] at this
          injection this with this
          exact absurd this e
      · cases hdo : dOk E c.dst with
        | false => rw [hdo] at ho; cases ho
        | true =>
          rw [hdo] at ho
          simp only [cond_true, Option.map_eq_some_iff] at ho
          obtain ⟨u, hu, rfl⟩ := ho
          obtain ⟨dst, k, g⟩ := c
          exact semG_lift h1 h2 hc.1 hc.2 (fun v h' Hn => optT_ok hu (h1.put _ _) (R2.kill h2 _ (.inl rfl)) (hT.put _ _) (by omega) hK Hn) H

/-! ### Two that are one -/
def fuseN (E : Nat) : COp → COp → Option COp
  | ⟨some a, .nilc x, g⟩, ⟨some e, .fa off (.tmp a'), g'⟩ => bif tb E a && Nat.beq a a' && geq g g' && gOk E g && opOk E [] none x && !tb E e then some ⟨some e, .fa off x, g⟩ else none
  | _, _ => none
def fuseM (E : Nat) : COp → COp → Option COp
  | ⟨some a, k, none⟩, ⟨some b, .mv (.tmp a'), none⟩ => bif tb E a && Nat.beq a a' && !tb E b && okK E [] none k then some ⟨some b, k, none⟩ else none
  | _, _ => none
def fuse (E : Nat) (c c2 : COp) : Option COp := match fuseN E c c2 with
  | some x => some x
  | none => fuseM E c c2
def peT (E : Nat) : Tr → Option Tr
  | .done => some .done
  | .st c (.st c2 t) => match fuse E c c2 with
    | some c' => (peT E t).map (.st c')
    | none => bif gOk E c.guard && okK E [] none c.k && dOk E c.dst then (peT E (.st c2 t)).map (.st c) else none
  | .st c t => bif gOk E c.guard && okK E [] none c.k && dOk E c.dst then (peT E t).map (.st c) else none
  | .ag c t => bif gOk E c.guard && okK E [] none c.k && dOk E c.dst then (peT E t).map (.ag c) else none
  | .both t u => match peT E t, peT E u with
    | some a, some b => some (.both a b)
    | _, _ => none
theorem R2_nil (ρ1 ρ0 : Env) : R2 [] ρ1 ρ0 := fun _ _ _ h => by cases h
theorem opOk_sbf {E : Nat} {g : Option (Nat × Bool)} {o : Operand} : sbf E [] g o = o := by
  cases o with
  | tmp t => simp only [sbf, look, Option.getD_none]; cases tb E t <;> rfl
  | _ => rfl
theorem sbf_id (E : Nat) (g : Option (Nat × Bool)) : sbf E [] g = fun o => o := funext fun o => opOk_sbf
theorem okK_g {E : Nat} {g : Option (Nat × Bool)} {k : Kd} (h : okK E [] none k = true) : okK E [] g k = true := by
  unfold okK at h ⊢
  split at h
  · exact h
  · exact h
  · rw [List.all_eq_true] at h ⊢
    intro o ho
    have := h o ho
    cases o with
    | tmp t => simpa [opOk, look] using this
    | _ => rfl
theorem semG_lift0 {P : Program} {E : Nat} {ρ1 ρ0 : Env} {d d' : Option Nat} {k : Kd} {g : Option (Nat × Bool)} (h1 : R1 E ρ1 ρ0) (hgo : gOk E g = true) (hk : okK E [] none k = true) {h : Heap} {K K' : Value → Heap → Prop}
    (hm : ∀ v h, K v h → K' v h) (H : semG P ⟨d', k, g⟩ ρ1 h K) : semG P ⟨d, k, g⟩ ρ0 h K' := by
  have e : k.mp (sbf E [] g) = k := by rw [sbf_id, Kd.mp_id]
  have H' : semG P ⟨d, k.mp (sbf E [] g), g⟩ ρ1 h K := by rw [e]; exact H
  exact semG_lift h1 (R2_nil _ _) hgo (okK_g hk) hm H'
theorem fuse_ok {P : Program} {E : Nat} {c c2 c' : COp} {ρ1 ρ0 : Env} {h : Heap} {K1 K0 : Env → Heap → Prop} (hf : fuse E c c2 = some c') (h1 : R1 E ρ1 ρ0)
    (hK : ∀ ρ1 ρ0 h, R1 E ρ1 ρ0 → K1 ρ1 h → K0 ρ0 h) (hT : ∀ v w, K0 ((ρ0.put c.dst v).put c2.dst w) h → True)
    (H : semG P c' ρ1 h fun v h' => K1 (ρ1.put c'.dst v) h') : semG P c ρ0 h fun v h' => semG P c2 (ρ0.put c.dst v) h' fun w h2 => K0 ((ρ0.put c.dst v).put c2.dst w) h2 := by
  have hput : ∀ (a e : Nat) (v w : Value), tb E a = true → R1 E (ρ1.put (some e) w) ((ρ0.put (some a) v).put (some e) w) := by
    intro a e v w ha
    refine R1.put ?_ _ _
    intro t ht u hu
    rw [lk_put_ne (fun c => by injection c with c; rw [c, ht] at ha; cases ha)]
    exact h1 t ht u hu
  unfold fuse at hf
  split at hf
  · rename_i c1 hn
    cases hf
    unfold fuseN at hn
    split at hn
    · rename_i a x g e off a' g'
      cases hc : (tb E a && Nat.beq a a' && geq g g' && gOk E g && opOk E [] none x && !tb E e) with
      | false => rw [hc] at hn; cases hn
      | true =>
        rw [hc] at hn
        simp only [cond_true, Option.some.injEq] at hn
        subst hn
        simp only [Bool.and_eq_true, Bool.not_eq_true'] at hc
        obtain ⟨⟨⟨⟨⟨ha, haa⟩, hgg⟩, hgo⟩, hx⟩, he⟩ := hc
        have := Nat.eq_of_beq_eq_true haa; subst this
        have := geq_eq hgg; subst this
        have hself : ∀ v : Value, (ρ0.put (some a) v).lk a = some v := fun v => by simp [Env.put, lk_cons]
        have key : ((Kd.fa off x).sem P ρ1 h fun v h' => K1 (ρ1.put (some e) v) h') → (Kd.nilc x).sem P ρ0 h fun v h' => (Kd.fa off (.tmp a)).sem P (ρ0.put (some a) v) h' fun w h2 => K0 ((ρ0.put (some a) v).put (some e) w) h2 := by
          rintro ⟨ad, e1, e2⟩
          have e1' : ρ0.ev x = some (.pointer (some ad)) := sbf_ok h1 (R2_nil _ _) (gHolds_none _) hx (by rw [opOk_sbf]; exact e1)
          exact ⟨_, e1', trivial, ad, hself _, hK _ _ _ (hput a e _ _ ha) e2⟩
        cases g with
        | none => exact key H
        | some tb' =>
          obtain ⟨t, b⟩ := tb'
          obtain ⟨gv, hg, b1, b2⟩ := H
          have ht : tb E t = false := by simpa [gOk] using hgo
          have hg0 := h1 t ht _ hg
          have hlk : ∀ v : Value, (ρ0.put (some a) v).lk t = some gv := fun v => by
            rw [lk_put_ne (fun c => by injection c with c; rw [c, ht] at ha; cases ha)]; exact hg0
          refine ⟨gv, hg0, fun hb => ?_, fun hb => ⟨gv, hlk _, fun hb' => absurd hb' hb, fun _ => hK _ _ _ (hput a e _ _ ha) (b2 hb)⟩⟩
          refine Kd.mono Env.sub.rfl (fun v h' hv => ?_) (key (b1 hb))
          exact ⟨gv, hlk _, fun _ => hv, fun hn => absurd hb hn⟩
    · cases hn
  unfold fuseM at hf
  split at hf
  · rename_i a k b a' hq
    cases hc : (tb E a && Nat.beq a a' && !tb E b && okK E [] none k) with
    | false => rw [hc] at hf; cases hf
    | true =>
      rw [hc] at hf
      simp only [cond_true, Option.some.injEq] at hf
      subst hf
      simp only [Bool.and_eq_true, Bool.not_eq_true'] at hc
      obtain ⟨⟨⟨ha, haa⟩, hb⟩, hk⟩ := hc
      have := Nat.eq_of_beq_eq_true haa; subst this
      refine semG_lift0 (d := some a) h1 rfl hk (fun v h' Hn => ?_) H
      exact ⟨v, by simp [Env.ev, Env.put, lk_cons], hK _ _ _ (hput a b v v ha) Hn⟩
  · cases hf
theorem peT_ok {P : Program} {E : Nat} : ∀ {t t' : Tr} {ρ1 ρ0 : Env} {h : Heap} {K1 K0 : Env → Heap → Prop}, peT E t = some t' → R1 E ρ1 ρ0 → (∀ ρ1 ρ0 h, R1 E ρ1 ρ0 → K1 ρ1 h → K0 ρ0 h) → runT P t' ρ1 h K1 → runT P t ρ0 h K0
  | .done, t', ρ1, ρ0, h, K1, K0, ho, h1, hK, H => by
    simp only [peT, Option.some.injEq] at ho; subst ho; exact hK _ _ _ h1 H
  | .both t u, t', ρ1, ρ0, h, K1, K0, ho, h1, hK, H => by
    simp only [peT] at ho
    split at ho
    · rename_i a b ha hb
      cases ho
      exact ⟨peT_ok ha h1 hK H.1, peT_ok hb h1 hK H.2⟩
    · cases ho
  | .ag c t, t', ρ1, ρ0, h, K1, K0, ho, h1, hK, H => by
    simp only [peT] at ho
    cases hc : (gOk E c.guard && okK E [] none c.k && dOk E c.dst) with
    | false => rw [hc] at ho; cases ho
    | true =>
      rw [hc] at ho
      simp only [Bool.and_eq_true] at hc
      simp only [cond_true, Option.map_eq_some_iff] at ho
      obtain ⟨u, hu, rfl⟩ := ho
      obtain ⟨dst, k, g⟩ := c
      refine ⟨semG_lift0 h1 hc.1.1 hc.1.2 ?_ H.1, peT_ok hu h1 hK H.2⟩
      rintro v h' ⟨e, hd⟩
      refine ⟨e, fun d hd' => h1 d ?_ _ (hd d hd')⟩
      have hc2 := hc.2
      simp only at hd'
      subst hd'
      simpa [dOk] using hc2
  | .st c t, t', ρ1, ρ0, h, K1, K0, ho, h1, hK, H => by
    have std : ∀ u, (gOk E c.guard && okK E [] none c.k && dOk E c.dst) = true → peT E t = some u → t' = .st c u → runT P (.st c t) ρ0 h K0 := by
      intro u hc hu e
      subst e
      simp only [Bool.and_eq_true] at hc
      obtain ⟨dst, k, g⟩ := c
      exact semG_lift0 h1 hc.1.1 hc.1.2 (fun v h' Hn => peT_ok hu (h1.put _ _) hK Hn) H
    cases t with
    | st c2 t2 =>
      simp only [peT] at ho
      split at ho
      · rename_i c' hf
        simp only [Option.map_eq_some_iff] at ho
        obtain ⟨u, hu, rfl⟩ := ho
        exact fuse_ok (K1 := fun ρ h => runT P u ρ h K1) (K0 := fun ρ h => runT P t2 ρ h K0) hf h1 (fun _ _ _ hr Hn => peT_ok hu hr hK Hn) (fun _ _ _ => trivial) H
      · cases hc : (gOk E c.guard && okK E [] none c.k && dOk E c.dst) with
        | false => rw [hc] at ho; cases ho
        | true =>
          rw [hc] at ho
          simp only [cond_true, Option.map_eq_some_iff] at ho
          obtain ⟨u, hu, rfl⟩ := ho
          exact std u hc hu rfl
    | _ =>
      simp only [peT] at ho
      cases hc : (gOk E c.guard && okK E [] none c.k && dOk E c.dst) with
      | false => rw [hc] at ho; cases ho
      | true =>
        rw [hc] at ho
        simp only [cond_true, Option.map_eq_some_iff] at ho
        obtain ⟨u, hu, rfl⟩ := ho
        exact std u hc hu rfl

/-! ### All regions of a body -/
def mapC (E : Nat) (f : Tr → Option Tr) : CC → Option CC
  | .skip => some .skip
  | .ops t => (f t).map .ops
  | .seq a b => match mapC E f a, mapC E f b with
    | some x, some y => some (.seq x y)
    | _, _ => none
  | .cond o a b => bif opOk E [] none o then match mapC E f a, mapC E f b with
    | some x, some y => some (.cond o x y)
    | _, _ => none
    else none
  | .block id a => (mapC E f a).map (.block id)
  | .loop a => (mapC E f a).map .loop
  | .exit i => some (.exit i)
  | .ret => some .ret
  | .rangeF g ps x y => bif opOk E [] none g then match mapC E f x, mapC E f y with
    | some x', some y' => some (.rangeF g ps x' y')
    | _, _ => none
    else none
def REq (E : Nat) (φ1 φ0 : Fr) : Prop := ∀ t, tb E t = false → φ1 t = φ0 t
/-- It does not matter that some slots hold something else. -/
def RegOk (P : Program) (E : Nat) (f : Tr → Option Tr) : Prop := ∀ t t', f t = some t' → ∃ M0, ∀ {ρ1 ρ0 : Env} {h : Heap} {K1 K0 : Env → Heap → Prop} {M : Nat}, R1 E ρ1 ρ0 → Tot M ρ0 → M0 ≤ M →
  (∀ ρ1 ρ0 h, R1 E ρ1 ρ0 → K1 ρ1 h → K0 ρ0 h) → runT P t' ρ1 h K1 → runT P t ρ0 h K0
theorem optT_reg (P : Program) (E : Nat) : RegOk P E (optT E []) := fun t t' h => ⟨trM t, fun h1 hT hM hK H => optT_ok h h1 (R2_nil _ _) hT hM hK H⟩
theorem peT_reg (P : Program) (E : Nat) : RegOk P E (peT E) := fun t t' h => ⟨0, fun h1 hT hM hK H => peT_ok h h1 hK H⟩
theorem opsH_reg {P : Program} {E : Nat} {f : Tr → Option Tr} (hf : RegOk P E f) {t t' : Tr} (ht : f t = some t') {φ1 φ0 : Fr} (hφ : REq E φ1 φ0) {h : Heap} {K : Fr → Heap → Prop} (H : opsH P t' K φ1 h) :
    opsH P t (fun φ0' h' => ∃ φ1', REq E φ1' φ0' ∧ K φ1' h') φ0 h := by
  obtain ⟨M0, hf⟩ := hf t t' ht
  obtain ⟨M, H⟩ := H
  refine ⟨max M M0, fun ρ0 ha hT => ?_⟩
  refine hf (ρ1 := full φ1 (max M M0)) (M := max M M0) ?_ hT (by omega) ?_ (H _ (full_agr _ _) (fun t ht => full_tot _ _ t (by omega)))
  · intro t ht v e
    have hlt : t < max M M0 := by
      rw [full_lk] at e; split at e
      · assumption
      · cases e
    obtain ⟨u, hu⟩ := hT t hlt
    have h1 := full_agr φ1 _ t v e
    rw [hφ t ht, ha t u hu] at h1
    rw [hu, h1]
  · intro ρ1 ρ0 h' hR hk φ0' hA
    refine ⟨fun t => bif tb E t then (ρ1.lk t).getD undef else φ0' t, fun t ht => by simp only [ht, cond_false], hk _ ?_⟩
    intro t v e
    cases ht : tb E t with
    | true => simp only [e, ht, cond_true, Option.getD_some]
    | false => simp only [ht, cond_false]; exact hA t v (hR t ht v e)
theorem opOk_ev {E : Nat} {φ1 φ0 : Fr} (hφ : REq E φ1 φ0) {o : Operand} (ho : opOk E [] none o = true) : φ0.ev o = φ1.ev o := by
  cases o with
  | tmp t => exact (hφ t (by simpa [opOk, look] using ho)).symm
  | _ => rfl
theorem REq.upds {E : Nat} : ∀ {ps : List Nat} {vs : List Value} {φ1 φ0 : Fr}, REq E φ1 φ0 → REq E (upds φ1 ps vs) (upds φ0 ps vs)
  | [], _, _, _, h => h
  | _ :: _, [], _, _, h => h
  | p :: ps, v :: vs, φ1, φ0, h => REq.upds (ps := ps) (vs := vs) (fun t ht => by unfold upd; split; rfl; exact h t ht)
theorem mapC_ok {P : Program} {E : Nat} {f : Tr → Option Tr} (hf : RegOk P E f) : ∀ {cc cc' : CC} {Q : Exit → Fr → Heap → Prop} {φ1 φ0 : Fr} {h : Heap}, mapC E f cc = some cc' → REq E φ1 φ0 → wpC P cc' Q φ1 h →
    wpC P cc (fun e φ0' h' => ∃ φ1', REq E φ1' φ0' ∧ Q e φ1' h') φ0 h
  | .skip, cc', Q, φ1, φ0, h, hm, hφ, H => by cases hm; exact ⟨φ1, hφ, H⟩
  | .exit _, cc', Q, φ1, φ0, h, hm, hφ, H => by cases hm; exact ⟨φ1, hφ, H⟩
  | .ret, cc', Q, φ1, φ0, h, hm, hφ, H => by cases hm; exact ⟨φ1, hφ, H⟩
  | .ops t, cc', Q, φ1, φ0, h, hm, hφ, H => by
    simp only [mapC, Option.map_eq_some_iff] at hm
    obtain ⟨t', ht, rfl⟩ := hm
    exact opsH_reg hf ht hφ H
  | .seq a b, cc', Q, φ1, φ0, h, hm, hφ, H => by
    simp only [mapC] at hm
    split at hm
    · rename_i x y ha hb
      cases hm
      refine wpC_mono (cc := a) ?_ (mapC_ok hf ha hφ (Q := seqH (wpC P y Q) Q) H)
      rintro e φ' h' ⟨φ1', hr, hq⟩
      cases e with
      | normal => exact mapC_ok hf hb hr hq
      | _ => exact ⟨φ1', hr, hq⟩
    · cases hm
  | .cond o a b, cc', Q, φ1, φ0, h, hm, hφ, H => by
    simp only [mapC] at hm
    cases ho : opOk E [] none o with
    | false => rw [ho] at hm; cases hm
    | true =>
      rw [ho] at hm
      simp only [cond_true] at hm
      split at hm
      · rename_i x y ha hb
        cases hm
        obtain ⟨v, h0, h1, h2⟩ := H
        exact ⟨v, by rw [opOk_ev hφ ho]; exact h0, fun e => mapC_ok hf ha hφ (h1 e), fun e => mapC_ok hf hb hφ (h2 e)⟩
      · cases hm
  | .block id a, cc', Q, φ1, φ0, h, hm, hφ, H => by
    simp only [mapC, Option.map_eq_some_iff] at hm
    obtain ⟨x, ha, rfl⟩ := hm
    refine wpC_mono (cc := a) ?_ (mapC_ok hf ha hφ (Q := blockH id Q) H)
    rintro e φ' h' ⟨φ1', hr, hq⟩
    cases e with
    | exit i =>
      simp only [blockH] at hq ⊢
      split
      · rename_i hi; rw [if_pos hi] at hq; exact ⟨φ1', hr, hq⟩
      · rename_i hi; rw [if_neg hi] at hq; exact ⟨φ1', hr, hq⟩
    | _ => exact ⟨φ1', hr, hq⟩
  | .loop a, cc', Q, φ1, φ0, h, hm, hφ, H => by
    simp only [mapC, Option.map_eq_some_iff] at hm
    obtain ⟨x, ha, rfl⟩ := hm
    obtain ⟨I, ⟨n0, hn0⟩, round⟩ := H
    refine ⟨fun n φ0 h => ∃ φ1, REq E φ1 φ0 ∧ I n φ1 h, ⟨n0, φ1, hφ, hn0⟩, ?_⟩
    rintro n φ h ⟨φ2, hr, hI⟩
    refine wpC_mono (cc := a) ?_ (mapC_ok hf ha hr (round n φ2 h hI))
    rintro e φ' h' ⟨φ1', hr', hq⟩
    cases e with
    | normal => obtain ⟨m, hlt, hm⟩ := hq; exact ⟨m, hlt, φ1', hr', hm⟩
    | _ => exact ⟨φ1', hr', hq⟩
  | .rangeF g ps x y, cc', Q, φ1, φ0, h, hm, hφ, H => by
    simp only [mapC] at hm
    cases ho : opOk E [] none g with
    | false => rw [ho] at hm; cases hm
    | true =>
      rw [ho] at hm
      simp only [cond_true] at hm
      split at hm
      · rename_i x' y' ha hb
        cases hm
        obtain ⟨fid, lb, hg, H⟩ := H
        refine ⟨fid, lb, by rw [opOk_ev hφ ho]; exact hg, fun r l h1 e1 e2 hr => (H r l h1 e1 e2 fun vs h2 K hlen hl hw => hr vs h2 K hlen hl ?_).mono fun _ _ => rangeH_mono fun e h5 hq => ⟨φ1, hφ, hq⟩⟩
        refine wpC_mono (cc := x) ?_ (mapC_ok hf ha (REq.upds hφ) hw)
        rintro e φ' h' ⟨φ1', hr1, h1, h2, h3⟩
        refine ⟨h1, h2, wpC_mono (cc := y) ?_ (mapC_ok hf hb hr1 h3)⟩
        rintro e φ'' h'' ⟨_, _, hz⟩
        exact hz
      · cases hm
end Go.SL

set_option linter.unusedSimpArgs false
set_option linter.unusedVariables false
set_option linter.unusedSectionVars false
namespace Go.SL
open Go

/-! ### Contracts -/

def callOk (P : Program) (f : Nat) : Bool := P.funcs[f]?.any fun fn => fn.body.isSome && fn.name != "runtime.NumGoroutine"

/-- Called so, where 'cs' is known, it comes back with a value and a heap of which R speaks. -/
def Meets (P : Program) (f : Nat) (args : List Value) (cs : List Assn) (R : Value → List Assn → Prop) : Prop :=
  callOk P f = true ∧ ∀ w : World, Sat w.heap cs → Calls P f args.toArray w fun e w' => ∃ v cs', e = .returned v ∧ Keeps w w' ∧ Sat w'.heap cs' ∧ R v cs'

/-- Where a result is read. -/
inductive RV where
  | t (t : Nat)
  | c (t : Nat) (n : Option Nat)

def cleanRV (P : Program) : List ResultVar → Option (List RV)
  | [] => some []
  | .tmp t :: r => (cleanRV P r).map (.t t :: ·)
  | .cell t T :: r => match isAggT P T, P.info? T, cleanRV P r with
    | some true, some i, some l => some (.c t (some i.size) :: l)
    | some false, some _, some l => some (.c t none :: l)
    | _, _, _ => none

def bodyOf (P : Program) (f : Nat) : Option (Nat × List RV × CC) :=
  match P.funcs[f]? with
  | none => none
  | some fn => match fn.body with
    | none => none
    | some c => match cleanRV P fn.results.toList, cleanC P fn.ntmps c with
      | some rs, some cc => some (fn.ntmps, rs, cc)
      | _, _ => none

def rvT : RV → Nat
  | .t t => t
  | .c t _ => t
/-- The body, made shorter: slots of E1 hold only what others do, slots of E2 only hand on. -/
def bodyO (E1 E2 : Nat) (P : Program) (f : Nat) : Option (Nat × List RV × CC) :=
  match bodyOf P f with
  | none => none
  | some (N, rs, cc) => match mapC E1 (optT E1 []) (flat cc .skip) with
    | none => none
    | some c1 => match mapC E2 (peT E2) c1 with
      | none => none
      | some c2 => bif rs.all (fun r => !tb E1 (rvT r) && !tb E2 (rvT r)) then some (N, rs, c2) else none

/-- The results, read where they lie. -/
inductive Rets (ρ : Env) (cs : List Assn) : List RV → List Value → Prop
  | nil : Rets ρ cs [] []
  | t {t v rs vs} (h : ρ.lk t = some v) (hr : Rets ρ cs rs vs) : Rets ρ cs (.t t :: rs) (v :: vs)
  | c1 {t ad v rs vs} (h : ρ.lk t = some (.pointer (some ad))) (hv : ∀ h, Sat h cs → heapCell h ad = some v) (hr : Rets ρ cs rs vs) : Rets ρ cs (.c t none :: rs) (v :: vs)
  | cn {t n ad us rs vs} (h : ρ.lk t = some (.pointer (some ad))) (hv : ∀ h, Sat h cs → heapCells h ad 0 n = some us) (hr : Rets ρ cs rs vs) : Rets ρ cs (.c t (some n) :: rs) (.agg us.toArray :: vs)

def mkRet : List Value → Value
  | [v] => v
  | vs => .tuple vs.toArray

def retQ (rs : List RV) (R : Value → List Assn → Prop) : Exit → Env → List Assn → Prop
  | .ret, ρ, cs => ∃ vs cs2, Rets ρ cs rs vs ∧ Up cs cs2 ∧ R (mkRet vs) cs2
  | .normal, ρ, cs => ∃ vs cs2, Rets ρ cs rs vs ∧ Up cs cs2 ∧ R (mkRet vs) cs2
  | _, _, _ => False

def argEnv : Nat → List Value → Env
  | _, [] => []
  | i, v :: r => (i, v) :: argEnv (i + 1) r

theorem argEnv_lk : ∀ {args : List Value} {i t : Nat} {v : Value}, Env.lk (argEnv i args) t = some v → i ≤ t ∧ args[t - i]? = some v
  | [], i, t, v, h => by simp [argEnv, Env.lk] at h
  | u :: r, i, t, v, h => by
    simp only [argEnv, lk_cons] at h
    split at h
    · rename_i e; subst e; simp at h; simp [h]
    · obtain ⟨h1, h2⟩ := argEnv_lk h
      refine ⟨by omega, ?_⟩
      rw [show t - i = (t - (i + 1)) + 1 by omega]; simpa using h2

def rvRun (a : Act) : ResultVar → Sem Value
  | .tmp t => pure (a.tmps.getD t undef)
  | .cell x t => do loadVar t (← asAddr (a.tmps.getD x undef))

theorem run_asAddr {P : Program} {ad : Addr} {w : World} : (asAddr (.pointer (some ad))).run P w = .ok ad w := rfl

theorem run_result {P : Program} {a : Act} {ρ : Env} {cs : List Assn} {w : World} (hs : Sat w.heap cs) : ∀ {l : List ResultVar} {rs : List RV} {vs : List Value}, (∀ r ∈ rs, ∀ v, ρ.lk (rvT r) = some v → a.tmps.getD (rvT r) undef = v) →
    cleanRV P l = some rs → Rets ρ cs rs vs →
    (l.mapM (rvRun a)).run P w = .ok vs w
  | [], rs, vs, ha, h, hr => by simp only [cleanRV, Option.some.injEq] at h; subst h; cases hr; simp
  | .tmp t :: l, rs, vs, ha, h, hr => by
    simp only [cleanRV, Option.map_eq_some_iff] at h
    obtain ⟨rs', h', rfl⟩ := h
    cases hr with
    | t h0 hr =>
      have e0 : a.tmps.getD t undef = _ := ha (.t t) List.mem_cons_self _ h0
      have := run_result hs (fun r hr' => ha r (by simp [hr'])) h' hr
      simp only [List.mapM_cons, Sem.run_bind, Sem.run_pure, Result.andThen, this, rvRun, e0]
  | .cell x T :: l, rs, vs, ha, h, hr => by
    simp only [cleanRV] at h
    split at h
    · rename_i i l' hA hi h'
      cases h
      cases hr with
      | cn h0 hv hr =>
        have e0 : a.tmps.getD x undef = _ := ha (.c x _) List.mem_cons_self _ h0
        have := run_result hs (fun r hr' => ha r (by simp [hr'])) h' hr
        have hl := run_loadVar hA hi (hv _ hs)
        simp only [List.mapM_cons, Sem.run_bind, Sem.run_pure, Result.andThen, this, rvRun, e0, run_asAddr, hl]
    · rename_i hA hi h'
      cases h
      cases hr with
      | c1 h0 hv hr =>
        have e0 : a.tmps.getD x undef = _ := ha (.c x _) List.mem_cons_self _ h0
        have := run_result hs (fun r hr' => ha r (by simp [hr'])) h' hr
        have hl := run_loadVar1 (P := P) hA (hv _ hs)
        simp only [List.mapM_cons, Sem.run_bind, Sem.run_pure, Result.andThen, this, rvRun, e0, run_asAddr, hl]
    · simp at h

theorem bodyO_spec {P : Program} {E1 E2 f N : Nat} {rs : List RV} {c2 : CC} (hb : bodyO E1 E2 P f = some (N, rs, c2)) : ∃ cc, bodyOf P f = some (N, rs, cc) ∧ (∀ r ∈ rs, tb E1 (rvT r) = false ∧ tb E2 (rvT r) = false) ∧
    ∀ {Q : Exit → Fr → Heap → Prop} {φ : Fr} {h : Heap}, wpC P c2 Q φ h → wpC P cc (fun e φ0 h' => ∃ φ1, REq E1 φ1 φ0 ∧ ∃ φ2, REq E2 φ2 φ1 ∧ Q e φ2 h') φ h := by
  unfold bodyO at hb
  split at hb
  · cases hb
  · rename_i N' rs' cc h0
    split at hb
    · cases hb
    · rename_i c1 h1
      split at hb
      · cases hb
      · rename_i c2' h2
        cases hr : rs'.all (fun r => !tb E1 (rvT r) && !tb E2 (rvT r)) with
        | false => rw [hr] at hb; cases hb
        | true =>
          rw [hr] at hb
          cases hb
          refine ⟨cc, h0, fun r hm => ?_, fun {Q φ h} H => ?_⟩
          · have := (List.all_eq_true.1 hr) r hm
            simp only [Bool.and_eq_true, Bool.not_eq_true'] at this
            exact this
          · have a1 := mapC_ok (peT_reg P E2) h2 (φ0 := φ) (fun _ _ => rfl) H
            have a2 := mapC_ok (optT_reg P E1) h1 (φ0 := φ) (fun _ _ => rfl) a1
            exact wpC_mono seqH_skip' (flat_ok a2)

theorem leaves_marks {P : Program} {fn : Func} {tmps : Array Value} {R : Ending → World → Prop} {w0 : World} {cs : List Assn} (hf : ∀ w', Keeps w0 w' → Sat w'.heap cs → ∃ v, (results fn tmps).run P w' = .ok v w' ∧ R (.returned v) w') :
    ∀ {ds : List Deferred} {w : World}, Keeps w0 w → Marks w0 ds w → Sat w.heap cs → LeavesInM Fence.wide 0 P fn tmps R ds .returning w
  | [], w, hk, _, hs => hf w hk hs
  | d :: ds, w, hk, hm, hs => by
    obtain ⟨D, h1, h2, h3⟩ := hm.at_ d List.mem_cons_self
    have hoth : ∀ k, k ≠ D → (w.putObj D (.deferred none)).heap[k]? = w.heap[k]? := fun k hk => World.putObj_heap_other hk
    have hne := (List.pairwise_cons.1 hm.ne).1
    refine ⟨by simp, .inl ⟨D, w.putObj D (.deferred none), h1, run_takeDeferred h2, leaves_marks hf ?_ ⟨fun e he => ?_, (List.pairwise_cons.1 hm.ne).2⟩ (hs.hid h2 hoth)⟩⟩
    · exact ⟨hk.os, hk.output, hk.tape, hk.drawn, fun b x hx => by rw [hoth b (fun e => h3 x (e ▸ hx))]; exact hk.dfr b x hx⟩
    · obtain ⟨D', e1, e2, e3⟩ := hm.at_ e (List.mem_cons_of_mem _ he)
      have : D' ≠ D := fun e' => hne e he (by rw [h1, e1, e'])
      exact ⟨D', e1, by rw [hoth _ this]; exact e2, e3⟩

theorem Meets.intro {P : Program} {E1 E2 f N : Nat} {rs : List RV} {cc : CC} {args : List Value} {cs : List Assn} {R : Value → List Assn → Prop} (hb : bodyO E1 E2 P f = some (N, rs, cc)) (hok : callOk P f = true)
    (hl : args.length ≤ N) (h : J P N cc (argEnv 0 args) cs (retQ rs R)) : Meets P f args cs R := by
  obtain ⟨cc0, hb, hrv, hop⟩ := bodyO_spec hb
  refine ⟨hok, fun w hs => ?_⟩
  unfold bodyOf at hb
  split at hb
  · simp at hb
  · rename_i fn hfn
    split at hb
    · simp at hb
    · rename_i c hc
      split at hb
      · rename_i rs' cc' hrs hcc
        cases hb
        refine callsIn_wide.1 (callsIn_of_wp_marks (F := Fence.wide) (n := 0) hfn hc trivial ?_)
        have ha : Agr (frame { tmps := args.toArray ++ Array.replicate (fn.ntmps - args.toArray.size) undef, defers := [] }) (argEnv 0 args) := by
          intro t v ht
          obtain ⟨_, h2⟩ := argEnv_lk ht
          have hlt : t < args.length := by
            rcases Nat.lt_or_ge t args.length with h' | h'
            · exact h'
            · rw [Nat.sub_zero, List.getElem?_eq_none h'] at h2; cases h2
          simp only [frame, Array.getD_eq_getD_getElem?]
          rw [Array.getElem?_append_left (by simpa using hlt)]
          simp at h2 ⊢
          rw [h2]; rfl
        refine wpIn_mono (wpC_wp (ro := none) (w0 := w) cc0 hcc (fun e => absurd rfl e) (.refl w) .nil (by simp; omega) (hop (h.run _ ha w.heap hs))) ?_
        rintro e a' w' ⟨hkp, hd', hz', φ1, r1, φ2, r2, ρ', cs', hA, hs', hq⟩
        have hrd : ∀ r ∈ rs, ∀ v, ρ'.lk (rvT r) = some v → a'.tmps.getD (rvT r) undef = v := by
          intro r hr v hv
          have h1 := hrv r hr
          have h2 := hA _ _ hv
          rw [r2 _ h1.2, r1 _ h1.1] at h2
          exact h2
        have key : (∃ vs cs2, Rets ρ' cs' rs vs ∧ Up cs' cs2 ∧ R (mkRet vs) cs2) → LeavesInM Fence.wide 0 P fn a'.tmps (fun e w' => ∃ v cs', e = .returned v ∧ Keeps w w' ∧ Sat w'.heap cs' ∧ R v cs') a'.defers .returning w' := by
          rintro ⟨vs, cs2, hvs, hi, hR⟩
          refine leaves_marks (cs := cs') (fun w1 hk1 hs1 => ?_) hkp hd' hs'
          refine ⟨mkRet vs, ?_, _, cs2, rfl, hk1, hi _ hs1, hR⟩
          have := run_result (P := P) hs1 hrd hrs hvs
          have hf : (fn.results.mapM (rvRun a')).run P w1 = .ok vs.toArray w1 := by
            rw [Array.mapM_eq_mapM_toList]
            simp [this]
          have : results fn a'.tmps = (do let vs ← fn.results.mapM (rvRun a'); pure (if h : vs.size = 1 then vs[0] else .tuple vs)) := by
            unfold results
            congr 1
          rw [this, Sem.run_bind, hf]
          simp only [Result.andThen, Sem.run_pure]
          congr 1
          cases vs with
          | nil => rfl
          | cons v r => cases r <;> simp [mkRet]
        cases e with
        | normal => exact key hq
        | ret => exact key hq
        | _ => exact hq.elim
      · simp at hb

end Go.SL
