/- The walk's own words, part I: a body without its noise ('CC'), the rules for its parts, contracts of functions. Conditions: none. -/
import Derived.Test.YtienlpaehgdpaaaSlH
set_option linter.unusedSimpArgs false
set_option linter.unusedVariables false
set_option linter.unusedSectionVars false
namespace Go.SL
open Go

inductive CC where
  | skip
  | ops (t : Tr)
  | seq (a b : CC)
  | cond (c : Operand) (a b : CC)
  | block (id : Nat) (a : CC)
  | loop (a : CC)
  | exit (id : Nat)
  | ret

def cleanOps (P : Program) (N : Nat) (ops : Array Oper) : List Oper → Option (List COp)
  | [] => some []
  | o :: r => match cleanOp P N ops o, cleanOps P N ops r with
    | some c, some l => some (c :: l)
    | _, _ => none

def cleanC (P : Program) (N : Nat) : Code → Option CC
  | .skip => some .skip
  | .label _ => some .skip
  | .region _ ops draw => match cleanOps P N ops ops.toList with
    | none => none
    | some cs =>
      if draw then
        if P.follows .mixedOrders && drawOk ops cs.toArray (Region.before ops) then (canon ops cs.toArray (Region.before ops) (ops.size + 1) 0).map .ops else none
      else some (.ops (listT cs))
  | .seq a b => match cleanC P N a, cleanC P N b with
    | some x, some y => some (.seq x y)
    | _, _ => none
  | .cond c a b => match cleanC P N a, cleanC P N b with
    | some x, some y => some (.cond c x y)
    | _, _ => none
  | .block id a => (cleanC P N a).map (.block id)
  | .loop a => (cleanC P N a).map .loop
  | .exit id => some (.exit id)
  | .ret => some .ret
  | _ => none

theorem cleanOps_spec {P : Program} {N : Nat} {ops : Array Oper} : ∀ {l : List Oper} {cs : List COp}, cleanOps P N ops l = some cs → l.map (cleanOp P N ops) = cs.map some
  | [], cs, h => by simp [cleanOps] at h; subst h; rfl
  | o :: r, cs, h => by
    simp only [cleanOps] at h
    split at h
    · rename_i c l h1 h2
      cases h
      simp [h1, cleanOps_spec h2]
    · simp at h

section
variable {P : Program} {N : Nat}

theorem region_wp {id : Nat} {ops : Array Oper} {d : Bool} {t : Tr} {ρ : Env} {a : Act} {w : World} {K : Env → Heap → Prop} {Q : Exit → Act → World → Prop}
    (hc : cleanC P N (.region id ops d) = some (.ops t)) (ha : Agrees a ρ N) (hr : runT P t ρ w.heap K) (hQ : ∀ ρ a w', Keeps w w' → K ρ w'.heap → Agrees a ρ N → Q .normal a w') :
    (Code.region id ops d).wp P Q a w := by
  simp only [cleanC] at hc
  split at hc
  · simp at hc
  · rename_i cs hcs
    have hmap := cleanOps_spec hcs
    have hget : ∀ (i : Nat) (o : Oper), ops[i]? = some o → ∃ c : COp, cs.toArray[i]? = some c ∧ cleanOp P N ops o = some c := by
      intro i o ho
      have h1 : (ops.toList.map (cleanOp P N ops))[i]? = (cs.map some)[i]? := by rw [hmap]
      simp only [List.getElem?_map, Array.getElem?_toList, ho, Option.map_some] at h1
      cases h2 : cs[i]? with
      | none => simp [h2] at h1
      | some c => simp [h2] at h1; exact ⟨c, by simp [h2], h1⟩
    cases d with
    | false =>
      simp only [Bool.false_eq_true, if_false, Option.some.injEq, CC.ops.injEq] at hc
      subst hc
      refine wp_region (wpOps_list (w0 := w) (K := K) hQ (List.range ops.size) cs a ρ w ?_ (Keeps.refl w) ha hr)
      rw [← hmap]
      apply List.ext_getElem?
      intro i
      simp only [List.getElem?_map, List.getElem?_range', List.getElem?_range]
      by_cases hi : i < ops.size
      · simp [hi]
      · simp [hi]
    | true =>
      simp only [if_true] at hc
      split at hc
      · rename_i hok
        simp only [Bool.and_eq_true] at hok
        obtain ⟨hm, hok⟩ := hok
        simp only [Option.map_eq_some_iff, CC.ops.injEq, exists_eq_right] at hc
        have F := drawFacts hget hok
        refine wp_region_any hm ?_
        simp only [canon] at hc
        split at hc
        · rename_i T1 hT1
          have I : Inv P N ops cs.toArray (Array.replicate ops.size false) a w.heap 0 ρ a := by
            refine ⟨by simp, ha, ha.defers, ha.size, fun t _ => rfl, fun i hi => ?_, fun i hi => by simp at hi, fun i o hi => by simp at hi, fun i o hi => ?_, fun i hi => by simp at hi⟩
            · simp only [Array.getD_eq_getD_getElem?, Array.getElem?_replicate] at hi
              split at hi <;> simp at hi
            · simp only [Array.getD_eq_getD_getElem?, Array.getElem?_replicate] at hi
              split at hi <;> simp at hi
          obtain ⟨h1, h2, h3⟩ := satL_spec (cs := cs.toArray) F.on (b := Region.before ops) (List.range ops.size) 0 List.pairwise_lt_range
          obtain ⟨ρ', x', I3, hr3⟩ := advance F (List.range ops.size) 0 ρ a t (fun j hj => by simpa using hj) I hc hr
          refine draw_main F (w0 := w) (K := K) hQ ops.size _ a { w with drawn := w.drawn + 1 } ops.size _ ρ' x' T1 ⟨rfl, rfl, rfl, Nat.le_succ _⟩ ?_ I3 (fun j hj hq hr => h3 j (by simpa using hj) hq hr) hT1 hr3
          have : cnt ops (Array.replicate ops.size false) = 0 := by
            unfold cnt
            rw [List.length_eq_zero_iff, List.filter_eq_nil_iff]
            intro i hi
            simp only [Array.getD_eq_getD_getElem?, Array.getElem?_replicate]
            split <;> simp
          omega
        · simp at hc
      · simp at hc

/-! ### What a body does, said of frames and heaps -/

/-- A frame: what each slot holds. -/
abbrev Fr := Nat → Value
def Fr.ev (φ : Fr) : Operand → Value
  | .tmp t => φ t
  | .const v => v
  | .global g => .pointer (some ⟨g, 0, none⟩)
  | .func f => .func (.func f) #[] #[]
def Agr (φ : Fr) (ρ : Env) : Prop := ∀ t v, ρ.lk t = some v → φ t = v
def Tot (M : Nat) (ρ : Env) : Prop := ∀ t, t < M → ∃ v, ρ.lk t = some v

def seqH (K : Fr → Heap → Prop) (Q : Exit → Fr → Heap → Prop) : Exit → Fr → Heap → Prop
  | .normal, φ, h => K φ h
  | e, φ, h => Q e φ h
def blockH (id : Nat) (Q : Exit → Fr → Heap → Prop) : Exit → Fr → Heap → Prop
  | .exit i, φ, h => if i = id then Q .normal φ h else Q (.exit i) φ h
  | e, φ, h => Q e φ h

/-- A region: whatever is known of the frame, if it is enough. -/
def opsH (P : Program) (t : Tr) (K : Fr → Heap → Prop) (φ : Fr) (h : Heap) : Prop :=
  ∃ M, ∀ ρ, Agr φ ρ → Tot M ρ → runT P t ρ h fun ρ' h' => ∀ φ', Agr φ' ρ' → K φ' h'

def wpC (P : Program) : CC → (Exit → Fr → Heap → Prop) → Fr → Heap → Prop
  | .skip, Q, φ, h => Q .normal φ h
  | .ops t, Q, φ, h => opsH P t (Q .normal) φ h
  | .seq a b, Q, φ, h => wpC P a (seqH (wpC P b Q) Q) φ h
  | .cond o a b, Q, φ, h => ∃ x, φ.ev o = .bool x ∧ (x = true → wpC P a Q φ h) ∧ (x = false → wpC P b Q φ h)
  | .block id a, Q, φ, h => wpC P a (blockH id Q) φ h
  | .loop a, Q, φ, h => ∃ I : Nat → Fr → Heap → Prop, (∃ n, I n φ h) ∧ ∀ n φ h, I n φ h → wpC P a (seqH (fun φ h => ∃ m, m < n ∧ I m φ h) Q) φ h
  | .exit id, Q, φ, h => Q (.exit id) φ h
  | .ret, Q, φ, h => Q .ret φ h

def full (φ : Fr) : Nat → Env
  | 0 => []
  | n + 1 => (n, φ n) :: full φ n
theorem full_lk (φ : Fr) : ∀ (n t : Nat), (full φ n).lk t = if t < n then some (φ t) else none
  | 0, t => by simp [full, Env.lk]
  | n + 1, t => by
    rw [full, lk_cons, full_lk φ n t]
    by_cases h : n = t
    · subst h; simp
    · rw [if_neg h]; by_cases h' : t < n
      · rw [if_pos h', if_pos (by omega)]
      · rw [if_neg h', if_neg (by omega)]
theorem full_agr (φ : Fr) (n : Nat) : Agr φ (full φ n) := fun t v h => by
  rw [full_lk] at h; split at h
  · injection h
  · cases h
theorem full_tot (φ : Fr) (n : Nat) : Tot n (full φ n) := fun t h => ⟨φ t, by rw [full_lk, if_pos h]⟩
def frame (a : Act) : Fr := fun t => a.tmps.getD t undef
theorem evF {φ : Fr} {ρ : Env} (h : Agr φ ρ) {o : Operand} {v : Value} (e : ρ.ev o = some v) : φ.ev o = v := by
  cases o with
  | tmp t => exact h t v e
  | _ => simp only [Env.ev, Option.some.injEq] at e; exact e

theorem cleanC_skip {c : Code} (h : cleanC P N c = some .skip) : c = .skip ∨ ∃ l, c = .label l := by
  cases c <;> simp only [cleanC] at h
  case skip => exact .inl rfl
  case label l => exact .inr ⟨l, rfl⟩
  case region id ops d =>
    split at h
    · simp at h
    · split at h
      · split at h
        · simp at h
        · simp at h
      · simp at h
  case seq a b => split at h <;> simp at h
  case cond a b c => split at h <;> simp at h
  all_goals simp at h

theorem cleanC_ops {c : Code} {t : Tr} (h : cleanC P N c = some (.ops t)) : ∃ id ops d, c = .region id ops d := by
  cases c <;> simp only [cleanC] at h
  case region id ops d => exact ⟨_, _, _, rfl⟩
  case seq a b => split at h <;> simp at h
  case cond a b c => split at h <;> simp at h
  all_goals simp at h

theorem cleanC_seq {c : Code} {x y : CC} (h : cleanC P N c = some (.seq x y)) : ∃ a b, c = .seq a b ∧ cleanC P N a = some x ∧ cleanC P N b = some y := by
  cases c <;> simp only [cleanC] at h
  case region id ops d =>
    split at h
    · simp at h
    · split at h
      · split at h
        · simp at h
        · simp at h
      · simp at h
  case seq a b =>
    split at h
    · rename_i u v hu hv; cases h; exact ⟨a, b, rfl, hu, hv⟩
    · simp at h
  case cond a b c => split at h <;> simp at h
  all_goals simp at h

theorem cleanC_cond {c : Code} {o : Operand} {x y : CC} (h : cleanC P N c = some (.cond o x y)) : ∃ a b, c = .cond o a b ∧ cleanC P N a = some x ∧ cleanC P N b = some y := by
  cases c <;> simp only [cleanC] at h
  case region id ops d =>
    split at h
    · simp at h
    · split at h
      · split at h
        · simp at h
        · simp at h
      · simp at h
  case seq a b => split at h <;> simp at h
  case cond o' a b =>
    split at h
    · rename_i u v hu hv; cases h; exact ⟨a, b, rfl, hu, hv⟩
    · simp at h
  all_goals simp at h

theorem cleanC_block {c : Code} {id : Nat} {x : CC} (h : cleanC P N c = some (.block id x)) : ∃ a, c = .block id a ∧ cleanC P N a = some x := by
  cases c <;> simp only [cleanC] at h
  case region id ops d =>
    split at h
    · simp at h
    · split at h
      · split at h
        · simp at h
        · simp at h
      · simp at h
  case seq a b => split at h <;> simp at h
  case cond a b c => split at h <;> simp at h
  case block id' a => simp only [Option.map_eq_some_iff, CC.block.injEq] at h; obtain ⟨u, hu, rfl, rfl⟩ := h; exact ⟨a, rfl, hu⟩
  all_goals simp at h

theorem cleanC_loop {c : Code} {x : CC} (h : cleanC P N c = some (.loop x)) : ∃ a, c = .loop a ∧ cleanC P N a = some x := by
  cases c <;> simp only [cleanC] at h
  case region id ops d =>
    split at h
    · simp at h
    · split at h
      · split at h
        · simp at h
        · simp at h
      · simp at h
  case seq a b => split at h <;> simp at h
  case cond a b c => split at h <;> simp at h
  case loop a => simp at h; exact ⟨a, rfl, h⟩
  all_goals simp at h

theorem cleanC_exit {c : Code} {id : Nat} (h : cleanC P N c = some (.exit id)) : c = .exit id := by
  cases c <;> simp only [cleanC] at h
  case region id ops d =>
    split at h
    · simp at h
    · split at h
      · split at h
        · simp at h
        · simp at h
      · simp at h
  case seq a b => split at h <;> simp at h
  case cond a b c => split at h <;> simp at h
  case exit i => simp at h; rw [h]
  all_goals simp at h

theorem cleanC_ret {c : Code} (h : cleanC P N c = some .ret) : c = .ret := by
  cases c <;> simp only [cleanC] at h
  case region id ops d =>
    split at h
    · simp at h
    · split at h
      · split at h
        · simp at h
        · simp at h
      · simp at h
  case seq a b => split at h <;> simp at h
  case cond a b c => split at h <;> simp at h
  case ret => rfl
  all_goals simp at h


theorem eval_frame (a : Act) (o : Operand) : a.eval o = (frame a).ev o := by cases o <;> rfl

theorem wpC_wp : ∀ (cc : CC) {c : Code} {Q : Exit → Fr → Heap → Prop} {a : Act} {w : World}, cleanC P N c = some cc → a.defers = [] → a.tmps.size = N → wpC P cc Q (frame a) w.heap →
    c.wp P (fun e a' w' => Keeps w w' ∧ a'.defers = [] ∧ a'.tmps.size = N ∧ Q e (frame a') w'.heap) a w
  | .skip, c, Q, a, w, hc, hd, hz, h => by
    rcases cleanC_skip hc with rfl | ⟨l, rfl⟩
    · exact wp_skip ⟨.refl w, hd, hz, h⟩
    · exact wp_label ⟨.refl w, hd, hz, h⟩
  | .ops t, c, Q, a, w, hc, hd, hz, h => by
    obtain ⟨id, ops, d, rfl⟩ := cleanC_ops hc
    obtain ⟨M, h⟩ := h
    exact region_wp hc (ρ := full (frame a) M) ⟨hd, hz, full_agr _ _⟩ (h _ (full_agr _ _) (full_tot _ _)) fun ρ a w hk hq ha' => ⟨hk, ha'.defers, ha'.size, hq _ ha'.lk⟩
  | .seq x y, c, Q, a, w, hc, hd, hz, h => by
    obtain ⟨c1, c2, rfl, h1, h2⟩ := cleanC_seq hc
    refine wp_seq (wp_mono (wpC_wp x h1 hd hz h) ?_)
    rintro e a' w' ⟨hk, hd', hz', hq⟩
    cases e with
    | normal => exact wp_mono (wpC_wp y h2 hd' hz' hq) fun e a'' w'' ⟨hk2, r⟩ => ⟨hk.trans hk2, r⟩
    | _ => exact ⟨hk, hd', hz', hq⟩
  | .cond o x y, c, Q, a, w, hc, hd, hz, h => by
    obtain ⟨c1, c2, rfl, hc1, hc2⟩ := cleanC_cond hc
    obtain ⟨b, hb, h1, h2⟩ := h
    exact wp_cond_split (by rw [eval_frame]; exact hb) (fun e => wpC_wp x hc1 hd hz (h1 e)) (fun e => wpC_wp y hc2 hd hz (h2 e))
  | .block id x, c, Q, a, w, hc, hd, hz, h => by
    obtain ⟨c1, rfl, hc1⟩ := cleanC_block hc
    refine wp_block (wp_mono (wpC_wp x hc1 hd hz h) ?_)
    rintro e a' w' ⟨hk, hd', hz', hq⟩
    cases e with
    | exit i =>
      simp only [Exit.inBlock]
      simp only [blockH] at hq
      split at hq
      · rename_i hi; rw [if_pos hi]; exact ⟨hk, hd', hz', hq⟩
      · rename_i hi; rw [if_neg hi]; exact ⟨hk, hd', hz', hq⟩
    | _ => exact ⟨hk, hd', hz', hq⟩
  | .loop x, c, Q, a, w, hc, hd, hz, h => by
    obtain ⟨c1, rfl, hc1⟩ := cleanC_loop hc
    obtain ⟨I, ⟨n0, hn0⟩, round⟩ := h
    have key : ∀ n (b : Frame) (k : List Item) (fs : List Frame) (a : Act) (w : World), I n (frame a) w.heap → a.defers = [] → a.tmps.size = N →
        ∃ e a' w', (Keeps w w' ∧ a'.defers = [] ∧ a'.tmps.size = N ∧ Q e (frame a') w'.heap) ∧ Arrives P (lone (b.at a (.code c1 :: .inLoop c1 :: k)) fs w) b k fs e a' w' := by
      intro n
      induction n using Nat.strongRecOn with
      | _ n ih =>
        intro b k fs a w hI hd hz
        obtain ⟨e, a1, w1, ⟨hk, hd', hz', hq⟩, harr⟩ := (wpC_wp x hc1 hd hz (round n _ w.heap hI)) b (.inLoop c1 :: k) fs
        cases e with
        | normal =>
          obtain ⟨m, hlt, hm⟩ := hq
          obtain ⟨e2, a2, w2, ⟨hk2, hq2⟩, harr2⟩ := ih m hlt b k fs a1 w1 hm hd' hz'
          exact ⟨e2, a2, w2, ⟨hk.trans hk2, hq2⟩, .of_steps (Steps.trans harr (.one step_inLoop)) harr2⟩
        | exit id => exact ⟨_, a1, w1, ⟨hk, hd', hz', hq⟩, .pass (x := .inLoop c1) rfl (fun _ _ => .inl (by simp)) harr⟩
        | goto l => exact ⟨_, a1, w1, ⟨hk, hd', hz', hq⟩, .pass (x := .inLoop c1) rfl (fun _ _ => .inl (by simp)) harr⟩
        | ret => exact ⟨_, a1, w1, ⟨hk, hd', hz', hq⟩, .pass (x := .inLoop c1) rfl (fun _ _ => .inl (by simp)) harr⟩
        | panic ch => exact ⟨_, a1, w1, ⟨hk, hd', hz', hq⟩, .pass (x := .inLoop c1) rfl (fun _ _ => .inl (by simp)) harr⟩
        | outgrown => exact ⟨_, a1, w1, ⟨hk, hd', hz', hq⟩, .pass (x := .inLoop c1) rfl (fun _ _ => .inl (by simp)) harr⟩
    intro b k fs
    obtain ⟨e, a', w', hq, harr⟩ := key n0 b k fs a w hn0 hd hz
    exact ⟨e, a', w', hq, .of_steps (.one step_loop) harr⟩
  | .exit id, c, Q, a, w, hc, hd, hz, h => by
    rw [cleanC_exit hc]
    exact wp_exit ⟨.refl w, hd, hz, h⟩
  | .ret, c, Q, a, w, hc, hd, hz, h => by
    rw [cleanC_ret hc]
    exact wp_ret ⟨.refl w, hd, hz, h⟩

end

/-- Less is known of the frame. -/
def Env.sub (ρ' ρ : Env) : Prop := ∀ t v, ρ'.lk t = some v → ρ.lk t = some v
theorem Env.sub.rfl {ρ : Env} : ρ.sub ρ := fun _ _ h => h
theorem Env.sub.tr {a b c : Env} (h : a.sub b) (h' : b.sub c) : a.sub c := fun t v x => h' t v (h t v x)
theorem Env.sub.cons {a b : Env} (h : a.sub b) (d : Nat) (v : Value) : Env.sub ((d, v) :: a) ((d, v) :: b) := fun t u x => by
  rw [lk_cons] at x ⊢; split
  · rename_i e; rw [if_pos e] at x; exact x
  · rename_i e; rw [if_neg e] at x; exact h t u x
theorem Env.sub.put {a b : Env} (h : a.sub b) (d : Option Nat) (v : Value) : Env.sub (a.put d v) (b.put d v) := by
  cases d with
  | none => exact h
  | some d => exact h.cons d v

theorem ev_sub {ρ ρ0 : Env} (hs : ρ.sub ρ0) {o : Operand} {v : Value} (e : ρ.ev o = some v) : ρ0.ev o = some v := by
  cases o with
  | tmp t => exact hs t v e
  | _ => exact e

/-! ### Operands put for operands -/

def Src.mp (f : Operand → Operand) : Src → Src
  | .z v => .z v
  | .c x j n => .c (f x) j n
def Kd.mp (f : Operand → Operand) : Kd → Kd
  | .mv x => .mv (f x)
  | .pick c a b => .pick (f c) (f a) (f b)
  | .new T cells => .new T cells
  | .box T x => .box T (f x)
  | .agg src => .agg (src.map (Src.mp f))
  | .bsl T src len => .bsl T (src.map (Src.mp f)) len
  | .ld n a => .ld n (f a)
  | .st n a x => .st n (f a) (f x)
  | .nilc x => .nilc (f x)
  | .bin op t x y => .bin op t x y
  | .bini op x y => .bini op (f x) (f y)
  | .eqs neg fl x y => .eqs neg fl (f x) (f y)
  | .un op x => .un op (f x)
  | .cv k x => .cv k (f x)
  | .fa off x => .fa off (f x)
  | .fld ag n off x => .fld ag n off (f x)
  | .ia sz x i => .ia sz (f x) (f i)
  | .iaa len sz x i => .iaa len sz (f x) (f i)
  | .sl sz x lo hi mx => .sl sz (f x) (lo.map f) (hi.map f) (mx.map f)
  | .ln x => .ln (f x)
  | .lns x => .lns (f x)
  | .lnm x => .lnm (f x)
  | .ap T sz bytes zero x y => .ap T sz bytes zero (f x) (f y)
  | .ext x i => .ext (f x) i
  | .call g args => .call (f g) (args.map f)
  | .cmp sc neg x y => .cmp sc neg (f x) (f y)
  | .cap x => .cap (f x)
  | .lkp ok kt zero x i => .lkp ok kt zero (f x) (f i)
  | .idx x i => .idx (f x) (f i)
  | .mm mx x y => .mm mx (f x) (f y)
  | .sls x lo hi => .sls (f x) (lo.map f) (hi.map f)
  | .ent x => .ent (f x)
  | .mkm => .mkm
  | .mup kt m k v => .mup kt (f m) (f k) (f v)
  | .mpe kt zero m k => .mpe kt zero (f m) (f k)
  | .ens m s v => .ens (f m) (f s) (f v)
  | .del kt m k => .del kt (f m) (f k)
  | .rng x => .rng (f x)
  | .nxt x => .nxt (f x)
  | .mks T sz bytes zero l c => .mks T sz bytes zero (f l) (f c)
  | .cpy sz x y => .cpy sz (f x) (f y)
  | .clr zero x => .clr zero (f x)
  | .mki t x => .mki t (f x)
  | .mkf g captured => .mkf g (captured.map f)
  | .raw o => .raw o

theorem Cells.mp {ρ ρ0 : Env} {f : Operand → Operand} : ∀ {src : List Src} {cs : List Value}, (∀ o ∈ src.flatMap Src.ops, ∀ v, ρ.ev (f o) = some v → ρ0.ev o = some v) → Cells ρ (src.map (Src.mp f)) cs → Cells ρ0 src cs
  | [], cs, hf, h => by cases h; exact .nil
  | .z v :: r, cs, hf, h => by cases h with | z h => exact .z (Cells.mp (fun o ho => hf o (by simp only [List.flatMap_cons, List.mem_append]; exact .inr ho)) h)
  | .c x j n :: r, cs, hf, h => by cases h with | c hx hn hu h => exact .c (hf _ (by simp [Src.ops]) _ hx) hn hu (Cells.mp (fun o ho => hf o (by simp only [List.flatMap_cons, List.mem_append]; exact .inr ho)) h)

section
variable {ρ ρ0 : Env} {f : Operand → Operand}
theorem evs_mp : ∀ {xs : List Operand} {vs : List Value}, (∀ o ∈ xs, ∀ v, ρ.ev (f o) = some v → ρ0.ev o = some v) → ρ.evs (xs.map f) = some vs → ρ0.evs xs = some vs
  | [], vs, hf, h => h
  | x :: r, vs, hf, h => by
    simp only [List.map_cons, Env.evs] at h ⊢
    split at h
    · rename_i v vs' h1 h2
      rw [hf _ (by simp) _ h1, evs_mp (fun o ho => hf o (by simp [ho])) h2]; exact h
    · cases h
theorem sliceLo_mp {x : Option Operand} {d r : Nat} (hf : ∀ o ∈ x.toList, ∀ v, ρ.ev (f o) = some v → ρ0.ev o = some v) (h : sliceLo (x.map f) ρ d = some r) : sliceLo x ρ0 d = some r := by
  cases x with
  | none => exact h
  | some o =>
    simp only [Option.map_some, sliceLo] at h ⊢
    split at h
    · rename_i k n h1; rw [hf _ (by simp) _ h1]; exact h
    · cases h
theorem CallsH.mono {P : Program} {f : FuncId} {args : Array Value} {h : Heap} {R R' : Value → Heap → Prop} (hm : ∀ v h, R v h → R' v h) (H : CallsH P f args h R) : CallsH P f args h R' :=
  ⟨H.1, fun w hw => (H.2 w hw).mono fun _ _ ⟨v, h1, h2, h3⟩ => ⟨v, h1, h2, hm _ _ h3⟩⟩

theorem Kd.lift {P : Program} {k : Kd} {h : Heap} {K K' : Value → Heap → Prop} (hf : ∀ o ∈ k.operands, ∀ v, ρ.ev (f o) = some v → ρ0.ev o = some v) (hb : ∀ op t x y, k = .bin op t x y → f x = x ∧ f y = y) (hr : ∀ o, k = .raw o → ρ.sub ρ0) (hm : ∀ v h, K v h → K' v h) (H : (k.mp f).sem P ρ h K) : k.sem P ρ0 h K' := by
  cases k
  case mv x => obtain ⟨v, a, b⟩ := H; exact ⟨v, hf _ (by simp [Kd.operands]) _ a, hm _ _ b⟩
  case pick c a b =>
    obtain ⟨t, v, h1, h2, h3⟩ := H
    refine ⟨t, v, hf _ (by simp [Kd.operands]) _ h1, ?_, hm _ _ h3⟩
    cases t
    · exact hf _ (by simp [Kd.operands]) _ h2
    · exact hf _ (by simp [Kd.operands]) _ h2
  case new => exact hm _ _ H
  case box => obtain ⟨v, a, b⟩ := H; exact ⟨v, hf _ (by simp [Kd.operands]) _ a, hm _ _ b⟩
  case agg => obtain ⟨v, a, b⟩ := H; exact ⟨v, Cells.mp hf a, hm _ _ b⟩
  case bsl => obtain ⟨v, a, b⟩ := H; exact ⟨v, Cells.mp hf a, hm _ _ b⟩
  case ld n a =>
    cases n with
    | none => obtain ⟨ad, v, h1, h2, h3⟩ := H; exact ⟨ad, v, hf _ (by simp [Kd.operands]) _ h1, h2, hm _ _ h3⟩
    | some n => obtain ⟨ad, v, h1, h2, h3⟩ := H; exact ⟨ad, v, hf _ (by simp [Kd.operands]) _ h1, h2, hm _ _ h3⟩
  case st => obtain ⟨ad, v, h', h1, h2, h3, h4, h5⟩ := H; exact ⟨ad, v, h', hf _ (by simp [Kd.operands]) _ h1, hf _ (by simp [Kd.operands]) _ h2, h3, h4, hm _ _ h5⟩
  case nilc => obtain ⟨v, a, b, c⟩ := H; exact ⟨v, hf _ (by simp [Kd.operands]) _ a, b, hm _ _ c⟩
  case bin => obtain ⟨u, v, r, h1, h2, h3, h4⟩ := H; exact ⟨u, v, r, hf _ (by simp [Kd.operands]) _ (by rw [(hb _ _ _ _ rfl).1]; exact h1), hf _ (by simp [Kd.operands]) _ (by rw [(hb _ _ _ _ rfl).2]; exact h2), h3, hm _ _ h4⟩
  case bini => obtain ⟨k, n, k', m, r, h1, h2, h3, h4, h5⟩ := H; exact ⟨k, n, k', m, r, hf _ (by simp [Kd.operands]) _ h1, hf _ (by simp [Kd.operands]) _ h2, h3, h4, hm _ _ h5⟩
  case eqs => obtain ⟨u, v, b, h1, h2, h3, h4⟩ := H; exact ⟨u, v, b, hf _ (by simp [Kd.operands]) _ h1, hf _ (by simp [Kd.operands]) _ h2, h3, hm _ _ h4⟩
  case un => obtain ⟨u, r, h1, h2, h3⟩ := H; exact ⟨u, r, hf _ (by simp [Kd.operands]) _ h1, h2, hm _ _ h3⟩
  case cv => obtain ⟨k', n, h1, h2⟩ := H; exact ⟨k', n, hf _ (by simp [Kd.operands]) _ h1, hm _ _ h2⟩
  case fa => obtain ⟨ad, h1, h2⟩ := H; exact ⟨ad, hf _ (by simp [Kd.operands]) _ h1, hm _ _ h2⟩
  case fld => obtain ⟨cs, v, h1, h2, h3⟩ := H; exact ⟨cs, v, hf _ (by simp [Kd.operands]) _ h1, h2, hm _ _ h3⟩
  case ia => obtain ⟨ad, len, cap, k, n, h1, h2, h3, h4, h5⟩ := H; exact ⟨ad, len, cap, k, n, hf _ (by simp [Kd.operands]) _ h1, hf _ (by simp [Kd.operands]) _ h2, h3, h4, hm _ _ h5⟩
  case iaa => obtain ⟨ad, k, n, h1, h2, h3, h4, h5⟩ := H; exact ⟨ad, k, n, hf _ (by simp [Kd.operands]) _ h1, hf _ (by simp [Kd.operands]) _ h2, h3, h4, hm _ _ h5⟩
  case sl sz x lo hi mx =>
    obtain ⟨a, len, cap, l, u, m, h1, h2, h3, h4, h5, h6, h7, h8, h9⟩ := H
    exact ⟨a, len, cap, l, u, m, hf _ (by simp [Kd.operands]) _ h1, sliceLo_mp (fun o ho => hf o (by simp only [Kd.operands, List.mem_cons, List.mem_append]; simp [ho])) h2, h3, by simpa using h4, sliceLo_mp (fun o ho => hf o (by simp only [Kd.operands, List.mem_cons, List.mem_append]; simp [ho])) h5, by simpa using h6, sliceLo_mp (fun o ho => hf o (by simp only [Kd.operands, List.mem_cons, List.mem_append]; simp [ho])) h7, by simpa using h8, hm _ _ h9⟩
  case ln => obtain ⟨a, n, c, h1, h2⟩ := H; exact ⟨a, n, c, hf _ (by simp [Kd.operands]) _ h1, hm _ _ h2⟩
  case lns => obtain ⟨a, h1, h2⟩ := H; exact ⟨a, hf _ (by simp [Kd.operands]) _ h1, hm _ _ h2⟩
  case lnm =>
    obtain ⟨r, h1, h2⟩ := H
    refine ⟨r, hf _ (by simp [Kd.operands]) _ h1, ?_⟩
    cases r with
    | none => exact hm _ _ h2
    | some r => obtain ⟨es, c, h3, h4⟩ := h2; exact ⟨es, c, h3, hm _ _ h4⟩
  case ap =>
    obtain ⟨a, n, c, v, m, h1, h2, h3, h4, h5, h6⟩ := H
    refine ⟨a, n, c, v, m, hf _ (by simp [Kd.operands]) _ h1, hf _ (by simp [Kd.operands]) _ h2, h3, h4, h5, ?_⟩
    split
    · rename_i hc; rw [if_pos hc] at h6; obtain ⟨vs, h', e1, e2, e3⟩ := h6; exact ⟨vs, h', e1, e2, hm _ _ e3⟩
    · rename_i hc; rw [if_neg hc] at h6; obtain ⟨us, vs, e1, e2, e3⟩ := h6; exact ⟨us, vs, e1, e2, fun c' hc' => hm _ _ (e3 c' hc')⟩
  case cmp => obtain ⟨u, v, b, h1, h2, h3, h4⟩ := H; exact ⟨u, v, b, hf _ (by simp [Kd.operands]) _ h1, hf _ (by simp [Kd.operands]) _ h2, h3, hm _ _ h4⟩
  case cap => obtain ⟨a, n, c, h1, h2⟩ := H; exact ⟨a, n, c, hf _ (by simp [Kd.operands]) _ h1, hm _ _ h2⟩
  case lkp => obtain ⟨m, key, es, r, h1, h2, h3, h4, h5⟩ := H; exact ⟨m, key, es, r, hf _ (by simp [Kd.operands]) _ h1, hf _ (by simp [Kd.operands]) _ h2, h3, h4, hm _ _ h5⟩
  case idx => obtain ⟨s, k, n, b, h1, h2, h3, h4, h5⟩ := H; exact ⟨s, k, n, b, hf _ (by simp [Kd.operands]) _ h1, hf _ (by simp [Kd.operands]) _ h2, h3, h4, hm _ _ h5⟩
  case mm => obtain ⟨k, n, k', m, h1, h2, h3⟩ := H; exact ⟨k, n, k', m, hf _ (by simp [Kd.operands]) _ h1, hf _ (by simp [Kd.operands]) _ h2, hm _ _ h3⟩
  case sls => obtain ⟨s, l, u, h1, h2, h3, h4, h5, h6⟩ := H; exact ⟨s, l, u, hf _ (by simp [Kd.operands]) _ h1, sliceLo_mp (fun o ho => hf o (by simp only [Kd.operands, List.mem_cons, List.mem_append]; simp [ho])) h2, by simpa using h3, sliceLo_mp (fun o ho => hf o (by simp only [Kd.operands, List.mem_cons, List.mem_append]; simp [ho])) h4, by simpa using h5, hm _ _ h6⟩
  case ent => obtain ⟨r, m, si, se, la, es, c, st, e, h1, h2⟩ := H; exact ⟨r, m, si, se, la, es, c, st, e, hf _ (by simp [Kd.operands]) _ h1, h2.1, h2.2.1, h2.2.2.1, h2.2.2.2.1, h2.2.2.2.2.1, hm _ _ h2.2.2.2.2.2⟩
  case mkm => exact hm _ _ H
  case mup => obtain ⟨b, es, c, key, val, r, h1, h2, h3, h4, h5, h6⟩ := H; exact ⟨b, es, c, key, val, r, hf _ (by simp [Kd.operands]) _ h1, hf _ (by simp [Kd.operands]) _ h2, hf _ (by simp [Kd.operands]) _ h3, h4, h5, hm _ _ h6⟩
  case mpe => obtain ⟨b, es, c, key, r, h1, h2, h4, h5, h6⟩ := H; exact ⟨b, es, c, key, r, hf _ (by simp [Kd.operands]) _ h1, hf _ (by simp [Kd.operands]) _ h2, h4, h5, hm _ _ h6⟩
  case ens => obtain ⟨b, es, c, kk, born, val, i, h1, h2, h3, h4, h5, h6⟩ := H; exact ⟨b, es, c, kk, born, val, i, hf _ (by simp [Kd.operands]) _ h1, hf _ (by simp [Kd.operands]) _ h2, hf _ (by simp [Kd.operands]) _ h3, h4, h5, hm _ _ h6⟩
  case del => obtain ⟨b, es, c, key, r, h1, h2, h4, h5, h6⟩ := H; exact ⟨b, es, c, key, r, hf _ (by simp [Kd.operands]) _ h1, hf _ (by simp [Kd.operands]) _ h2, h4, h5, hm _ _ h6⟩
  case rng => obtain ⟨b, es, c, h1, h2, h3⟩ := H; exact ⟨b, es, c, hf _ (by simp [Kd.operands]) _ h1, h2, hm _ _ h3⟩
  case nxt =>
    obtain ⟨r, m, si, se, la, es, c, h1, h2, h3, h4, h5, h6⟩ := H
    exact ⟨r, m, si, se, la, es, c, hf _ (by simp [Kd.operands]) _ h1, h2, h3, h4, fun e he hc => hm _ _ (h5 e he hc), fun h => hm _ _ (h6 h)⟩
  case mks => obtain ⟨n, m, h1, h2, h3, h4, h5, h6⟩ := H; exact ⟨n, m, hf _ (by simp [Kd.operands]) _ h1, hf _ (by simp [Kd.operands]) _ h2, h3, h4, h5, hm _ _ h6⟩
  case cpy => obtain ⟨a, n, c, v, m, vs, h', h1, h2, h3, h4, h5, h6⟩ := H; exact ⟨a, n, c, v, m, vs, h', hf _ (by simp [Kd.operands]) _ h1, hf _ (by simp [Kd.operands]) _ h2, h3, h4, h5, hm _ _ h6⟩
  case clr => obtain ⟨a, n, c, h', h1, h2, h3⟩ := H; exact ⟨a, n, c, h', hf _ (by simp [Kd.operands]) _ h1, h2, hm _ _ h3⟩
  case ext => obtain ⟨vs, v, h1, h2, h3⟩ := H; exact ⟨vs, v, hf _ (by simp [Kd.operands]) _ h1, h2, hm _ _ h3⟩
  case call => obtain ⟨fid, cap, vs, h1, h2, h3⟩ := H; exact ⟨fid, cap, vs, hf _ (by simp [Kd.operands]) _ h1, evs_mp (fun o ho => hf o (by simp [Kd.operands, ho])) h2, h3.mono hm⟩
  case mki => obtain ⟨v, a, b⟩ := H; exact ⟨v, hf _ (by simp [Kd.operands]) _ a, hm _ _ b⟩
  case mkf => obtain ⟨v, a, b⟩ := H; exact ⟨v, evs_mp hf a, hm _ _ b⟩
  case raw o =>
    intro a w N ha hw
    obtain ⟨v, w', h1, h2, h3⟩ := H a w N (ha.weaken (hr _ rfl)) hw
    exact ⟨v, w', h1, h2, hm _ _ h3⟩

theorem Kd.mp_id (k : Kd) : k.mp (fun o => o) = k := by
  have hS : (Src.mp fun o : Operand => o) = id := by funext s; cases s <;> rfl
  cases k <;> simp [Kd.mp, hS]
theorem Kd.mono {P : Program} {k : Kd} {ρ ρ0 : Env} {h : Heap} {K K' : Value → Heap → Prop} (hs : ρ.sub ρ0) (hm : ∀ v h, K v h → K' v h) (H : k.sem P ρ h K) : k.sem P ρ0 h K' :=
  Kd.lift (f := fun o => o) (fun o _ v e => ev_sub hs e) (fun _ _ _ _ _ => ⟨rfl, rfl⟩) (fun _ _ => hs) hm (by rw [Kd.mp_id]; exact H)

theorem semG_mono {P : Program} {c : COp} {h : Heap} {K K' : Value → Heap → Prop} (hs : ρ.sub ρ0) (hm : ∀ v h, K v h → K' v h) (H : semG P c ρ h K) : semG P c ρ0 h K' := by
  obtain ⟨d, k, g⟩ := c
  cases g with
  | none => exact Kd.mono hs hm H
  | some tb =>
    obtain ⟨t, b⟩ := tb
    obtain ⟨gv, hg, h1, h2⟩ := H
    exact ⟨gv, hs _ _ hg, fun e => Kd.mono hs hm (h1 e), fun e => hm _ _ (h2 e)⟩
theorem againG_mono {P : Program} {c : COp} {h : Heap} (hs : ρ.sub ρ0) (H : againG P c ρ h) : againG P c ρ0 h :=
  semG_mono hs (fun v h' ⟨e, hd⟩ => ⟨e, fun d hd' => hs _ _ (hd d hd')⟩) H
end

/-- Of a frame of which more is known the region tells as much. -/
theorem runT_sub {P : Program} : ∀ {t : Tr} {ρ ρ0 : Env} {h : Heap} {K K' : Env → Heap → Prop}, ρ.sub ρ0 → (∀ ρ ρ' h, ρ.sub ρ' → K ρ h → K' ρ' h) → runT P t ρ h K → runT P t ρ0 h K'
  | .done, _, _, _, _, _, hs, hm, h => hm _ _ _ hs h
  | .st c t, _, _, _, _, _, hs, hm, h => semG_mono hs (fun v h' H => runT_sub (hs.put c.dst v) hm H) h
  | .ag c t, _, _, _, _, _, hs, hm, h => ⟨againG_mono hs h.1, runT_sub hs hm h.2⟩
  | .both t u, _, _, _, _, _, hs, hm, h => ⟨runT_sub hs hm h.1, runT_sub hs hm h.2⟩
theorem seqH_mono {K K' : Fr → Heap → Prop} {Q Q' : Exit → Fr → Heap → Prop} (hk : ∀ ρ h, K ρ h → K' ρ h) (hq : ∀ e ρ h, Q e ρ h → Q' e ρ h) : ∀ e ρ h, seqH K Q e ρ h → seqH K' Q' e ρ h
  | .normal, ρ, h, x => hk ρ h x
  | .exit _, _, _, x => hq _ _ _ x
  | .ret, _, _, x => hq _ _ _ x
  | .goto _, _, _, x => hq _ _ _ x
  | .panic _, _, _, x => hq _ _ _ x
  | .outgrown, _, _, x => hq _ _ _ x
theorem blockH_mono {id : Nat} {Q Q' : Exit → Fr → Heap → Prop} (hq : ∀ e ρ h, Q e ρ h → Q' e ρ h) : ∀ e ρ h, blockH id Q e ρ h → blockH id Q' e ρ h
  | .exit i, ρ, h, x => by
    simp only [blockH] at x ⊢
    split
    · rename_i e; rw [if_pos e] at x; exact hq _ _ _ x
    · rename_i e; rw [if_neg e] at x; exact hq _ _ _ x
  | .normal, _, _, x => hq _ _ _ x
  | .ret, _, _, x => hq _ _ _ x
  | .goto _, _, _, x => hq _ _ _ x
  | .panic _, _, _, x => hq _ _ _ x
  | .outgrown, _, _, x => hq _ _ _ x
theorem runT_mono' {P : Program} : ∀ {t : Tr} {ρ : Env} {h : Heap} {K K' : Env → Heap → Prop}, (∀ ρ h, K ρ h → K' ρ h) → runT P t ρ h K → runT P t ρ h K'
  | .done, _, _, _, _, hm, h => hm _ _ h
  | .st c t, _, _, _, _, hm, h => semG_mono Env.sub.rfl (fun v h' H => runT_mono' hm H) h
  | .ag c t, _, _, _, _, hm, h => ⟨h.1, runT_mono' hm h.2⟩
  | .both t u, _, _, _, _, hm, h => ⟨runT_mono' hm h.1, runT_mono' hm h.2⟩
theorem wpC_mono {P : Program} : ∀ {cc : CC} {Q Q' : Exit → Fr → Heap → Prop} {ρ : Fr} {h : Heap}, (∀ e ρ h, Q e ρ h → Q' e ρ h) → wpC P cc Q ρ h → wpC P cc Q' ρ h
  | .skip, _, _, _, _, hq, H => hq _ _ _ H
  | .ops t, _, _, _, _, hq, ⟨M, H⟩ => ⟨M, fun ρ h1 h2 => runT_mono' (fun _ _ x φ' hφ => hq _ _ _ (x φ' hφ)) (H ρ h1 h2)⟩
  | .seq a b, _, _, _, _, hq, H => wpC_mono (cc := a) (seqH_mono (fun _ _ x => wpC_mono (cc := b) hq x) hq) H
  | .cond o a b, _, _, _, _, hq, ⟨x, h0, h1, h2⟩ => ⟨x, h0, fun e => wpC_mono hq (h1 e), fun e => wpC_mono hq (h2 e)⟩
  | .block id a, _, _, _, _, hq, H => wpC_mono (cc := a) (blockH_mono hq) H
  | .loop a, _, _, _, _, hq, ⟨I, h0, h1⟩ => ⟨I, h0, fun n ρ h hi => wpC_mono (seqH_mono (fun _ _ x => x) hq) (h1 n ρ h hi)⟩
  | .exit id, _, _, _, _, hq, H => hq _ _ _ H
  | .ret, _, _, _, _, hq, H => hq _ _ _ H

/-! ### The rules, over what is known -/

section
variable {P : Program} {N : Nat}

/-- From whatever frame and heap fit, the body comes to an end that fits. (N: not looked at.) -/
structure J (P : Program) (N : Nat) (cc : CC) (ρ : Env) (cs : List Assn) (Q : Exit → Env → List Assn → Prop) : Prop where
  run : ∀ φ, Agr φ ρ → ∀ h, Sat h cs → wpC P cc (fun e φ' h' => ∃ ρ' cs', Agr φ' ρ' ∧ Sat h' cs' ∧ Q e ρ' cs') φ h

/-- The same of a region's operations. -/
structure JT (P : Program) (t : Tr) (ρ : Env) (cs : List Assn) (K : Env → List Assn → Prop) : Prop where
  run : ∀ h, Sat h cs → runT P t ρ h fun ρ' h' => ∃ ρ2 cs', ρ2.sub ρ' ∧ Sat h' cs' ∧ K ρ2 cs'

variable {ρ : Env} {cs : List Assn} {Q : Exit → Env → List Assn → Prop}

theorem J.skip (h : Q .normal ρ cs) : J P N .skip ρ cs Q := ⟨fun _ hs _ hc => ⟨ρ, cs, hs, hc, h⟩⟩
theorem J.exit {id : Nat} (h : Q (.exit id) ρ cs) : J P N (.exit id) ρ cs Q := ⟨fun _ hs _ hc => ⟨ρ, cs, hs, hc, h⟩⟩
theorem J.ret (h : Q .ret ρ cs) : J P N .ret ρ cs Q := ⟨fun _ hs _ hc => ⟨ρ, cs, hs, hc, h⟩⟩

theorem JT.sub {t : Tr} {ρ0 : Env} {K : Env → List Assn → Prop} (hs : ρ.sub ρ0) (h : JT P t ρ cs K) : JT P t ρ0 cs K :=
  ⟨fun w hc => runT_sub hs (fun _ _ _ hs' ⟨ρ2, cs', h1, h2, h3⟩ => ⟨ρ2, cs', h1.tr hs', h2, h3⟩) (h.run w hc)⟩

theorem Agr.sub {φ : Fr} {ρ ρ' : Env} (h : Agr φ ρ) (hs : ρ'.sub ρ) : Agr φ ρ' := fun t v e => h t v (hs t v e)
/-- The keys of what is known. -/
def keyMax : Env → Nat
  | [] => 0
  | (d, _) :: r => max (d + 1) (keyMax r)
theorem keyMax_lt : ∀ {ρ : Env} {t : Nat} {v : Value}, ρ.lk t = some v → t < keyMax ρ
  | [], _, _, h => by simp [Env.lk] at h
  | (d, u) :: r, t, v, h => by
    rw [lk_cons] at h
    simp only [keyMax]
    split at h
    · omega
    · have := keyMax_lt h; omega
theorem sub_of {φ : Fr} {ρ ρ0 : Env} (h : Agr φ ρ) (h0 : Agr φ ρ0) (ht : Tot (keyMax ρ) ρ0) : ρ.sub ρ0 := fun t v e => by
  obtain ⟨u, hu⟩ := ht t (keyMax_lt e)
  rw [hu, ← h t v e, ← h0 t u hu]

theorem J.ops {t : Tr} (h : JT P t ρ cs fun ρ' cs' => Q .normal ρ' cs') : J P N (.ops t) ρ cs Q :=
  ⟨fun φ hs w hc => ⟨keyMax ρ, fun ρ0 h0 ht => runT_mono' (fun _ _ ⟨ρ2, cs', h1, h2, h3⟩ φ' hφ => ⟨ρ2, cs', hφ.sub h1, h2, h3⟩) ((h.sub (sub_of hs h0 ht)).run w hc)⟩⟩

def seqQ (K : Env → List Assn → Prop) (Q : Exit → Env → List Assn → Prop) : Exit → Env → List Assn → Prop
  | .normal, ρ, cs => K ρ cs
  | e, ρ, cs => Q e ρ cs

theorem J.seq {x y : CC} (h : J P N x ρ cs (seqQ (fun ρ' cs' => J P N y ρ' cs' Q) Q)) : J P N (.seq x y) ρ cs Q := ⟨fun φ hs w hc => by
  refine wpC_mono (cc := x) ?_ (h.run φ hs w hc)
  rintro e φ' h' ⟨ρ2, cs', h1, h2, h3⟩
  cases e with
  | normal =>
    have h3 : J P N y ρ2 cs' Q := h3
    exact h3.run φ' h1 h' h2
  | _ => exact ⟨ρ2, cs', h1, h2, h3⟩⟩

theorem J.cond {o : Operand} {x y : CC} {b : Bool} (hb : ρ.ev o = some (.bool b)) (h1 : b = true → J P N x ρ cs Q) (h2 : b = false → J P N y ρ cs Q) : J P N (.cond o x y) ρ cs Q :=
  ⟨fun φ hs w hc => ⟨b, evF hs hb, fun e => (h1 e).run φ hs w hc, fun e => (h2 e).run φ hs w hc⟩⟩

def blockQ (id : Nat) (Q : Exit → Env → List Assn → Prop) : Exit → Env → List Assn → Prop
  | .exit i, ρ, cs => if i = id then Q .normal ρ cs else Q (.exit i) ρ cs
  | e, ρ, cs => Q e ρ cs

theorem J.block {id : Nat} {x : CC} (h : J P N x ρ cs (blockQ id Q)) : J P N (.block id x) ρ cs Q := ⟨fun φ hs w hc => by
  refine wpC_mono (cc := x) ?_ (h.run φ hs w hc)
  rintro e φ' h' ⟨ρ2, cs', h1, h2, h3⟩
  cases e with
  | exit i =>
    simp only [blockQ, blockH] at h3 ⊢
    split
    · rename_i hi; rw [if_pos hi] at h3; exact ⟨ρ2, cs', h1, h2, h3⟩
    · rename_i hi; rw [if_neg hi] at h3; exact ⟨ρ2, cs', h1, h2, h3⟩
  | _ => exact ⟨ρ2, cs', h1, h2, h3⟩⟩

/-- What is known of memory says what else is known of it. -/
def Up (cs ds : List Assn) : Prop := ∀ h, Sat h cs → Sat h ds

theorem J.weak {cc : CC} {ρ' : Env} {cs' : List Assn} (h : J P N cc ρ' cs' Q) (hρ : ρ'.sub ρ) (hc : Up cs cs') : J P N cc ρ cs Q :=
  ⟨fun φ hs w hw => h.run φ (hs.sub hρ) w (hc _ hw)⟩

theorem J.mono {cc : CC} {Q' : Exit → Env → List Assn → Prop} (h : J P N cc ρ cs Q') (hq : ∀ e ρ cs, Q' e ρ cs → Q e ρ cs) : J P N cc ρ cs Q :=
  ⟨fun φ hs w hc => wpC_mono (fun _ _ _ ⟨ρ2, cs', h1, h2, h3⟩ => ⟨ρ2, cs', h1, h2, hq _ _ _ h3⟩) (h.run φ hs w hc)⟩

/-- A loop: what holds at its head ('E i', 'C i', for i with 'G i'), and what goes down. -/
theorem J.loop {ι : Type} (G : ι → Prop) (E : ι → Env) (C : ι → List Assn) (μ : ι → Nat) {x : CC} (i0 : ι) (hG : G i0) (hE : (E i0).sub ρ) (hC : Up cs (C i0))
    (round : ∀ i, G i → J P N x (E i) (C i) (seqQ (fun ρ' cs' => ∃ j, G j ∧ μ j < μ i ∧ (E j).sub ρ' ∧ Up cs' (C j)) Q)) : J P N (.loop x) ρ cs Q := ⟨fun φ hs w hc => by
  refine ⟨fun n φ h => ∃ i, G i ∧ μ i = n ∧ Agr φ (E i) ∧ Sat h (C i), ⟨μ i0, i0, hG, rfl, hs.sub hE, hC _ hc⟩, ?_⟩
  rintro n φ1 h1 ⟨i, hi, rfl, hs1, hc1⟩
  refine wpC_mono ?_ ((round i hi).run φ1 hs1 h1 hc1)
  rintro e φ' h' ⟨ρ2, cs', k1, k2, k3⟩
  cases e with
  | normal =>
    obtain ⟨j, hj, hlt, hE', hC'⟩ := k3
    exact ⟨μ j, hlt, j, hj, rfl, k1.sub hE', hC' _ k2⟩
  | _ => exact ⟨ρ2, cs', k1, k2, k3⟩⟩

end
end Go.SL
