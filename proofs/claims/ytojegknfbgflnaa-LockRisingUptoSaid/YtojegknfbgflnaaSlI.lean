/- The walk's own words, part I: a body without its noise ('CC'), the rules for its parts, contracts of functions. Conditions: none. -/
import Derived.Test.YtojegknfbgflnaaSlH
set_option linter.unusedSimpArgs false
set_option linter.unusedVariables false
set_option linter.unusedSectionVars false
namespace Go.SL
open Go

inductive CC where
  | skip
  | ops (t : Tr)
  | seq (a b : CC)
  | cond (c : Operand) (a b : CC)
  | block (id : Nat) (a : CC)
  | loop (a : CC)
  | exit (id : Nat)
  | ret

def cleanOps (P : Program) (N : Nat) (ops : Array Oper) : List Oper → Option (List COp)
  | [] => some []
  | o :: r => match cleanOp P N ops o, cleanOps P N ops r with
    | some c, some l => some (c :: l)
    | _, _ => none

def cleanC (P : Program) (N : Nat) : Code → Option CC
  | .skip => some .skip
  | .label _ => some .skip
  | .region _ ops draw => match cleanOps P N ops ops.toList with
    | none => none
    | some cs =>
      if draw then
        if P.follows .mixedOrders && drawOk ops cs.toArray (Region.before ops) then (canon ops cs.toArray (Region.before ops) (ops.size + 1) 0).map .ops else none
      else some (.ops (listT cs))
  | .seq a b => match cleanC P N a, cleanC P N b with
    | some x, some y => some (.seq x y)
    | _, _ => none
  | .cond c a b => match cleanC P N a, cleanC P N b with
    | some x, some y => some (.cond c x y)
    | _, _ => none
  | .block id a => (cleanC P N a).map (.block id)
  | .loop a => (cleanC P N a).map .loop
  | .exit id => some (.exit id)
  | .ret => some .ret
  | _ => none

theorem cleanOps_spec {P : Program} {N : Nat} {ops : Array Oper} : ∀ {l : List Oper} {cs : List COp}, cleanOps P N ops l = some cs → l.map (cleanOp P N ops) = cs.map some
  | [], cs, h => by simp [cleanOps] at h; subst h; rfl
  | o :: r, cs, h => by
    simp only [cleanOps] at h
    split at h
    · rename_i c l h1 h2
      cases h
      simp [h1, cleanOps_spec h2]
    · simp at h

section
variable {P : Program} {N : Nat}

theorem region_wp {id : Nat} {ops : Array Oper} {d : Bool} {t : Tr} {ρ : Env} {a : Act} {w : World} {K : Env → Heap → Prop} {Q : Exit → Act → World → Prop}
    (hc : cleanC P N (.region id ops d) = some (.ops t)) (ha : Agrees a ρ N) (hr : runT P t ρ w.heap K) (hQ : ∀ ρ a w', Keeps w w' → K ρ w'.heap → Agrees a ρ N → Q .normal a w') :
    (Code.region id ops d).wp P Q a w := by
  simp only [cleanC] at hc
  split at hc
  · simp at hc
  · rename_i cs hcs
    have hmap := cleanOps_spec hcs
    have hget : ∀ (i : Nat) (o : Oper), ops[i]? = some o → ∃ c : COp, cs.toArray[i]? = some c ∧ cleanOp P N ops o = some c := by
      intro i o ho
      have h1 : (ops.toList.map (cleanOp P N ops))[i]? = (cs.map some)[i]? := by rw [hmap]
      simp only [List.getElem?_map, Array.getElem?_toList, ho, Option.map_some] at h1
      cases h2 : cs[i]? with
      | none => simp [h2] at h1
      | some c => simp [h2] at h1; exact ⟨c, by simp [h2], h1⟩
    cases d with
    | false =>
      simp only [Bool.false_eq_true, if_false, Option.some.injEq, CC.ops.injEq] at hc
      subst hc
      refine wp_region (wpOps_list (w0 := w) (K := K) hQ (List.range ops.size) cs a ρ w ?_ (Keeps.refl w) ha hr)
      rw [← hmap]
      apply List.ext_getElem?
      intro i
      simp only [List.getElem?_map, List.getElem?_range', List.getElem?_range]
      by_cases hi : i < ops.size
      · simp [hi]
      · simp [hi]
    | true =>
      simp only [if_true] at hc
      split at hc
      · rename_i hok
        simp only [Bool.and_eq_true] at hok
        obtain ⟨hm, hok⟩ := hok
        simp only [Option.map_eq_some_iff, CC.ops.injEq, exists_eq_right] at hc
        have F := drawFacts hget hok
        refine wp_region_any hm ?_
        simp only [canon] at hc
        split at hc
        · rename_i T1 hT1
          have I : Inv P N ops cs.toArray (Array.replicate ops.size false) a w.heap 0 ρ a := by
            refine ⟨by simp, ha, ha.defers, ha.size, fun t _ => rfl, fun i hi => ?_, fun i hi => by simp at hi, fun i o hi => by simp at hi, fun i o hi => ?_, fun i hi => by simp at hi⟩
            · simp only [Array.getD_eq_getD_getElem?, Array.getElem?_replicate] at hi
              split at hi <;> simp at hi
            · simp only [Array.getD_eq_getD_getElem?, Array.getElem?_replicate] at hi
              split at hi <;> simp at hi
          obtain ⟨h1, h2, h3⟩ := satL_spec (cs := cs.toArray) F.on (b := Region.before ops) (List.range ops.size) 0 List.pairwise_lt_range
          obtain ⟨ρ', x', I3, hr3⟩ := advance F (List.range ops.size) 0 ρ a t (fun j hj => by simpa using hj) I hc hr
          refine draw_main F (w0 := w) (K := K) hQ ops.size _ a { w with drawn := w.drawn + 1 } ops.size _ ρ' x' T1 ⟨rfl, rfl, rfl, Nat.le_succ _⟩ ?_ I3 (fun j hj hq hr => h3 j (by simpa using hj) hq hr) hT1 hr3
          have : cnt ops (Array.replicate ops.size false) = 0 := by
            unfold cnt
            rw [List.length_eq_zero_iff, List.filter_eq_nil_iff]
            intro i hi
            simp only [Array.getD_eq_getD_getElem?, Array.getElem?_replicate]
            split <;> simp
          omega
        · simp at hc
      · simp at hc

/-! ### The rules, over what is known -/

/-- From whatever frame and heap fit, the body comes to an end that fits. -/
structure J (P : Program) (N : Nat) (cc : CC) (ρ : Env) (cs : List Assn) (Q : Exit → Env → List Assn → Prop) : Prop where
  run : ∀ c, cleanC P N c = some cc → ∀ a w, Agrees a ρ N → Sat w.heap cs → c.wp P (fun e a' w' => ∃ ρ' cs', Keeps w w' ∧ Agrees a' ρ' N ∧ Sat w'.heap cs' ∧ Q e ρ' cs') a w

/-- The same of a region's operations. -/
structure JT (P : Program) (t : Tr) (ρ : Env) (cs : List Assn) (K : Env → List Assn → Prop) : Prop where
  run : ∀ h, Sat h cs → runT P t ρ h fun ρ' h' => ∃ cs', Sat h' cs' ∧ K ρ' cs'

variable {ρ : Env} {cs : List Assn} {Q : Exit → Env → List Assn → Prop}

theorem cleanC_skip {c : Code} (h : cleanC P N c = some .skip) : c = .skip ∨ ∃ l, c = .label l := by
  cases c <;> simp only [cleanC] at h
  case skip => exact .inl rfl
  case label l => exact .inr ⟨l, rfl⟩
  case region id ops d =>
    split at h
    · simp at h
    · split at h
      · split at h
        · simp at h
        · simp at h
      · simp at h
  case seq a b => split at h <;> simp at h
  case cond a b c => split at h <;> simp at h
  all_goals simp at h

theorem cleanC_ops {c : Code} {t : Tr} (h : cleanC P N c = some (.ops t)) : ∃ id ops d, c = .region id ops d := by
  cases c <;> simp only [cleanC] at h
  case region id ops d => exact ⟨_, _, _, rfl⟩
  case seq a b => split at h <;> simp at h
  case cond a b c => split at h <;> simp at h
  all_goals simp at h

theorem cleanC_seq {c : Code} {x y : CC} (h : cleanC P N c = some (.seq x y)) : ∃ a b, c = .seq a b ∧ cleanC P N a = some x ∧ cleanC P N b = some y := by
  cases c <;> simp only [cleanC] at h
  case region id ops d =>
    split at h
    · simp at h
    · split at h
      · split at h
        · simp at h
        · simp at h
      · simp at h
  case seq a b =>
    split at h
    · rename_i u v hu hv; cases h; exact ⟨a, b, rfl, hu, hv⟩
    · simp at h
  case cond a b c => split at h <;> simp at h
  all_goals simp at h

theorem cleanC_cond {c : Code} {o : Operand} {x y : CC} (h : cleanC P N c = some (.cond o x y)) : ∃ a b, c = .cond o a b ∧ cleanC P N a = some x ∧ cleanC P N b = some y := by
  cases c <;> simp only [cleanC] at h
  case region id ops d =>
    split at h
    · simp at h
    · split at h
      · split at h
        · simp at h
        · simp at h
      · simp at h
  case seq a b => split at h <;> simp at h
  case cond o' a b =>
    split at h
    · rename_i u v hu hv; cases h; exact ⟨a, b, rfl, hu, hv⟩
    · simp at h
  all_goals simp at h

theorem cleanC_block {c : Code} {id : Nat} {x : CC} (h : cleanC P N c = some (.block id x)) : ∃ a, c = .block id a ∧ cleanC P N a = some x := by
  cases c <;> simp only [cleanC] at h
  case region id ops d =>
    split at h
    · simp at h
    · split at h
      · split at h
        · simp at h
        · simp at h
      · simp at h
  case seq a b => split at h <;> simp at h
  case cond a b c => split at h <;> simp at h
  case block id' a => simp only [Option.map_eq_some_iff, CC.block.injEq] at h; obtain ⟨u, hu, rfl, rfl⟩ := h; exact ⟨a, rfl, hu⟩
  all_goals simp at h

theorem cleanC_loop {c : Code} {x : CC} (h : cleanC P N c = some (.loop x)) : ∃ a, c = .loop a ∧ cleanC P N a = some x := by
  cases c <;> simp only [cleanC] at h
  case region id ops d =>
    split at h
    · simp at h
    · split at h
      · split at h
        · simp at h
        · simp at h
      · simp at h
  case seq a b => split at h <;> simp at h
  case cond a b c => split at h <;> simp at h
  case loop a => simp at h; exact ⟨a, rfl, h⟩
  all_goals simp at h

theorem cleanC_exit {c : Code} {id : Nat} (h : cleanC P N c = some (.exit id)) : c = .exit id := by
  cases c <;> simp only [cleanC] at h
  case region id ops d =>
    split at h
    · simp at h
    · split at h
      · split at h
        · simp at h
        · simp at h
      · simp at h
  case seq a b => split at h <;> simp at h
  case cond a b c => split at h <;> simp at h
  case exit i => simp at h; rw [h]
  all_goals simp at h

theorem cleanC_ret {c : Code} (h : cleanC P N c = some .ret) : c = .ret := by
  cases c <;> simp only [cleanC] at h
  case region id ops d =>
    split at h
    · simp at h
    · split at h
      · split at h
        · simp at h
        · simp at h
      · simp at h
  case seq a b => split at h <;> simp at h
  case cond a b c => split at h <;> simp at h
  case ret => rfl
  all_goals simp at h

theorem J.skip (h : Q .normal ρ cs) : J P N .skip ρ cs Q := ⟨by
  intro c hc a w ha hs
  rcases cleanC_skip hc with rfl | ⟨l, rfl⟩
  · exact wp_skip ⟨ρ, cs, .refl w, ha, hs, h⟩
  · exact wp_label ⟨ρ, cs, .refl w, ha, hs, h⟩⟩

theorem J.ops {t : Tr} (h : JT P t ρ cs fun ρ' cs' => Q .normal ρ' cs') : J P N (.ops t) ρ cs Q := ⟨by
  intro c hc a w ha hs
  obtain ⟨id, ops, d, rfl⟩ := cleanC_ops hc
  exact region_wp hc ha (h.run _ hs) fun ρ a w hk ⟨cs', hs', hq⟩ ha' => ⟨ρ, cs', hk, ha', hs', hq⟩⟩

def seqQ (K : Env → List Assn → Prop) (Q : Exit → Env → List Assn → Prop) : Exit → Env → List Assn → Prop
  | .normal, ρ, cs => K ρ cs
  | e, ρ, cs => Q e ρ cs

theorem J.seq {x y : CC} (h : J P N x ρ cs (seqQ (fun ρ' cs' => J P N y ρ' cs' Q) Q)) : J P N (.seq x y) ρ cs Q := ⟨by
  intro c hc a w ha hs
  obtain ⟨c1, c2, rfl, h1, h2⟩ := cleanC_seq hc
  refine wp_seq (wp_mono (h.run c1 h1 a w ha hs) ?_)
  rintro e a' w' ⟨ρ', cs', hk, ha', hs', hq⟩
  cases e with
  | normal =>
    have hq : J P N y ρ' cs' Q := hq
    exact wp_mono (hq.run c2 h2 a' w' ha' hs') fun e a'' w'' ⟨ρ2, cs2, hk2, r⟩ => ⟨ρ2, cs2, hk.trans hk2, r⟩
  | _ => exact ⟨ρ', cs', hk, ha', hs', hq⟩⟩

theorem J.cond {o : Operand} {x y : CC} {b : Bool} (hb : ρ.ev o = some (.bool b)) (h1 : b = true → J P N x ρ cs Q) (h2 : b = false → J P N y ρ cs Q) : J P N (.cond o x y) ρ cs Q := ⟨by
  intro c hc a w ha hs
  obtain ⟨c1, c2, rfl, hc1, hc2⟩ := cleanC_cond hc
  exact wp_cond_split (ha.ev hb) (fun e => (h1 e).run c1 hc1 a w ha hs) (fun e => (h2 e).run c2 hc2 a w ha hs)⟩

def blockQ (id : Nat) (Q : Exit → Env → List Assn → Prop) : Exit → Env → List Assn → Prop
  | .exit i, ρ, cs => if i = id then Q .normal ρ cs else Q (.exit i) ρ cs
  | e, ρ, cs => Q e ρ cs

theorem J.block {id : Nat} {x : CC} (h : J P N x ρ cs (blockQ id Q)) : J P N (.block id x) ρ cs Q := ⟨by
  intro c hc a w ha hs
  obtain ⟨c1, rfl, hc1⟩ := cleanC_block hc
  refine wp_block (wp_mono (h.run c1 hc1 a w ha hs) ?_)
  rintro e a' w' ⟨ρ', cs', hk, ha', hs', hq⟩
  cases e with
  | exit i =>
    simp only [Exit.inBlock]
    simp only [blockQ] at hq
    split at hq
    · rename_i hi; rw [if_pos hi]; exact ⟨ρ', cs', hk, ha', hs', hq⟩
    · rename_i hi; rw [if_neg hi]; exact ⟨ρ', cs', hk, ha', hs', hq⟩
  | _ => exact ⟨ρ', cs', hk, ha', hs', hq⟩⟩

theorem J.exit {id : Nat} (h : Q (.exit id) ρ cs) : J P N (.exit id) ρ cs Q := ⟨by
  intro c hc a w ha hs
  rw [cleanC_exit hc]
  exact wp_exit ⟨ρ, cs, .refl w, ha, hs, h⟩⟩

theorem J.ret (h : Q .ret ρ cs) : J P N .ret ρ cs Q := ⟨by
  intro c hc a w ha hs
  rw [cleanC_ret hc]
  exact wp_ret ⟨ρ, cs, .refl w, ha, hs, h⟩⟩

/-- Less is known of the frame. -/
def Env.sub (ρ' ρ : Env) : Prop := ∀ t v, ρ'.lk t = some v → ρ.lk t = some v

/-- What is known of memory says what else is known of it. -/
def Up (cs ds : List Assn) : Prop := ∀ h, Sat h cs → Sat h ds

theorem J.weak {cc : CC} {ρ' : Env} {cs' : List Assn} (h : J P N cc ρ' cs' Q) (hρ : ρ'.sub ρ) (hc : Up cs cs') : J P N cc ρ cs Q :=
  ⟨fun c hcc a w ha hs => h.run c hcc a w (ha.weaken hρ) (hc _ hs)⟩

theorem J.mono {cc : CC} {Q' : Exit → Env → List Assn → Prop} (h : J P N cc ρ cs Q') (hq : ∀ e ρ cs, Q' e ρ cs → Q e ρ cs) : J P N cc ρ cs Q :=
  ⟨fun c hcc a w ha hs => wp_mono (h.run c hcc a w ha hs) fun _ _ _ ⟨ρ', cs', hk, ha', hs', h⟩ => ⟨ρ', cs', hk, ha', hs', hq _ _ _ h⟩⟩

/-- A loop: what holds at its head ('E i', 'C i', for i with 'G i'), and what goes down. -/
theorem J.loop {ι : Type} (G : ι → Prop) (E : ι → Env) (C : ι → List Assn) (μ : ι → Nat) {x : CC} (i0 : ι) (hG : G i0) (hE : (E i0).sub ρ) (hC : Up cs (C i0))
    (round : ∀ i, G i → J P N x (E i) (C i) (seqQ (fun ρ' cs' => ∃ j, G j ∧ μ j < μ i ∧ (E j).sub ρ' ∧ Up cs' (C j)) Q)) : J P N (.loop x) ρ cs Q := ⟨by
  intro c hc a w ha hs
  obtain ⟨c1, rfl, hc1⟩ := cleanC_loop hc
  have key : ∀ n (b : Frame) (k : List Item) (fs : List Frame) (i : ι) (a : Act) (w : World), μ i = n → G i → Agrees a (E i) N → Sat w.heap (C i) →
      ∃ e a' w', (∃ ρ' cs', Keeps w w' ∧ Agrees a' ρ' N ∧ Sat w'.heap cs' ∧ Q e ρ' cs') ∧ Arrives P (lone (b.at a (.code c1 :: .inLoop c1 :: k)) fs w) b k fs e a' w' := by
    intro n
    induction n using Nat.strongRecOn with
    | _ n ih =>
      intro b k fs i a w hn hGi hai hsi
      obtain ⟨e, a1, w1, ⟨ρ', cs', hk, ha', hs', hq⟩, harr⟩ := (round i hGi).run c1 hc1 a w hai hsi b (.inLoop c1 :: k) fs
      cases e with
      | normal =>
        obtain ⟨j, hGj, hlt, hEj, hCj⟩ := hq
        obtain ⟨e2, a2, w2, ⟨ρ2, cs2, hk2, hq2⟩, harr2⟩ := ih (μ j) (hn ▸ hlt) b k fs j a1 w1 rfl hGj (ha'.weaken hEj) (hCj _ hs')
        exact ⟨e2, a2, w2, ⟨ρ2, cs2, hk.trans hk2, hq2⟩, .of_steps (Steps.trans harr (.one step_inLoop)) harr2⟩
      | exit id => exact ⟨_, a1, w1, ⟨ρ', cs', hk, ha', hs', hq⟩, .pass (x := .inLoop c1) rfl (fun _ _ => .inl (by simp)) harr⟩
      | goto l => exact ⟨_, a1, w1, ⟨ρ', cs', hk, ha', hs', hq⟩, .pass (x := .inLoop c1) rfl (fun _ _ => .inl (by simp)) harr⟩
      | ret => exact ⟨_, a1, w1, ⟨ρ', cs', hk, ha', hs', hq⟩, .pass (x := .inLoop c1) rfl (fun _ _ => .inl (by simp)) harr⟩
      | panic ch => exact ⟨_, a1, w1, ⟨ρ', cs', hk, ha', hs', hq⟩, .pass (x := .inLoop c1) rfl (fun _ _ => .inl (by simp)) harr⟩
      | outgrown => exact ⟨_, a1, w1, ⟨ρ', cs', hk, ha', hs', hq⟩, .pass (x := .inLoop c1) rfl (fun _ _ => .inl (by simp)) harr⟩
  intro b k fs
  obtain ⟨e, a', w', hq, harr⟩ := key _ b k fs i0 a w rfl hG (ha.weaken hE) (hC _ hs)
  exact ⟨e, a', w', hq, .of_steps (.one step_loop) harr⟩⟩

end
end Go.SL
