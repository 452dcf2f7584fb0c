/- The walk's own words, part G: the proof that one look serves whatever order is drawn. Conditions: none. -/
import Derived.Test.YtienlpaehgdpaaaSlF
set_option linter.unusedSimpArgs false
set_option linter.unusedVariables false
set_option linter.unusedSectionVars false
namespace Go.SL
open Go

theorem testBit_add (V i j : Nat) : (V ||| 2 ^ i).testBit j = (V.testBit j || decide (i = j)) := by
  rw [Nat.testBit_or, Nat.testBit_two_pow]

section
variable {P : Program} {N : Nat} {ops : Array Oper} {cs : Array COp}

theorem satL_spec (hon : ∀ (i : Nat) (o : Oper), ops[i]? = some o → ∀ e ∈ o.after, Region.binds .any e = true → e.on < i) {b : Array Nat} : ∀ (l : List Nat) (V : Nat), l.Pairwise (· < ·) →
    (∀ j, V.testBit j = true → (satL ops cs b l V).2.testBit j = true) ∧ (∀ j, j ∉ l → (satL ops cs b l V).2.testBit j = V.testBit j) ∧
    ∀ i ∈ l, quietAt ops cs b i = true → readyAt ops (satL ops cs b l V).2 i = true → (satL ops cs b l V).2.testBit i = true
  | [], V, _ => by simp [satL]
  | i :: r, V, hp => by
    obtain ⟨hlt, hp'⟩ := List.pairwise_cons.1 hp
    by_cases hc : (quietAt ops cs b i && !V.testBit i && readyAt ops V i) = true
    · obtain ⟨h1, h2, h3⟩ := satL_spec hon (b := b) r (V ||| 2 ^ i) hp'
      simp only [satL, hc, if_true]
      have hi : (satL ops cs b r (V ||| 2 ^ i)).2.testBit i = true := h1 i (by rw [testBit_add]; simp)
      refine ⟨fun j hj => h1 j (by rw [testBit_add, hj]; rfl), fun j hj => ?_, fun k hk hq hrd => ?_⟩
      · rw [h2 j (fun h => hj (List.mem_cons_of_mem _ h)), testBit_add]
        have : ¬ i = j := fun h => hj (by simp [h])
        simp [this]
      · rcases List.mem_cons.1 hk with rfl | hk
        · exact hi
        · exact h3 k hk hq hrd
    · obtain ⟨h1, h2, h3⟩ := satL_spec hon (b := b) r V hp'
      simp only [satL, hc, Bool.false_eq_true, if_false]
      refine ⟨h1, fun j hj => h2 j (fun h => hj (List.mem_cons_of_mem _ h)), fun k hk hq hrd => ?_⟩
      rcases List.mem_cons.1 hk with rfl | hk
      · by_cases hv : V.testBit k = true
        · exact h1 k hv
        · exfalso
          apply hc
          have hr : readyAt ops V k = true := by
            unfold readyAt at hrd ⊢
            cases ho : ops[k]? with
            | none => simp [ho] at hrd
            | some o =>
              simp only [ho] at hrd ⊢
              rw [Array.all_eq_true_iff_forall_mem] at hrd ⊢
              intro e he
              have := hrd e he
              by_cases hb : Region.binds .any e = true
              · simp only [hb, Bool.not_true, Bool.false_or] at this ⊢
                rw [h2 e.on (fun hm => by have := hlt _ hm; have := hon k o ho e he hb; omega)] at this
                exact this
              · simp [hb]
          simp [hq, hv, hr]
      · exact h3 k hk hq hrd

structure Inv (P : Program) (N : Nat) (ops : Array Oper) (cs : Array COp) (listed : Array Bool) (a : Act) (h : Heap) (V : Nat) (ρ : Env) (x : Act) : Prop where
  size : listed.size = ops.size
  agree : Agrees x ρ N
  defers : a.defers = []
  tsize : a.tmps.size = N
  same : ∀ t, (∀ r, V.testBit r = true → listed.getD r false = false → dstOf ops r ≠ some t) → a.tmps.getD t undef = x.tmps.getD t undef
  sub : ∀ i, listed.getD i false = true → V.testBit i = true
  lt : ∀ i, V.testBit i = true → i < ops.size
  closV : ∀ (i : Nat) (o : Oper), V.testBit i = true → ops[i]? = some o → ∀ e ∈ o.after, Region.binds .any e = true → V.testBit e.on = true
  closD : ∀ (i : Nat) (o : Oper), listed.getD i false = true → ops[i]? = some o → ∀ e ∈ o.after, Region.binds .any e = true → listed.getD e.on false = true
  pend : ∀ i, V.testBit i = true → listed.getD i false = false → quietAt ops cs (Region.before ops) i = true ∧ ∃ c, cs[i]? = some c ∧ againG P c ρ h

structure DrawFacts (P : Program) (N : Nat) (ops : Array Oper) (cs : Array COp) : Prop where
  clean : ∀ (i : Nat) (o : Oper), ops[i]? = some o → ∃ c : COp, cs[i]? = some c ∧ cleanOp P N ops o = some c
  sel : ∀ (j : Nat) (o : Oper) (cc : Array SelectCase) (b : Bool), ops[j]? = some o → o.op ≠ .select cc b
  on : ∀ (i : Nat) (o : Oper), ops[i]? = some o → ∀ e ∈ o.after, Region.binds .any e = true → e.on < i
  dst : ∀ i j : Nat, i < ops.size → j < ops.size → i ≠ j → ∀ d, dstOf ops i = some d →
    dstOf ops j ≠ some d ∧ (((Region.before ops).getD j 0).testBit i = true ∨ ((Region.before ops).getD i 0).testBit j = true ∨ d ∉ looksAll ops cs j)

theorem drawFacts (hcl : ∀ (i : Nat) (o : Oper), ops[i]? = some o → ∃ c : COp, cs[i]? = some c ∧ cleanOp P N ops o = some c) (h : drawOk ops cs (Region.before ops) = true) : DrawFacts P N ops cs := by
  simp only [drawOk, Bool.and_eq_true, List.all_eq_true, List.mem_range] at h
  obtain ⟨⟨h1, h2⟩, h3⟩ := h
  refine ⟨hcl, Region.noSelect_spec h1, fun i o ho e he hb => ?_, fun i j hi hj hne d hd => ?_⟩
  · have := (h3 i (Array.getElem?_eq_some_iff.1 ho).1).1
    simp only [ho] at this
    have := Array.all_eq_true_iff_forall_mem.1 this e he
    simpa [hb] using this
  · have := (h3 i hi).2 j hj
    simp only [hd, Bool.or_eq_true, beq_iff_eq, hne, false_or, Bool.and_eq_true, bne_iff_ne, ne_eq, Bool.not_eq_true', List.contains_eq_mem, decide_eq_false_iff_not] at this
    refine ⟨this.1, ?_⟩
    rcases this.2 with (h | h) | h
    · exact .inl h
    · exact .inr (.inl h)
    · exact .inr (.inr h)

variable (F : DrawFacts P N ops cs)
include F

theorem quiet_look {r j : Nat} {d : Nat} (hq : quietAt ops cs (Region.before ops) r = true) (hd : dstOf ops r = some d) (hj : j < ops.size) (hl : d ∈ looksAll ops cs j) :
    ((Region.before ops).getD j 0).testBit r = true := by
  unfold quietAt at hq
  split at hq
  · simp only [hd, Bool.and_eq_true, List.all_eq_true, List.mem_range] at hq
    have := hq.2 j hj
    simp only [Bool.or_eq_true, Bool.not_eq_true', List.contains_eq_mem, decide_eq_false_iff_not] at this
    rcases this with h | h
    · exact absurd hl h
    · exact h
  · simp at hq

theorem look_same {listed : Array Bool} {a x : Act} {h : Heap} {V : Nat} {ρ : Env} (I : Inv P N ops cs listed a h V ρ x) {i : Nat} {o : Oper} (ho : ops[i]? = some o)
    (hd : ∀ e ∈ o.after, Region.binds .any e = true → listed.getD e.on false = true) : ∀ t ∈ looksAll ops cs i, a.tmps.getD t undef = x.tmps.getD t undef := by
  intro t ht
  refine I.same t fun r hV hL hdr => ?_
  have hb := quiet_look F (I.pend r hV hL).1 hdr (Array.getElem?_eq_some_iff.1 ho).1 ht
  have := before_closed (S := fun j => listed.getD j false = true) (fun i o hi => I.closD i o hi) i o ho hd r hb
  rw [this] at hL
  cases hL

theorem exec_same {listed : Array Bool} {a x : Act} {h : Heap} {V : Nat} {ρ : Env} (I : Inv P N ops cs listed a h V ρ x) {i : Nat} {o : Oper} (ho : ops[i]? = some o)
    (hd : ∀ e ∈ o.after, Region.binds .any e = true → listed.getD e.on false = true) : execOp a.eval o = execOp x.eval o := by
  refine execOp_congr o (fun cs b => F.sel i o cs b ho) fun y hy => ?_
  cases y with
  | tmp t =>
    refine look_same F I ho hd t ?_
    simp only [looksAll, ho]
    exact List.mem_append_left _ (List.mem_append_left _ (List.mem_filterMap.2 ⟨.tmp t, by simpa using hy, rfl⟩))
  | _ => rfl

theorem guard_same {listed : Array Bool} {a x : Act} {h : Heap} {V : Nat} {ρ : Env} (I : Inv P N ops cs listed a h V ρ x) {i : Nat} {o : Oper} {c : COp} (ho : ops[i]? = some o) (hc : cs[i]? = some c)
    (hd : ∀ e ∈ o.after, Region.binds .any e = true → listed.getD e.on false = true) : ∀ t b, c.guard = some (t, b) → a.tmps.getD t undef = x.tmps.getD t undef := by
  intro t b hg
  refine look_same F I ho hd t ?_
  simp only [looksAll, hc]
  exact List.mem_append_right _ (by simp [COp.looks, hg])

omit F in
/-- A quiet operation goes on giving what it gave while what it looks at stands. -/
theorem again_congr {c : COp} (hq : quietK c.k = true) {ρ ρ' : Env} {h : Heap} (hl : ∀ t ∈ c.looks, ρ.lk t = ρ'.lk t) (hd : ∀ d v, c.dst = some d → ρ.lk d = some v → ρ'.lk d = some v)
    (H : againG P c ρ h) : againG P c ρ' h := by
  have hev : ∀ x ∈ c.k.operands, ρ.ev x = ρ'.ev x := fun x hx => ev_congr fun t ht => hl t (by
    subst ht
    exact List.mem_append_left _ (List.mem_filterMap.2 ⟨.tmp t, hx, rfl⟩))
  unfold againG semG at *
  cases hg : c.guard with
  | none =>
    rw [hg] at H
    exact sem_mono P hq (sem_congr P hq hev H) fun v ⟨h1, h2⟩ => ⟨h1, fun d hd' => hd d v hd' (h2 d hd')⟩
  | some tb =>
    obtain ⟨t, b⟩ := tb
    rw [hg] at H
    obtain ⟨g, h1, h2, h3⟩ := H
    have ht : ρ.lk t = ρ'.lk t := hl t (by simp [COp.looks, hg])
    refine ⟨g, by rw [← ht]; exact h1, fun e => ?_, fun e => ⟨rfl, fun d hd' => hd d _ hd' ((h3 e).2 d hd')⟩⟩
    exact sem_mono P hq (sem_congr P hq hev (h2 e)) fun v ⟨h1, h2⟩ => ⟨h1, fun d hd' => hd d v hd' (h2 d hd')⟩

/-- The pending operations behind a write to one more temporary. -/
theorem pend_put {listed : Array Bool} {a x : Act} {h : Heap} {V : Nat} {ρ : Env} (I : Inv P N ops cs listed a h V ρ x) {i : Nat} {o : Oper} {c : COp} (ho : ops[i]? = some o) (hc : cs[i]? = some c)
    (hnV : V.testBit i = false) (hno : ∀ r, V.testBit r = true → listed.getD r false = false → ∀ d, dstOf ops i = some d → d ∉ looksAll ops cs r) (v : Value) :
    ∀ r, V.testBit r = true → listed.getD r false = false → ∃ cr, cs[r]? = some cr ∧ againG P cr (ρ.put c.dst v) h := by
  intro r hV hL
  obtain ⟨hq, cr, hcr, hA⟩ := I.pend r hV hL
  refine ⟨cr, hcr, ?_⟩
  have hqk : quietK cr.k = true := by
    unfold quietAt at hq; simp only [hcr, Bool.and_eq_true] at hq; exact hq.1
  have hlt := I.lt r hV
  obtain ⟨or, hor⟩ : ∃ or, ops[r]? = some or := ⟨_, Array.getElem?_eq_getElem hlt⟩
  obtain ⟨cr', hcr', hclr⟩ := F.clean r or hor
  rw [hcr] at hcr'; cases hcr'
  obtain ⟨ci, hci, hcli⟩ := F.clean i o ho
  rw [hc] at hci; cases hci
  have hne : i ≠ r := fun e => by subst e; rw [hV] at hnV; cases hnV
  cases hd : c.dst with
  | none => exact hA
  | some d =>
    have hdi : dstOf ops i = some d := by
      obtain ⟨_, _, h3, _⟩ := cleanOp_spec hcli
      simp only [dstOf, ho, Option.bind_some]; rw [← h3]; exact hd
    refine again_congr hqk (fun t ht => ?_) (fun d' u hd' hu => ?_) hA
    · have hne' : d ≠ t := fun e => hno r hV hL d hdi (by subst e; simp only [looksAll, hcr]; exact List.mem_append_right _ ht)
      simp [Env.put, lk_cons, hne']
    · have hdr : dstOf ops r = some d' := by
        obtain ⟨_, _, h3, _⟩ := cleanOp_spec hclr
        simp only [dstOf, hor, Option.bind_some]; rw [← h3]; exact hd'
      have := (F.dst i r (Array.getElem?_eq_some_iff.1 ho).1 hlt hne d hdi).1
      have hne' : d ≠ d' := fun e => this (by rw [e]; exact hdr)
      simp [Env.put, lk_cons, hne']; exact hu

/-- A quiet operation that is ready is looked at. -/
theorem inv_quiet {listed : Array Bool} {a x : Act} {h : Heap} {V : Nat} {ρ : Env} (I : Inv P N ops cs listed a h V ρ x) {i : Nat} {c : COp} (hc : cs[i]? = some c) (hi : i < ops.size)
    (hq : quietAt ops cs (Region.before ops) i = true) (hnV : V.testBit i = false) (hr : readyAt ops V i = true) {K : Value → Heap → Prop} (hs : semG P c ρ h K) :
    ∃ v, Inv P N ops cs listed a h (V ||| 2 ^ i) (ρ.put c.dst v) (x.put c.dst v) ∧ K v h := by
  obtain ⟨o, ho⟩ : ∃ o, ops[i]? = some o := ⟨_, Array.getElem?_eq_getElem hi⟩
  obtain ⟨c', hc', hcl⟩ := F.clean i o ho
  rw [hc] at hc'; cases hc'
  obtain ⟨_, _, hdst, hdN⟩ := cleanOp_spec hcl
  rw [← hdst] at hdN
  have hdo : dstOf ops i = c.dst := by simp [dstOf, ho, hdst]
  have hqk : quietK c.k = true := by
    unfold quietAt at hq; simp only [hc, Bool.and_eq_true] at hq; exact hq.1
  have hdeps : ∀ e ∈ o.after, Region.binds .any e = true → V.testBit e.on = true := by
    intro e he hb
    unfold readyAt at hr; simp only [ho] at hr
    have := Array.all_eq_true_iff_forall_mem.1 hr e he
    simpa [hb] using this
  have hnL : listed.getD i false = false := by
    cases hl : listed.getD i false
    · rfl
    · rw [I.sub i hl] at hnV; cases hnV
  -- its own looks are not what it writes
  have hself : ∀ d, dstOf ops i = some d → d ∉ looksAll ops cs i := fun d hd hm => by
    have hb := quiet_look F hq hd hi hm
    have := before_closed (S := fun j => V.testBit j = true) (fun i o hi => I.closV i o hi) i o ho hdeps i hb
    rw [this] at hnV; cases hnV
  have hno : ∀ r, V.testBit r = true → listed.getD r false = false → ∀ d, dstOf ops i = some d → d ∉ looksAll ops cs r := fun r hV hL d hd hm => by
    have hb := quiet_look F hq hd (I.lt r hV) hm
    obtain ⟨or, hor⟩ : ∃ or, ops[r]? = some or := ⟨_, Array.getElem?_eq_getElem (I.lt r hV)⟩
    have := before_closed (S := fun j => V.testBit j = true) (fun i o hi => I.closV i o hi) r or hor (fun e he hb => I.closV r or hV hor e he hb) i hb
    rw [this] at hnV; cases hnV
  -- the value
  have hval : ∃ v, againG P c (ρ.put c.dst v) h ∧ K v h := by
    have hlk : ∀ v t, t ∈ c.looks → ρ.lk t = (ρ.put c.dst v).lk t := by
      intro v t ht
      cases hd : c.dst with
      | none => rfl
      | some d =>
        have : d ≠ t := fun e => hself d (by rw [hdo, hd]) (by subst e; simp only [looksAll, hc]; exact List.mem_append_right _ ht)
        simp [Env.put, lk_cons, this]
    have hev : ∀ v, ∀ y ∈ c.k.operands, ρ.ev y = (ρ.put c.dst v).ev y := fun v y hy => ev_congr fun t ht => hlk v t (by
      subst ht
      exact List.mem_append_left _ (List.mem_filterMap.2 ⟨.tmp t, hy, rfl⟩))
    have hput : ∀ v d, c.dst = some d → (ρ.put c.dst v).lk d = some v := fun v d hd => by simp [hd, Env.put, lk_cons]
    unfold againG
    unfold semG at hs ⊢
    cases hg : c.guard with
    | none =>
      rw [hg] at hs
      obtain ⟨v, h1, h2⟩ := sem_quiet P hqk hs
      exact ⟨v, sem_mono P hqk (sem_congr P hqk (hev v) h1) fun u ⟨e1, e2⟩ => ⟨e2, fun d hd => by rw [e1]; exact hput v d hd⟩, h2⟩
    | some tb =>
      obtain ⟨t, bb⟩ := tb
      rw [hg] at hs
      obtain ⟨g, h1, h2, h3⟩ := hs
      by_cases hgb : g = .bool bb
      · obtain ⟨v, h4, h5⟩ := sem_quiet P hqk (h2 hgb)
        refine ⟨v, ⟨g, by rw [← hlk v t (by simp [COp.looks, hg])]; exact h1, fun _ => ?_, fun e => absurd hgb e⟩, h5⟩
        exact sem_mono P hqk (sem_congr P hqk (hev v) h4) fun u ⟨e1, e2⟩ => ⟨e2, fun d hd => by rw [e1]; exact hput v d hd⟩
      · exact ⟨undef, ⟨g, by rw [← hlk undef t (by simp [COp.looks, hg])]; exact h1, fun e => absurd e hgb, fun _ => ⟨rfl, fun d hd => hput _ d hd⟩⟩, h3 hgb⟩
  obtain ⟨v, hA, hK⟩ := hval
  refine ⟨v, ⟨I.size, I.agree.put hdN v, I.defers, I.tsize, fun t ht => ?_, fun j hj => ?_, fun j hj => ?_, fun j oj hj hoj e he hb => ?_, I.closD, fun j hj hL => ?_⟩, hK⟩
  · have hti : dstOf ops i ≠ some t := ht i (by rw [testBit_add]; simp) hnL
    have h0 := I.same t fun r hV hL => ht r (by rw [testBit_add, hV]; rfl) hL
    rw [h0]
    cases hd : c.dst with
    | none => rfl
    | some d =>
      have hne : d ≠ t := fun e => hti (by rw [hdo, hd, e])
      simp [Act.put, Array.getElem?_setIfInBounds_ne hne]
  · rw [testBit_add, I.sub j hj]; rfl
  · rw [testBit_add] at hj
    rcases Bool.or_eq_true _ _ ▸ hj with h1 | h1
    · exact I.lt j h1
    · have := of_decide_eq_true h1; omega
  · rw [testBit_add] at hj ⊢
    rcases Bool.or_eq_true _ _ ▸ hj with h1 | h1
    · rw [I.closV j oj h1 hoj e he hb]; rfl
    · have e1 := of_decide_eq_true h1
      subst e1
      rw [ho] at hoj; cases hoj
      rw [hdeps e he hb]; rfl
  · rw [testBit_add] at hj
    by_cases hV : V.testBit j = true
    · exact ⟨(I.pend j hV hL).1, pend_put F I ho hc hnV hno v j hV hL⟩
    · have : i = j := by simpa [hV] using hj
      subst this
      exact ⟨hq, c, hc, hA⟩

theorem advance {listed : Array Bool} {a : Act} {h : Heap} {K : Env → Heap → Prop} {t : Tr} : ∀ (l : List Nat) (V : Nat) (ρ : Env) (x : Act) (T : Tr), (∀ i ∈ l, i < ops.size) →
    Inv P N ops cs listed a h V ρ x → stAll cs (satL ops cs (Region.before ops) l V).1 t = some T → runT P T ρ h K →
    ∃ ρ' x', Inv P N ops cs listed a h (satL ops cs (Region.before ops) l V).2 ρ' x' ∧ runT P t ρ' h K
  | [], V, ρ, x, T, _, I, hT, hr => by
    simp only [satL, stAll, Option.some.injEq] at hT ⊢
    subst hT; exact ⟨ρ, x, I, hr⟩
  | i :: r, V, ρ, x, T, hl, I, hT, hr => by
    by_cases hc : (quietAt ops cs (Region.before ops) i && !V.testBit i && readyAt ops V i) = true
    · simp only [satL, hc, if_true] at hT ⊢
      simp only [stAll] at hT
      split at hT
      · rename_i c u hci hu
        cases hT
        simp only [Bool.and_eq_true, Bool.not_eq_true'] at hc
        obtain ⟨⟨hq, hnV⟩, hrd⟩ := hc
        simp only [runT] at hr
        obtain ⟨v, I', hr'⟩ := inv_quiet F I hci (hl i (by simp)) hq hnV hrd hr
        exact advance r _ _ _ u (fun j hj => hl j (by simp [hj])) I' hu hr'
      · simp at hT
    · simp only [satL, hc, Bool.false_eq_true, if_false] at hT ⊢
      exact advance r V ρ x T (fun j hj => hl j (by simp [hj])) I hT hr

omit F in
theorem bothAll_mem {h : Heap} {ρ : Env} {K : Env → Heap → Prop} : ∀ {l : List (Option Tr)} {T : Tr}, bothAll l = some T → runT P T ρ h K → ∀ t ∈ l, ∃ u, t = some u ∧ runT P u ρ h K
  | [], T, _, _, t, ht => by cases ht
  | [s], T, hT, hr, t, ht => by simp only [bothAll] at hT; simp at ht; subst ht; exact ⟨T, hT, hr⟩
  | s :: u :: r, T, hT, hr, t, ht => by
    simp only [bothAll] at hT
    cases hs : s with
    | none => simp [hs] at hT
    | some x =>
      cases hy : bothAll (u :: r) with
      | none => simp [hs, hy] at hT
      | some y =>
        simp only [hs, hy, Option.some.injEq] at hT
        subst hT
        obtain ⟨h1, h2⟩ := hr
        rcases List.mem_cons.1 ht with rfl | ht
        · exact ⟨x, hs, h1⟩
        · exact bothAll_mem (l := u :: r) hy h2 t ht

omit F in
theorem agAll_run {h : Heap} {ρ : Env} {K : Env → Heap → Prop} {t : Tr} : ∀ {l : List Nat} {T : Tr}, agAll cs l t = some T → runT P T ρ h K →
    (∀ r ∈ l, ∃ c, cs[r]? = some c ∧ againG P c ρ h) ∧ runT P t ρ h K
  | [], T, hT, hr => by simp only [agAll, Option.some.injEq] at hT; subst hT; exact ⟨(fun r h => by cases h), hr⟩
  | i :: r, T, hT, hr => by
    simp only [agAll] at hT
    split at hT
    · rename_i c u hc hu
      cases hT
      obtain ⟨h1, h2⟩ := hr
      obtain ⟨h3, h4⟩ := agAll_run hu h2
      refine ⟨fun j hj => ?_, h4⟩
      rcases List.mem_cons.1 hj with rfl | hj
      · exact ⟨c, hc, h1⟩
      · exact h3 j hj
    · simp at hT

omit F in
theorem sem_alloc2 {k : Kd} (ha : allocK k = true) {ρ : Env} {h : Heap} {K : Value → Heap → Prop} (hs : k.sem P ρ h K) :
    k.sem P ρ h (fun v h' => ((∃ o, h' = h.push o) ∨ h' = h) ∧ K v h') := by
  cases k <;> simp only [allocK, Bool.false_eq_true] at ha
  case new T cells => exact ⟨.inl ⟨_, rfl⟩, hs⟩
  case box T x => obtain ⟨v, h1, h2⟩ := hs; exact ⟨v, h1, .inl ⟨_, rfl⟩, h2⟩
  case bsl T src len => obtain ⟨cs, h1, h2⟩ := hs; exact ⟨cs, h1, .inl ⟨_, rfl⟩, h2⟩
  case mkm => exact ⟨.inl ⟨_, rfl⟩, hs⟩
  case rng x => obtain ⟨b, es, c, h1, h2, h3⟩ := hs; exact ⟨b, es, c, h1, h2, .inl ⟨_, rfl⟩, h3⟩
  case mks T sz bytes z l c => obtain ⟨n, m, h1, h2, h3, h4, h5, h6⟩ := hs; exact ⟨n, m, h1, h2, h3, h4, h5, .inl ⟨_, rfl⟩, h6⟩

omit F in
theorem semG_mono_alloc {c : COp} (hk : allocK c.k = true) {ρ : Env} {h : Heap} {K : Value → Heap → Prop} (hs : semG P c ρ h K) : semG P c ρ h (fun v h' => ((∃ o, h' = h.push o) ∨ h' = h) ∧ K v h') := by
  unfold semG at *
  have key : ∀ {ρ : Env} {K : Value → Heap → Prop}, c.k.sem P ρ h K → c.k.sem P ρ h (fun v h' => ((∃ o, h' = h.push o) ∨ h' = h) ∧ K v h') := by
    intro ρ K hs
    exact sem_alloc2 hk hs
  cases hg : c.guard with
  | none => rw [hg] at hs; exact key hs
  | some tb =>
    obtain ⟨t, b⟩ := tb
    rw [hg] at hs
    obtain ⟨g, h1, h2, h3⟩ := hs
    exact ⟨g, h1, fun e => key (h2 e), fun e => ⟨.inr rfl, h3 e⟩⟩

omit F in
theorem again_free {c : COp} (hq : quietK c.k = true) (hr : readsK c.k = false) {ρ : Env} {h h2 : Heap} (H : againG P c ρ h) : againG P c ρ h2 := by
  unfold againG semG at *
  cases hg : c.guard with
  | none => rw [hg] at H; exact sem_free P hq hr H
  | some tb =>
    obtain ⟨t, b⟩ := tb
    rw [hg] at H
    obtain ⟨g, h1, h3, h4⟩ := H
    exact ⟨g, h1, fun e => sem_free P hq hr (h3 e), fun e => ⟨rfl, (h4 e).2⟩⟩

omit F in
theorem again_push {c : COp} (hq : quietK c.k = true) (hp : pushSafe c.k = true) {ρ : Env} {h : Heap} {o : Obj} (H : againG P c ρ h) : againG P c ρ (h.push o) := by
  unfold againG semG at *
  cases hg : c.guard with
  | none => rw [hg] at H; exact sem_push P hq hp H
  | some tb =>
    obtain ⟨t, b⟩ := tb
    rw [hg] at H
    obtain ⟨g, h1, h3, h4⟩ := H
    exact ⟨g, h1, fun e => sem_push P hq hp (h3 e), fun e => ⟨rfl, (h4 e).2⟩⟩

omit F in
theorem filter_one (i : Nat) (p : Nat → Bool) : ∀ (l : List Nat), l.Nodup → i ∈ l → p i = false → (l.filter fun j => p j || j == i).length = (l.filter p).length + 1
  | [], _, h, _ => by cases h
  | k :: l, hn, hm, hp => by
    obtain ⟨h1, h2⟩ := List.nodup_cons.1 hn
    rcases List.mem_cons.1 hm with rfl | hm
    · have : (l.filter fun j => p j || j == i) = l.filter p := List.filter_congr fun j hj => by
        have : (j == i) = false := by simp; intro e; subst e; exact h1 hj
        simp [this]
      simp [List.filter_cons, hp, this]
    · have ih := filter_one i p l h2 hm hp
      have hk : (k == i) = false := by simp; intro e; subst e; exact h1 hm
      simp only [List.filter_cons, hk, Bool.or_false]
      split
      · simp [ih]
      · exact ih

def cnt (ops : Array Oper) (listed : Array Bool) : Nat := ((List.range ops.size).filter fun i => listed.getD i false).length

omit F in
theorem cnt_set {listed : Array Bool} {i : Nat} (hs : listed.size = ops.size) (hi : i < ops.size) (hL : listed.getD i false = false) : cnt ops (listed.setIfInBounds i true) = cnt ops listed + 1 := by
  unfold cnt
  rw [← filter_one i (fun j => listed.getD j false) (List.range ops.size) List.nodup_range (by simpa using hi) hL]
  congr 1
  apply List.filter_congr
  intro j hj
  by_cases hji : j = i
  · subst hji; simp [hs, hi]
  · rw [getD_set_ne false (Ne.symm hji)]; simp [hji]

omit F in
theorem getD_tf {listed : Array Bool} {i : Nat} (hs : listed.size = ops.size) (hi : i < ops.size) : listed.getD i true = listed.getD i false := by
  simp [Array.getElem?_eq_getElem (show i < listed.size by omega)]

theorem draw_main {w0 : World} {K : Env → Heap → Prop} {Q : Exit → Act → World → Prop} (hQ : ∀ ρ a w, Keeps w0 w → K ρ w.heap → Agrees a ρ N → Q .normal a w) :
    ∀ (m : Nat) (listed : Array Bool) (a : Act) (w : World) (f V : Nat) (ρ : Env) (x : Act) (T : Tr), Keeps w0 w → cnt ops listed + m = ops.size →
      Inv P N ops cs listed a w.heap V ρ x → (∀ i, i < ops.size → quietAt ops cs (Region.before ops) i = true → readyAt ops V i = true → V.testBit i = true) →
      bothAll ((effs ops V).map fun e => match cs[e]?, (canon ops cs (Region.before ops) f (V ||| 2 ^ e)).bind (agAll cs (agains ops cs (Region.before ops) e V)) with
        | some c, some t => some (.st c t)
        | _, _ => none) = some T → runT P T ρ w.heap K → wpAny P .any ops Q m listed a w := by
  intro m
  induction m with
  | zero =>
    intro listed a w f V ρ x T hw hm I hsat hT hr
    have hall : ∀ i, i < ops.size → listed.getD i false = true := by
      intro i hi
      have : ((List.range ops.size).filter fun i => listed.getD i false).length = (List.range ops.size).length := by simp; unfold cnt at hm; simpa using hm
      rw [List.length_filter_eq_length_iff] at this
      exact this i (by simpa using hi)
    have he : effs ops V = [] := by
      unfold effs
      rw [List.filter_eq_nil_iff]
      intro i hi
      simp [I.sub i (hall i (by simpa using hi))]
    rw [he] at hT
    simp only [List.map_nil, bothAll, Option.some.injEq] at hT
    subst hT
    refine ⟨?_, hQ ρ a w hw hr ?_⟩
    · unfold Region.ready
      rw [List.filter_eq_nil_iff]
      intro i hi
      have hi' : i < ops.size := by simpa using hi
      rw [getD_tf I.size hi', hall i hi']; simp
    · refine ⟨I.defers, I.tsize, fun t v ht => ?_⟩
      rw [I.same t fun r hV hL => by rw [hall r (I.lt r hV)] at hL; cases hL]
      exact I.agree.lk t v ht
  | succ m ih =>
    intro listed a w f V ρ x T hw hm I hsat hT hr
    refine ⟨fun hnil => ?_, fun i hi => ?_⟩
    · -- nothing is ready
      have hnp : ∀ r, V.testBit r = true → listed.getD r false = true := by
        intro r
        induction r using Nat.strongRecOn with
        | _ r ihr =>
          intro hV
          cases hL : listed.getD r false
          · exfalso
            obtain ⟨o, ho⟩ : ∃ o, ops[r]? = some o := ⟨_, Array.getElem?_eq_getElem (I.lt r hV)⟩
            have : r ∈ Region.ready .any ops listed := mem_ready.2 ⟨by rw [getD_tf I.size (I.lt r hV)]; exact hL, o, ho, fun e he hb =>
              ihr e.on (F.on r o ho e he hb) (I.closV r o hV ho e he hb)⟩
            rw [hnil] at this; cases this
          · rfl
      have he : effs ops V = [] := by
        unfold effs
        rw [List.filter_eq_nil_iff]
        intro i hi hc
        have hi' : i < ops.size := by simpa using hi
        simp only [Bool.and_eq_true, Bool.not_eq_true'] at hc
        obtain ⟨hV, hrd⟩ := hc
        obtain ⟨o, ho⟩ : ∃ o, ops[i]? = some o := ⟨_, Array.getElem?_eq_getElem hi'⟩
        have hun : listed.getD i true = false := by
          rw [getD_tf I.size hi']
          cases hL : listed.getD i false
          · rfl
          · rw [I.sub i hL] at hV; cases hV
        have hde : ∀ e ∈ o.after, Region.binds .any e = true → listed.getD e.on false = true := by
          intro e he hb
          refine hnp _ ?_
          unfold readyAt at hrd; simp only [ho] at hrd
          have := Array.all_eq_true_iff_forall_mem.1 hrd e he
          simpa [hb] using this
        have : i ∈ Region.ready .any ops listed := mem_ready.2 ⟨hun, o, ho, hde⟩
        rw [hnil] at this; cases this
      rw [he] at hT
      simp only [List.map_nil, bothAll, Option.some.injEq] at hT
      subst hT
      refine hQ ρ a w hw hr ⟨I.defers, I.tsize, fun t v ht => ?_⟩
      rw [I.same t fun r hV hL => by rw [hnp r hV] at hL; cases hL]
      exact I.agree.lk t v ht
    · obtain ⟨hun, o, ho, hdeps⟩ := mem_ready.1 hi
      have hlt : i < ops.size := (Array.getElem?_eq_some_iff.1 ho).1
      rw [getD_tf I.size hlt] at hun
      obtain ⟨c, hc, hcl⟩ := F.clean i o ho
      obtain ⟨_, _, hdst, hdN⟩ := cleanOp_spec hcl
      have hdo : dstOf ops i = o.dst := by simp [dstOf, ho]
      have hsz : (listed.setIfInBounds i true).size = ops.size := by simp [I.size]
      have hcnt := cnt_set I.size hlt hun
      by_cases hV : V.testBit i = true
      · -- it was looked at already
        obtain ⟨hq, c', hc', hA⟩ := I.pend i hV hun
        rw [hc] at hc'; cases hc'
        refine wpOp_of ho hcl I.agree (exec_same F I ho hdeps) (guard_same F I ho hc hdeps) hA fun v w' hk hv => ?_
        obtain ⟨hh, hdv⟩ := hv
        refine ih _ _ w' f V ρ x T (hw.trans hk) (by rw [hcnt]; omega) ⟨hsz, I.agree, (by cases o.dst <;> simp [Act.put, I.defers]), ?_, fun t ht => ?_, fun j hj => ?_, I.lt, I.closV, fun j oj hj hoj e he hb => ?_, fun j hj hL => ?_⟩ hsat hT (by rw [hh]; exact hr)
        · cases o.dst <;> simp [Act.put, I.tsize]
        · by_cases hti : o.dst = some t
          · have htN := hdN t hti
            have hlkt := hdv t (by rw [hdst]; exact hti)
            rw [I.agree.lk t v hlkt]
            have : t < a.tmps.size := by rw [I.tsize]; exact htN
            simp [hti, Act.put, this]
          · have h0 := I.same t fun r hVr hLr => by
              by_cases hri : r = i
              · subst hri; rw [hdo]; exact hti
              · exact ht r hVr (by rw [getD_set_ne false (Ne.symm hri)]; exact hLr)
            rw [← h0]
            cases hd : o.dst with
            | none => rfl
            | some d =>
              have hne : d ≠ t := fun e => hti (by rw [hd, e])
              simp [Act.put, Array.getElem?_setIfInBounds_ne hne]
        · by_cases hji : j = i
          · subst hji; exact hV
          · rw [getD_set_ne false (Ne.symm hji)] at hj; exact I.sub j hj
        · by_cases hji : j = i
          · subst hji; rw [ho] at hoj; cases hoj; exact getD_set_true (hdeps e he hb)
          · rw [getD_set_ne false (Ne.symm hji)] at hj; exact getD_set_true (I.closD j oj hj hoj e he hb)
        · have hji : j ≠ i := fun e => by
            subst e
            simp [I.size, hlt] at hL
          rw [getD_set_ne false (Ne.symm hji)] at hL
          rw [hh]; exact I.pend j hj hL
      · -- an effect
        have hVf : V.testBit i = false := by simpa using hV
        have hrd : readyAt ops V i = true := by
          unfold readyAt; simp only [ho]
          rw [Array.all_eq_true_iff_forall_mem]
          intro e he
          by_cases hb : Region.binds .any e = true
          · simp [hb, I.sub _ (hdeps e he hb)]
          · simp [hb]
        have hmem : i ∈ effs ops V := by
          unfold effs
          rw [List.mem_filter]
          exact ⟨by simpa using hlt, by simp [hVf, hrd]⟩
        obtain ⟨u, hu, hru⟩ := bothAll_mem hT hr _ (List.mem_map.2 ⟨i, hmem, rfl⟩)
        simp only [hc] at hu
        split at hu
        · rename_i c0 t hc0 ht
          cases hc0
          cases hu
          simp only [Option.bind_eq_some_iff] at ht
          obtain ⟨t0, ht0, hag⟩ := ht
          cases f with
          | zero => simp [canon] at ht0
          | succ f =>
            simp only [canon] at ht0
            split at ht0
            · rename_i T1 hT1
              simp only [runT] at hru
              -- what the operation leaves
              have hru' : semG P c ρ w.heap (fun v h' => (allocK c.k = true → (∃ o, h' = w.heap.push o) ∨ h' = w.heap) ∧ runT P t (ρ.put c.dst v) h' K) := by
                by_cases hk : allocK c.k = true
                · have := semG_mono_alloc hk hru
                  unfold semG at this ⊢
                  simpa [hk] using this
                · unfold semG at hru ⊢
                  simpa [hk] using hru
              refine wpOp_of ho hcl I.agree (exec_same F I ho hdeps) (guard_same F I ho hc hdeps) hru' fun v w' hkp hv => ?_
              obtain ⟨hpush, hrt⟩ := hv
              obtain ⟨hags, hrt0⟩ := agAll_run hag hrt
              have hclos := fun r => before_closed (S := fun j => listed.getD j false = true) (fun i o hi => I.closD i o hi) i o ho hdeps r
              have hnoL : ∀ r, V.testBit r = true → listed.getD r false = false → ∀ d, dstOf ops i = some d → d ∉ looksAll ops cs r := by
                intro r hVr hLr d hd hm
                have hne : i ≠ r := fun e => by subst e; rw [hVr] at hVf; cases hVf
                rcases (F.dst i r hlt (I.lt r hVr) hne d hd).2 with h1 | h1 | h1
                · obtain ⟨or, hor⟩ : ∃ or, ops[r]? = some or := ⟨_, Array.getElem?_eq_getElem (I.lt r hVr)⟩
                  have := before_closed (S := fun j => V.testBit j = true) (fun i o hi => I.closV i o hi) r or hor (fun e he hb => I.closV r or hVr hor e he hb) i h1
                  rw [this] at hVf; cases hVf
                · rw [hclos r h1] at hLr; cases hLr
                · exact h1 hm
              have hpend := pend_put F I ho hc hVf hnoL v
              have I2 : Inv P N ops cs (listed.setIfInBounds i true) (a.put o.dst v) w'.heap (V ||| 2 ^ i) (ρ.put c.dst v) (x.put c.dst v) := by
                refine ⟨hsz, I.agree.put (by rw [hdst]; exact hdN) v, (by cases o.dst <;> simp [Act.put, I.defers]), ?_, fun t ht => ?_, fun j hj => ?_, fun j hj => ?_, fun j oj hj hoj e he hb => ?_, fun j oj hj hoj e he hb => ?_, fun j hj hL => ?_⟩
                · cases o.dst <;> simp [Act.put, I.tsize]
                · rw [hdst]
                  by_cases hti : o.dst = some t
                  · have htN := hdN t hti
                    have h1 : t < a.tmps.size := by rw [I.tsize]; exact htN
                    have h2 : t < x.tmps.size := by rw [I.agree.size]; exact htN
                    simp [hti, Act.put, h1, h2]
                  · have h0 := I.same t fun r hVr hLr => by
                      have hri : r ≠ i := fun e => by subst e; rw [hVr] at hVf; cases hVf
                      exact ht r (by rw [testBit_add, hVr]; rfl) (by rw [getD_set_ne false (Ne.symm hri)]; exact hLr)
                    cases hd : o.dst with
                    | none => exact h0
                    | some d =>
                      have hne : d ≠ t := fun e => hti (by rw [hd, e])
                      simp [Act.put, Array.getElem?_setIfInBounds_ne hne] at h0 ⊢; exact h0
                · rw [testBit_add]
                  by_cases hji : j = i
                  · subst hji; simp
                  · rw [getD_set_ne false (Ne.symm hji)] at hj; rw [I.sub j hj]; rfl
                · rw [testBit_add] at hj
                  rcases Bool.or_eq_true _ _ ▸ hj with h1 | h1
                  · exact I.lt j h1
                  · have := of_decide_eq_true h1; omega
                · rw [testBit_add] at hj ⊢
                  rcases Bool.or_eq_true _ _ ▸ hj with h1 | h1
                  · rw [I.closV j oj h1 hoj e he hb]; rfl
                  · have e1 := of_decide_eq_true h1
                    subst e1
                    rw [ho] at hoj; cases hoj
                    rw [I.sub _ (hdeps e he hb)]; rfl
                · by_cases hji : j = i
                  · subst hji; rw [ho] at hoj; cases hoj; exact getD_set_true (hdeps e he hb)
                  · rw [getD_set_ne false (Ne.symm hji)] at hj; exact getD_set_true (I.closD j oj hj hoj e he hb)
                · have hji : j ≠ i := fun e => by
                    subst e
                    simp [I.size, hlt] at hL
                  rw [getD_set_ne false (Ne.symm hji)] at hL
                  rw [testBit_add] at hj
                  have hVj : V.testBit j = true := by
                    rcases Bool.or_eq_true _ _ ▸ hj with h1 | h1
                    · exact h1
                    · exact absurd (of_decide_eq_true h1).symm hji
                  obtain ⟨hq, _⟩ := I.pend j hVj hL
                  refine ⟨hq, ?_⟩
                  obtain ⟨cj, hcj, hAj⟩ := hpend j hVj hL
                  have hqk : quietK cj.k = true := by
                    unfold quietAt at hq; simp only [hcj, Bool.and_eq_true] at hq; exact hq.1
                  by_cases hin : j ∈ agains ops cs (Region.before ops) i V
                  · obtain ⟨cj', hcj', hA'⟩ := hags j hin
                    exact ⟨cj', hcj', hA'⟩
                  · refine ⟨cj, hcj, ?_⟩
                    have hnb : ((Region.before ops).getD i 0).testBit j = false := by
                      cases hb : ((Region.before ops).getD i 0).testBit j
                      · rfl
                      · rw [hclos j hb] at hL; cases hL
                    unfold agains at hin
                    rw [List.mem_filter] at hin
                    simp only [List.mem_range, I.lt j hVj, hVj, hnb, hcj, hc, Bool.not_false, Bool.and_true, Bool.true_and, true_and, Bool.and_eq_true, Bool.not_eq_true', not_and, Bool.not_eq_false, Bool.and_eq_false_imp] at hin
                    by_cases hrk : readsK cj.k = false
                    · exact again_free hqk hrk hAj
                    · have hin0 := hin (by simpa using hrk)
                      have hin' : allocK c.k = true ∧ pushSafe cj.k = true := by
                        cases h1 : allocK c.k <;> cases h2 : pushSafe cj.k <;> simp_all
                      rcases hpush hin'.1 with ⟨ob, hob⟩ | hob
                      · rw [hob]; exact again_push hqk hin'.2 hAj
                      · rw [hob]; exact hAj
              obtain ⟨h1, h2, h3⟩ := satL_spec (cs := cs) F.on (b := Region.before ops) (List.range ops.size) (V ||| 2 ^ i) List.pairwise_lt_range
              obtain ⟨ρ', x', I3, hr3⟩ := advance F (List.range ops.size) (V ||| 2 ^ i) _ _ t0 (fun j hj => by simpa using hj) I2 ht0 hrt0
              exact ih _ _ w' f _ ρ' x' T1 (hw.trans hkp) (by rw [hcnt]; omega) I3 (fun j hj hq hr => h3 j (by simpa using hj) hq hr) hT1 hr3
            · simp at ht0
        · simp at hu

end
end Go.SL
