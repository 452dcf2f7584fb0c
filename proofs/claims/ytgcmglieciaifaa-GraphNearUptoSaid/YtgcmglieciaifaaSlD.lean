/- The walk's own words, part D: a region's operations, one behind the other or in whatever order the tape draws. Conditions: none. -/
import Derived.Test.YtgcmglieciaifaaSlA
set_option linter.unusedSimpArgs false
set_option linter.unusedVariables false
namespace Go.SL
open Go

def guardOf (ops : Array Oper) (g : Option (Nat × Bool)) : Option (Option (Nat × Bool)) :=
  match g with
  | none => some none
  | some (j, b) => match (ops[j]?).bind (·.dst) with
    | some t => some (some (t, b))
    | none => none

def dstOk (N : Nat) : Option Nat → Bool
  | none => true
  | some d => d < N

def cleanOp (P : Program) (N : Nat) (ops : Array Oper) (o : Oper) : Option COp :=
  match cleanK P o, guardOf ops o.guard with
  | some k, some g => if dstOk N o.dst then some ⟨o.dst, k, g⟩ else none
  | _, _ => none

section
variable {P : Program} {N : Nat} {ops : Array Oper}

theorem cleanOp_spec {o : Oper} {c : COp} (h : cleanOp P N ops o = some c) :
    cleanK P o = some c.k ∧ guardOf ops o.guard = some c.guard ∧ c.dst = o.dst ∧ ∀ d, o.dst = some d → d < N := by
  unfold cleanOp at h
  split at h
  · rename_i k g hk hg
    split at h
    · rename_i hd
      cases h
      exact ⟨hk, hg, rfl, fun d hd' => by rw [hd'] at hd; simpa [dstOk] using hd⟩
    · simp at h
  · simp at h

def asB : Value → Option Bool
  | .bool c => some c
  | _ => none

/-- Is the operation carried out? -/
theorem wanted_none {o : Oper} (hg : guardOf ops o.guard = some none) (a : Act) : Region.wanted o (yielded ops a.tmps) = true := by
  unfold guardOf at hg
  split at hg
  · rename_i h0; simp [Region.wanted, h0]
  · split at hg <;> simp at hg

theorem wanted_some {o : Oper} {t : Nat} {b : Bool} (hg : guardOf ops o.guard = some (some (t, b))) (a : Act) {v : Value} (hv : a.tmps.getD t undef = v) :
    (v = .bool b → Region.wanted o (yielded ops a.tmps) = true) ∧ (v ≠ .bool b → Region.wanted o (yielded ops a.tmps) = false) := by
  unfold guardOf at hg
  split at hg
  · simp at hg
  · rename_i j b' h0
    split at hg
    · rename_i t' ht
      simp at hg
      obtain ⟨rfl, rfl⟩ := hg
      have hy : yielded ops a.tmps j = asB v := by
        simp only [yielded, ht, Option.bind_some]
        simp only [Array.getD_eq_getD_getElem?] at hv
        cases h : a.tmps[t']? with
        | none => rw [h] at hv; simp [undef] at hv; subst hv; rfl
        | some u => rw [h] at hv; simp at hv; subst hv; cases u <;> rfl
      refine ⟨fun e => ?_, fun e => ?_⟩
      · subst e; simp [Region.wanted, h0, hy, asB]
      · simp only [Region.wanted, h0, hy]
        clear hv
        cases v
        case bool c =>
          have : c ≠ b' := fun e' => e (by rw [e'])
          cases c <;> cases b' <;> simp_all [asB]
        all_goals rfl
    · simp at hg

/-- One operation, its guard looked at. -/
def semG (P : Program) (c : COp) (ρ : Env) (h : Heap) (K : Value → Heap → Prop) : Prop :=
  match c.guard with
  | none => c.k.sem P ρ h K
  | some (t, b) => ∃ g, ρ.lk t = some g ∧ (g = .bool b → c.k.sem P ρ h K) ∧ (g ≠ .bool b → K undef h)

/-- At a frame 'x' of which ρ is known, carried out at a frame 'a' in which its operands read the same. -/
theorem wpOp_of {ro : Option Nat} {n : Nat} {Q : Exit → Act → World → Prop} {i : Nat} {o : Oper} {c : COp} {a x : Act} {ρ : Env} {w : World} {Kt : Value → Heap → Prop} {next : Act → World → Prop}
    (hi : ops[i]? = some o) (hc : cleanOp P N ops o = some c) (hx : Agrees x ρ N) (he : execOp a.eval o = execOp x.eval o)
    (hg : ∀ t b, c.guard = some (t, b) → a.tmps.getD t undef = x.tmps.getD t undef) (hs : semG P c ρ w.heap Kt)
    (hn : ∀ v w', Keeps w w' → Kt v w'.heap → next (a.put o.dst v) w') : wpOpIn (Fw ro) n P ops Q i next a w := by
  obtain ⟨hk, hgo, hd, _⟩ := cleanOp_spec hc
  unfold wpOpIn
  simp only [hi]
  unfold semG at hs
  cases hcg : c.guard with
  | none =>
    rw [hcg] at hgo hs
    rw [if_pos (wanted_none hgo a)]
    refine RunOk.wp (Kt := Kt) ?_ hn
    rw [he]; exact K_sound hk hx hs
  | some tb =>
    obtain ⟨t, b⟩ := tb
    rw [hcg] at hgo hs
    obtain ⟨g, hlk, hs1, hs2⟩ := hs
    have hv := hx.lk t _ hlk
    rw [← hg t b hcg] at hv
    have hw := wanted_some hgo a hv
    by_cases hgb : g = .bool b
    · rw [if_pos (hw.1 hgb)]
      refine RunOk.wp (Kt := Kt) ?_ hn
      rw [he]; exact K_sound hk hx (hs1 hgb)
    · rw [hw.2 hgb]
      exact ⟨fun _ _ => trivial, hn _ _ (Keeps.refl w) (hs2 hgb)⟩

end

/-- The operations of a region, in the order in which they are to be looked at. -/
inductive Tr where
  | done
  | st (c : COp) (t : Tr)
  | ag (c : COp) (t : Tr)
  | both (t u : Tr)

/-- It still gives what it gave. -/
def againG (P : Program) (c : COp) (ρ : Env) (h : Heap) : Prop :=
  semG P c ρ h fun v h' => h' = h ∧ ∀ d, c.dst = some d → ρ.lk d = some v

def runT (P : Program) : Tr → Env → Heap → (Env → Heap → Prop) → Prop
  | .done, ρ, h, K => K ρ h
  | .st c t, ρ, h, K => semG P c ρ h fun v h' => runT P t (ρ.put c.dst v) h' K
  | .ag c t, ρ, h, K => againG P c ρ h ∧ runT P t ρ h K
  | .both t u, ρ, h, K => runT P t ρ h K ∧ runT P u ρ h K

def listT : List COp → Tr
  | [] => .done
  | c :: r => .st c (listT r)

section
variable {P : Program} {N : Nat} {ops : Array Oper} {Q : Exit → Act → World → Prop}

/-- The lexical order. -/
theorem act_put_defers {a : Act} {d : Option Nat} {v : Value} : (a.put d v).defers = a.defers := by cases d <;> rfl
theorem wpOps_list {ro : Option Nat} {n : Nat} {ds : List Deferred} {w0 : World} {K : Env → Heap → Prop} (hQ : ∀ ρ a w, Keeps w0 w → K ρ w.heap → Agrees a ρ N → a.defers = ds → Q .normal a w) : ∀ (is : List Nat) (cs : List COp) (a : Act) (ρ : Env) (w : World),
    (is.map fun i => (ops[i]?).bind (cleanOp P N ops)) = cs.map some → Keeps w0 w → Agrees a ρ N → a.defers = ds → runT P (listT cs) ρ w.heap K → wpOpsIn (Fw ro) n P ops Q is a w
  | [], [], a, ρ, w, _, hw, ha, hds, h => hQ _ _ _ hw h ha hds
  | [], _ :: _, _, _, _, he, _, _, _, _ => by simp at he
  | _ :: _, [], _, _, _, he, _, _, _, _ => by simp at he
  | i :: is, c :: cs, a, ρ, w, he, hw, ha, hds, h => by
    simp only [List.map_cons, List.cons.injEq] at he
    obtain ⟨h1, h2⟩ := he
    cases ho : ops[i]? with
    | none => simp [ho] at h1
    | some o =>
      simp [ho] at h1
      obtain ⟨_, _, hd, hdn⟩ := cleanOp_spec h1
      rw [wpOpsIn_cons]
      refine wpOp_of ho h1 ha rfl (fun _ _ _ => rfl) h fun v w' hk hv => ?_
      rw [← hd] at hdn ⊢
      exact wpOps_list hQ is cs _ _ _ h2 (hw.trans hk) (ha.put hdn v) (act_put_defers.trans hds) hv

end
end Go.SL

set_option linter.unusedSimpArgs false
set_option linter.unusedVariables false
namespace Go.SL
open Go

def Src.ops : Src → List Operand
  | .z _ => []
  | .c x _ _ => [x]

def Kd.operands : Kd → List Operand
  | .mv x | .box _ x | .ld _ x | .nilc x | .un _ x | .cv _ x | .fa _ x | .fld _ _ _ x | .ln x | .lns x | .lnm x | .ext x _ | .mki _ x | .cap x | .ent x | .rng x | .nxt x | .clr _ x => [x]
  | .pick a b c => [a, b, c]
  | .new _ _ | .mkm => []
  | .cmp _ _ x i | .lkp _ _ _ x i | .idx x i | .mm _ x i | .mpe _ _ x i | .del _ x i | .mks _ _ _ _ x i | .cpy _ x i => [x, i]
  | .mup _ a b c | .ens a b c => [a, b, c]
  | .sls x lo hi => x :: (lo.toList ++ hi.toList)
  | .agg src | .bsl _ src _ => src.flatMap Src.ops
  | .st _ a x | .bin _ _ a x | .bini _ a x | .eqs _ _ a x | .ia _ a x | .iaa _ _ a x | .ap _ _ _ _ a x => [a, x]
  | .sl _ x lo hi mx => x :: (lo.toList ++ hi.toList ++ mx.toList)
  | .call f args => f :: args
  | .mkf _ cs => cs
  | .raw o => o.op.operands.toList

def quietK : Kd → Bool
  | .new .. | .box .. | .bsl .. | .st .. | .ap .. | .call .. | .raw .. | .mkm | .mup .. | .mpe .. | .ens .. | .del .. | .rng .. | .nxt .. | .mks .. | .cpy .. | .clr .. => false
  | _ => true

def readsK : Kd → Bool
  | .ld .. | .bin .. | .lnm .. | .lkp .. | .ent .. => true
  | _ => false

def allocK : Kd → Bool
  | .new .. | .box .. | .bsl .. | .mkm | .rng .. | .mks .. => true
  | _ => false

def opTmps (l : List Operand) : List Nat := l.filterMap fun | .tmp t => some t | _ => none

def COp.looks (c : COp) : List Nat := opTmps c.k.operands ++ (match c.guard with | some (t, _) => [t] | none => [])

section
variable (P : Program)

theorem ev_congr {ρ ρ' : Env} {x : Operand} (h : ∀ t, x = .tmp t → ρ.lk t = ρ'.lk t) : ρ.ev x = ρ'.ev x := by
  cases x with
  | tmp t => exact h t rfl
  | _ => rfl

theorem Cells.congr {ρ ρ' : Env} {src : List Src} {cs : List Value} (h : Cells ρ src cs) : (∀ x ∈ src.flatMap Src.ops, ρ.ev x = ρ'.ev x) → Cells ρ' src cs := by
  induction h with
  | nil => intro _; exact .nil
  | z h ih => intro hx; exact .z (ih fun x hm => hx x (by simp [Src.ops] at hm ⊢; exact hm))
  | c he hn hu h ih =>
    intro hx
    refine .c (by rw [← hx _ (by simp [Src.ops])]; exact he) hn hu (ih fun x hm => hx x ?_)
    simp only [List.flatMap_cons, List.mem_append]
    exact .inr hm

theorem sliceLo_congr {ρ ρ' : Env} {x : Option Operand} {d : Nat} (h : ∀ y ∈ x.toList, ρ.ev y = ρ'.ev y) : sliceLo x ρ d = sliceLo x ρ' d := by
  cases x with
  | none => rfl
  | some y => simp only [sliceLo, h y (by simp)]

theorem evs_congr {ρ ρ' : Env} : ∀ {xs : List Operand}, (∀ x ∈ xs, ρ.ev x = ρ'.ev x) → ρ.evs xs = ρ'.evs xs
  | [], _ => rfl
  | x :: r, h => by
    simp only [Env.evs, h x (by simp), evs_congr (xs := r) fun y hy => h y (by simp [hy])]

theorem sem_congr {k : Kd} (hq : quietK k = true) {ρ ρ' : Env} {h : Heap} {K : Value → Heap → Prop} (he : ∀ x ∈ k.operands, ρ.ev x = ρ'.ev x)
    (hs : k.sem P ρ h K) : k.sem P ρ' h K := by
  cases k <;> simp only [quietK, Bool.false_eq_true] at hq <;> simp only [Kd.operands, List.mem_cons, List.not_mem_nil, or_false, forall_eq_or_imp, forall_eq] at he
  case agg src => obtain ⟨cs, h1, h2⟩ := hs; exact ⟨cs, h1.congr he, h2⟩
  case ld n a =>
    cases n
    · simp only [Kd.sem, he] at hs ⊢; exact hs
    · simp only [Kd.sem, he] at hs ⊢; exact hs
  case sl sz x lo hi mx =>
    obtain ⟨h0, h1⟩ := he
    have e1 := fun d => sliceLo_congr (ρ := ρ) (ρ' := ρ') (x := lo) (d := d) fun y hy => h1 y (by simp at hy ⊢; simp [hy])
    have e2 := fun d => sliceLo_congr (ρ := ρ) (ρ' := ρ') (x := hi) (d := d) fun y hy => h1 y (by simp at hy ⊢; simp [hy])
    have e3 := fun d => sliceLo_congr (ρ := ρ) (ρ' := ρ') (x := mx) (d := d) fun y hy => h1 y (by simp at hy ⊢; simp [hy])
    simp only [Kd.sem, h0, e1, e2, e3] at hs ⊢; exact hs
  case mkf f cs => simp only [Kd.sem, evs_congr he] at hs ⊢; exact hs
  case sls x lo hi =>
    obtain ⟨h0, h1⟩ := he
    have e1 := fun d => sliceLo_congr (ρ := ρ) (ρ' := ρ') (x := lo) (d := d) fun y hy => h1 y (by simp at hy ⊢; simp [hy])
    have e2 := fun d => sliceLo_congr (ρ := ρ) (ρ' := ρ') (x := hi) (d := d) fun y hy => h1 y (by simp at hy ⊢; simp [hy])
    simp only [Kd.sem, h0, e1, e2] at hs ⊢; exact hs
  all_goals (simp only [Kd.sem, he] at hs ⊢; exact hs)

/-- A quiet operation yields one value and leaves the heap alone. -/
theorem sem_quiet {k : Kd} (hq : quietK k = true) {ρ : Env} {h : Heap} {K : Value → Heap → Prop} (hs : k.sem P ρ h K) :
    ∃ v, k.sem P ρ h (fun v' h' => v' = v ∧ h' = h) ∧ K v h := by
  cases k <;> simp only [quietK, Bool.false_eq_true] at hq
  case mv x => obtain ⟨v, h1, h2⟩ := hs; exact ⟨v, ⟨v, h1, rfl, rfl⟩, h2⟩
  case pick c a b => obtain ⟨t, v, h0, h1, h2⟩ := hs; exact ⟨v, ⟨t, v, h0, h1, rfl, rfl⟩, h2⟩
  case agg src => obtain ⟨cs, h1, h2⟩ := hs; exact ⟨_, ⟨cs, h1, rfl, rfl⟩, h2⟩
  case ld n a =>
    cases n
    · obtain ⟨ad, v, h0, h1, h2⟩ := hs; exact ⟨_, ⟨ad, v, h0, h1, rfl, rfl⟩, h2⟩
    · obtain ⟨ad, v, h0, h1, h2⟩ := hs; exact ⟨_, ⟨ad, v, h0, h1, rfl, rfl⟩, h2⟩
  case nilc x => obtain ⟨v, h0, h1, h2⟩ := hs; exact ⟨_, ⟨v, h0, h1, rfl, rfl⟩, h2⟩
  case bin op t x y => obtain ⟨u, v, r, h0, h1, h2, h3⟩ := hs; exact ⟨_, ⟨u, v, r, h0, h1, h2, rfl, rfl⟩, h3⟩
  case bini op x y => obtain ⟨k, n, k', m, r, h0, h1, h2, h3, h4⟩ := hs; exact ⟨_, ⟨k, n, k', m, r, h0, h1, h2, h3, rfl, rfl⟩, h4⟩
  case eqs neg fl x y => obtain ⟨u, v, b, h0, h1, h2, h3⟩ := hs; exact ⟨_, ⟨u, v, b, h0, h1, h2, rfl, rfl⟩, h3⟩
  case un op x => obtain ⟨u, r, h0, h1, h2⟩ := hs; exact ⟨_, ⟨u, r, h0, h1, rfl, rfl⟩, h2⟩
  case cv k x => obtain ⟨u, r, h0, h1⟩ := hs; exact ⟨_, ⟨u, r, h0, rfl, rfl⟩, h1⟩
  case fa off x => obtain ⟨ad, h0, h1⟩ := hs; exact ⟨_, ⟨ad, h0, rfl, rfl⟩, h1⟩
  case fld ag n off x => obtain ⟨cs, v, h0, h1, h2⟩ := hs; exact ⟨_, ⟨cs, v, h0, h1, rfl, rfl⟩, h2⟩
  case ia sz x i => obtain ⟨ad, len, cap, k, n, h0, h1, h2, h3, h4⟩ := hs; exact ⟨_, ⟨ad, len, cap, k, n, h0, h1, h2, h3, rfl, rfl⟩, h4⟩
  case iaa len sz x i => obtain ⟨ad, k, n, h0, h1, h2, h3, h4⟩ := hs; exact ⟨_, ⟨ad, k, n, h0, h1, h2, h3, rfl, rfl⟩, h4⟩
  case sl sz x lo hi mx =>
    obtain ⟨a, len, cap, l, u, m, h0, h1, h2, h3, h4, h5, h6, h7, h8⟩ := hs
    exact ⟨_, ⟨a, len, cap, l, u, m, h0, h1, h2, h3, h4, h5, h6, h7, rfl, rfl⟩, h8⟩
  case ln x => obtain ⟨a, n, c, h0, h1⟩ := hs; exact ⟨_, ⟨a, n, c, h0, rfl, rfl⟩, h1⟩
  case lns x => obtain ⟨s, h0, h1⟩ := hs; exact ⟨_, ⟨s, h0, rfl, rfl⟩, h1⟩
  case lnm x =>
    obtain ⟨r, h0, h1⟩ := hs
    cases r with
    | none => exact ⟨_, ⟨none, h0, rfl, rfl⟩, h1⟩
    | some r => obtain ⟨es, c, h2, h3⟩ := h1; exact ⟨_, ⟨some r, h0, es, c, h2, rfl, rfl⟩, h3⟩
  case ext x i => obtain ⟨vs, v, h0, h1, h2⟩ := hs; exact ⟨_, ⟨vs, v, h0, h1, rfl, rfl⟩, h2⟩
  case cmp sc neg x y => obtain ⟨u, v, b, h0, h1, h2, h3⟩ := hs; exact ⟨_, ⟨u, v, b, h0, h1, h2, rfl, rfl⟩, h3⟩
  case cap x => obtain ⟨a, n, c, h0, h1⟩ := hs; exact ⟨_, ⟨a, n, c, h0, rfl, rfl⟩, h1⟩
  case lkp ok kt z x i => obtain ⟨m, key, es, r, h0, h1, h2, h3, h4⟩ := hs; exact ⟨_, ⟨m, key, es, r, h0, h1, h2, h3, rfl, rfl⟩, h4⟩
  case idx x i => obtain ⟨s, k, n, b, h0, h1, h2, h3, h4⟩ := hs; exact ⟨_, ⟨s, k, n, b, h0, h1, h2, h3, rfl, rfl⟩, h4⟩
  case mm mx x y => obtain ⟨k, n, k', m, h0, h1, h2⟩ := hs; exact ⟨_, ⟨k, n, k', m, h0, h1, rfl, rfl⟩, h2⟩
  case sls x lo hi => obtain ⟨s, l, u, h0, h1, h2, h3, h4, h5⟩ := hs; exact ⟨_, ⟨s, l, u, h0, h1, h2, h3, h4, rfl, rfl⟩, h5⟩
  case ent x => obtain ⟨r, m, si, se, la, es, c, st, e, h0, h1, h2, h3, h4, h5, h6⟩ := hs; exact ⟨_, ⟨r, m, si, se, la, es, c, st, e, h0, h1, h2, h3, h4, h5, rfl, rfl⟩, h6⟩
  case mki t x => obtain ⟨v, h0, h1⟩ := hs; exact ⟨_, ⟨v, h0, rfl, rfl⟩, h1⟩
  case mkf f cs => obtain ⟨vs, h0, h1⟩ := hs; exact ⟨_, ⟨vs, h0, rfl, rfl⟩, h1⟩

theorem sem_mono {k : Kd} (hq : quietK k = true) {ρ : Env} {h : Heap} {K K' : Value → Heap → Prop} (hs : k.sem P ρ h K) (hm : ∀ v, K v h → K' v h) : k.sem P ρ h K' := by
  obtain ⟨v, h1, h2⟩ := sem_quiet P hq hs
  clear hs
  cases k <;> simp only [quietK, Bool.false_eq_true] at hq
  case ld n a => cases n <;> simp only [Kd.sem] at h1 ⊢ <;> (obtain ⟨ad, u, e1, e2, rfl, _⟩ := h1; exact ⟨ad, u, e1, e2, hm _ h2⟩)
  case lnm x =>
    obtain ⟨r, h0, h1⟩ := h1
    cases r with
    | none => obtain ⟨rfl, _⟩ := h1; exact ⟨none, h0, hm _ h2⟩
    | some r => obtain ⟨es, c, h3, rfl, _⟩ := h1; exact ⟨some r, h0, es, c, h3, hm _ h2⟩
  case mv x => obtain ⟨u, e1, rfl, _⟩ := h1; exact ⟨u, e1, hm _ h2⟩
  case pick c a b => obtain ⟨t, u, e0, e1, rfl, _⟩ := h1; exact ⟨t, u, e0, e1, hm _ h2⟩
  case agg src => obtain ⟨cs, e1, rfl, _⟩ := h1; exact ⟨cs, e1, hm _ h2⟩
  case nilc x => obtain ⟨u, e0, e1, rfl, _⟩ := h1; exact ⟨u, e0, e1, hm _ h2⟩
  case bin op t x y => obtain ⟨u, z, r, e0, e1, e2, rfl, _⟩ := h1; exact ⟨u, z, r, e0, e1, e2, hm _ h2⟩
  case bini op x y => obtain ⟨k, n, k', m, r, e0, e1, e2, e3, rfl, _⟩ := h1; exact ⟨k, n, k', m, r, e0, e1, e2, e3, hm _ h2⟩
  case eqs neg fl x y => obtain ⟨u, z, b, e0, e1, e2, rfl, _⟩ := h1; exact ⟨u, z, b, e0, e1, e2, hm _ h2⟩
  case un op x => obtain ⟨u, r, e0, e1, rfl, _⟩ := h1; exact ⟨u, r, e0, e1, hm _ h2⟩
  case cv k x => obtain ⟨u, r, e0, rfl, _⟩ := h1; exact ⟨u, r, e0, hm _ h2⟩
  case fa off x => obtain ⟨ad, e0, rfl, _⟩ := h1; exact ⟨ad, e0, hm _ h2⟩
  case fld ag n off x => obtain ⟨cs, u, e0, e1, rfl, _⟩ := h1; exact ⟨cs, u, e0, e1, hm _ h2⟩
  case ia sz x i => obtain ⟨ad, len, cap, k, n, e0, e1, e2, e3, rfl, _⟩ := h1; exact ⟨ad, len, cap, k, n, e0, e1, e2, e3, hm _ h2⟩
  case iaa len sz x i => obtain ⟨ad, k, n, e0, e1, e2, e3, rfl, _⟩ := h1; exact ⟨ad, k, n, e0, e1, e2, e3, hm _ h2⟩
  case sl sz x lo hi mx =>
    obtain ⟨a, len, cap, l, u, m, e0, e1, e2, e3, e4, e5, e6, e7, rfl, _⟩ := h1
    exact ⟨a, len, cap, l, u, m, e0, e1, e2, e3, e4, e5, e6, e7, hm _ h2⟩
  case ln x => obtain ⟨a, n, c, e0, rfl, _⟩ := h1; exact ⟨a, n, c, e0, hm _ h2⟩
  case lns x => obtain ⟨s, e0, rfl, _⟩ := h1; exact ⟨s, e0, hm _ h2⟩
  case ext x i => obtain ⟨vs, u, e0, e1, rfl, _⟩ := h1; exact ⟨vs, u, e0, e1, hm _ h2⟩
  case cmp sc neg x y => obtain ⟨u, z, b, e0, e1, e2, rfl, _⟩ := h1; exact ⟨u, z, b, e0, e1, e2, hm _ h2⟩
  case cap x => obtain ⟨a, n, c, e0, rfl, _⟩ := h1; exact ⟨a, n, c, e0, hm _ h2⟩
  case lkp ok kt z x i => obtain ⟨m, key, es, r, e0, e1, e2, e3, rfl, _⟩ := h1; exact ⟨m, key, es, r, e0, e1, e2, e3, hm _ h2⟩
  case idx x i => obtain ⟨s, k, n, b, e0, e1, e2, e3, rfl, _⟩ := h1; exact ⟨s, k, n, b, e0, e1, e2, e3, hm _ h2⟩
  case mm mx x y => obtain ⟨k, n, k', m, e0, e1, rfl, _⟩ := h1; exact ⟨k, n, k', m, e0, e1, hm _ h2⟩
  case sls x lo hi => obtain ⟨s, l, u, e0, e1, e2, e3, e4, rfl, _⟩ := h1; exact ⟨s, l, u, e0, e1, e2, e3, e4, hm _ h2⟩
  case ent x => obtain ⟨r, m, si, se, la, es, c, st, e, e0, e1, e2, e3, e4, e5, rfl, _⟩ := h1; exact ⟨r, m, si, se, la, es, c, st, e, e0, e1, e2, e3, e4, e5, hm _ h2⟩
  case mki t x => obtain ⟨u, e0, rfl, _⟩ := h1; exact ⟨u, e0, hm _ h2⟩
  case mkf f cs => obtain ⟨vs, e0, rfl, _⟩ := h1; exact ⟨vs, e0, hm _ h2⟩

/-- What reads no memory yields the same at any heap. -/
theorem sem_free {k : Kd} (hq : quietK k = true) (hr : readsK k = false) {ρ : Env} {h h2 : Heap} {K : Value → Prop} (hs : k.sem P ρ h (fun v' h' => h' = h ∧ K v')) :
    k.sem P ρ h2 (fun v' h' => h' = h2 ∧ K v') := by
  cases k <;> simp only [quietK, readsK, Bool.false_eq_true, reduceCtorEq] at hq hr
  case sl sz x lo hi mx =>
    obtain ⟨a, len, cap, l, u, m, e0, e1, e2, e3, e4, e5, e6, e7, _, e8⟩ := hs
    exact ⟨a, len, cap, l, u, m, e0, e1, e2, e3, e4, e5, e6, e7, rfl, e8⟩
  all_goals (simp only [Kd.sem] at hs ⊢; simpa using hs)

theorem get_push_lt {h : Heap} {o x : Obj} {b : Nat} (hb : h[b]? = some x) : (h.push o)[b]? = some x := by
  have hlt : b < h.size := by
    rcases Nat.lt_or_ge b h.size with h' | h'
    · exact h'
    · rw [Array.getElem?_eq_none h'] at hb; cases hb
  rw [Array.getElem?_push_lt hlt, ← hb, Array.getElem?_eq_getElem hlt]

theorem heapCell_push {h : Heap} {o : Obj} {ad : Addr} {v : Value} (hv : heapCell h ad = some v) : heapCell (h.push o) ad = some v := by
  unfold heapCell at hv ⊢
  cases hb : h[ad.block]? with
  | none => simp [hb] at hv
  | some x =>
    have hlt : ad.block < h.size := by
      rcases Nat.lt_or_ge ad.block h.size with h' | h'
      · exact h'
      · rw [Array.getElem?_eq_none h'] at hb; cases hb
    have : (h.push o)[ad.block]? = some x := by rw [Array.getElem?_push_lt hlt]; rw [Array.getElem?_eq_getElem hlt] at hb; exact hb
    rw [this]; rw [hb] at hv; exact hv

theorem heapCells_push {h : Heap} {o : Obj} {ad : Addr} : ∀ {n i : Nat} {vs : List Value}, heapCells h ad i n = some vs → heapCells (h.push o) ad i n = some vs
  | 0, i, vs, hv => by simpa [heapCells] using hv
  | n + 1, i, vs, hv => by
    simp only [heapCells] at hv ⊢
    cases h1 : heapCell h (ad.add i) with
    | none => simp [h1] at hv
    | some v =>
      cases h2 : heapCells h ad (i + 1) n with
      | none => simp [h1, h2] at hv
      | some ws => simp [h1, h2] at hv; rw [heapCell_push h1, heapCells_push h2]; simp [hv]

def pushSafe : Kd → Bool
  | .bin .. => false
  | _ => true

theorem sem_push {k : Kd} (hq : quietK k = true) (hp : pushSafe k = true) {ρ : Env} {h : Heap} {o : Obj} {K : Value → Prop} (hs : k.sem P ρ h (fun v' h' => h' = h ∧ K v')) :
    k.sem P ρ (h.push o) (fun v' h' => h' = h.push o ∧ K v') := by
  by_cases hr : readsK k = false
  · exact sem_free P hq hr hs
  · cases k <;> simp only [quietK, readsK, pushSafe, Bool.false_eq_true, not_true_eq_false, reduceCtorEq, not_false_eq_true] at hq hr hp
    case ld n a =>
      cases n
      · obtain ⟨ad, v, h0, h1, _, h2⟩ := hs; exact ⟨ad, v, h0, heapCell_push h1, rfl, h2⟩
      · obtain ⟨ad, v, h0, h1, _, h2⟩ := hs; exact ⟨ad, v, h0, heapCells_push h1, rfl, h2⟩
    case lnm x =>
      obtain ⟨r, h0, h1⟩ := hs
      cases r with
      | none => exact ⟨none, h0, rfl, h1.2⟩
      | some r =>
        obtain ⟨es, c, h2, _, h3⟩ := h1
        refine ⟨some r, h0, es, c, ?_, rfl, h3⟩
        exact get_push_lt h2
    case lkp ok kt z x i =>
      obtain ⟨m, key, es, r, h0, h1, h2, h3, _, h4⟩ := hs
      refine ⟨m, key, es, r, h0, h1, ?_, h3, rfl, h4⟩
      cases m <;> simp only [mapOf] at h2 ⊢
      rename_i o
      cases o with
      | none => exact h2
      | some b => obtain ⟨c, hb⟩ := h2; exact ⟨c, get_push_lt hb⟩
    case ent x =>
      obtain ⟨r, m, si, se, la, es, c, st, e, h0, h1, h2, h3, h4, h5, _, h6⟩ := hs
      exact ⟨r, m, si, se, la, es, c, st, e, h0, get_push_lt h1, h2, get_push_lt h3, h4, h5, rfl, h6⟩

theorem sem_alloc {k : Kd} (ha : allocK k = true) {ρ : Env} {h : Heap} {K : Value → Heap → Prop} (hs : k.sem P ρ h K) :
    k.sem P ρ h (fun v h' => (∃ o, h' = h.push o) ∧ K v h') := by
  cases k <;> simp only [allocK, Bool.false_eq_true] at ha
  case new T cells => exact ⟨⟨_, rfl⟩, hs⟩
  case box T x => obtain ⟨v, h1, h2⟩ := hs; exact ⟨v, h1, ⟨_, rfl⟩, h2⟩
  case bsl T src len => obtain ⟨cs, h1, h2⟩ := hs; exact ⟨cs, h1, ⟨_, rfl⟩, h2⟩
  case mkm => exact ⟨⟨_, rfl⟩, hs⟩
  case rng x => obtain ⟨b, es, c, h1, h2, h3⟩ := hs; exact ⟨b, es, c, h1, h2, ⟨_, rfl⟩, h3⟩
  case mks T sz bytes z l c => obtain ⟨n, m, h1, h2, h3, h4, h5, h6⟩ := hs; exact ⟨n, m, h1, h2, h3, h4, h5, ⟨_, rfl⟩, h6⟩

end
end Go.SL

set_option linter.unusedSimpArgs false
set_option linter.unusedVariables false
namespace Go.SL
open Go

/-! ### The order -/

section defs
variable (ops : Array Oper) (cs : Array COp) (b : Array Nat)

/-- The places that operation j looks at. -/
def looksAll (j : Nat) : List Nat :=
  (match ops[j]? with | some o => o.looksAt ops | none => []) ++ (match cs[j]? with | some c => c.looks | none => [])

def dstOf (j : Nat) : Option Nat := (ops[j]?).bind (·.dst)

/-- May operation i be looked at as soon as it is ready? -/
def quietAt (i : Nat) : Bool :=
  match cs[i]? with
  | some c => quietK c.k && (match dstOf ops i with
      | none => true
      | some d => (List.range ops.size).all fun j => !(looksAll ops cs j).contains d || (b.getD j 0).testBit i)
  | none => false

def readyAt (V i : Nat) : Bool :=
  match ops[i]? with
  | some o => o.after.all fun e => !Region.binds .any e || V.testBit e.on
  | none => false

def satL : List Nat → Nat → List Nat × Nat
  | [], V => ([], V)
  | i :: r, V => if quietAt ops cs b i && !V.testBit i && readyAt ops V i then let p := satL r (V ||| 2 ^ i); (i :: p.1, p.2) else satL r V

def stAll : List Nat → Tr → Option Tr
  | [], t => some t
  | i :: r, t => match cs[i]?, stAll r t with
    | some c, some u => some (.st c u)
    | _, _ => none

def agAll : List Nat → Tr → Option Tr
  | [], t => some t
  | i :: r, t => match cs[i]?, agAll r t with
    | some c, some u => some (.ag c u)
    | _, _ => none

/-- What is to be looked at again behind operation e. -/
def agains (e V : Nat) : List Nat :=
  (List.range ops.size).filter fun r => V.testBit r && !(b.getD e 0).testBit r && (match cs[r]?, cs[e]? with
    | some c, some d => readsK c.k && !(allocK d.k && pushSafe c.k)
    | _, _ => true)

def effs (V : Nat) : List Nat := (List.range ops.size).filter fun i => !V.testBit i && readyAt ops V i

def bothAll : List (Option Tr) → Option Tr
  | [] => some .done
  | [t] => t
  | t :: u :: r => match t, bothAll (u :: r) with
    | some x, some y => some (.both x y)
    | _, _ => none

def canon : Nat → Nat → Option Tr
  | 0, _ => none
  | f + 1, V =>
    let p := satL ops cs b (List.range ops.size) V
    match bothAll ((effs ops p.2).map fun e => match cs[e]?, (canon f (p.2 ||| 2 ^ e)).bind (agAll cs (agains ops cs b e p.2)) with
      | some c, some t => some (.st c t)
      | _, _ => none) with
    | some t => stAll cs p.1 t
    | none => none

/-- What is asked of the region's text. -/
def drawOk : Bool :=
  Region.noSelect ops && cs.size == ops.size &&
  (List.range ops.size).all fun i =>
    (match ops[i]? with | some o => o.after.all fun e => !Region.binds .any e || e.on < i | none => true) &&
    (List.range ops.size).all fun j => i == j || (match dstOf ops i with
      | none => true
      | some d => dstOf ops j != some d && ((b.getD j 0).testBit i || (b.getD i 0).testBit j || !(looksAll ops cs j).contains d))

end defs

/-! ### What comes before -/

theorem fold_bits {after : List Edge} {acc : Array Nat} {j : Nat} : ∀ {s : Nat},
    (after.foldl (fun s e => if Region.binds .any e then s ||| 2 ^ e.on ||| acc.getD e.on 0 else s) s).testBit j = true →
      s.testBit j = true ∨ ∃ e ∈ after, Region.binds .any e = true ∧ (j = e.on ∨ (acc.getD e.on 0).testBit j = true) := by
  induction after with
  | nil => intro s h; exact .inl h
  | cons e r ih =>
    intro s h
    simp only [List.foldl_cons] at h
    rcases ih h with h1 | ⟨e', he', hb', hj'⟩
    · by_cases hb : Region.binds .any e = true
      · simp only [hb, if_true, Nat.testBit_or, Bool.or_eq_true] at h1
        rcases h1 with (h1 | h1) | h1
        · exact .inl h1
        · rw [Nat.testBit_two_pow] at h1
          exact .inr ⟨e, by simp, hb, .inl (by simpa using (of_decide_eq_true h1).symm)⟩
        · exact .inr ⟨e, by simp, hb, .inr h1⟩
      · simp only [hb] at h1; exact .inl h1
    · exact .inr ⟨e', by simp [he'], hb', hj'⟩

def bstep (acc : Array Nat) (o : Oper) : Array Nat :=
  acc.push (o.after.foldl (fun s e => if Region.binds .any e then s ||| 2 ^ e.on ||| acc.getD e.on 0 else s) 0)

theorem before_eq (ops : Array Oper) : Region.before ops = ops.toList.foldl bstep #[] := by
  unfold Region.before bstep
  rw [← Array.foldl_toList]

theorem bfold_spec : ∀ (l : List Oper) (acc : Array Nat),
    (l.foldl bstep acc).size = acc.size + l.length ∧ (∀ i, i < acc.size → (l.foldl bstep acc).getD i 0 = acc.getD i 0) ∧
    ∀ k o, l[k]? = some o → ∀ j, ((l.foldl bstep acc).getD (acc.size + k) 0).testBit j = true →
      ∃ e ∈ o.after.toList, Region.binds .any e = true ∧ (j = e.on ∨ (e.on < acc.size + k ∧ ((l.foldl bstep acc).getD e.on 0).testBit j = true))
  | [], acc => by simp
  | o :: l, acc => by
    obtain ⟨h1, h2, h3⟩ := bfold_spec l (bstep acc o)
    have hs : (bstep acc o).size = acc.size + 1 := by simp [bstep]
    simp only [List.foldl_cons]
    refine ⟨by rw [h1, hs]; simp; omega, fun i hi => ?_, fun k o' hk j hj => ?_⟩
    · rw [h2 i (by omega)]
      simp [bstep, Array.getElem?_push_lt hi, Array.getElem?_eq_getElem hi]
    · cases k with
      | zero =>
        simp at hk
        subst hk
        rw [Nat.add_zero, h2 acc.size (by omega)] at hj
        have he : (bstep acc o).getD acc.size 0 = o.after.foldl (fun s e => if Region.binds .any e then s ||| 2 ^ e.on ||| acc.getD e.on 0 else s) 0 := by simp [bstep]
        rw [he, ← Array.foldl_toList] at hj
        rcases fold_bits hj with h | ⟨e, he, hb, hj⟩
        · simp at h
        · refine ⟨e, he, hb, hj.imp id fun h => ?_⟩
          have hlt : e.on < acc.size := by
            rcases Nat.lt_or_ge e.on acc.size with h' | h'
            · exact h'
            · simp [Array.getElem?_eq_none h'] at h
          refine ⟨by omega, ?_⟩
          rw [h2 e.on (by omega)]
          have : (bstep acc o).getD e.on 0 = acc.getD e.on 0 := by simp [bstep, Array.getElem?_push_lt hlt, Array.getElem?_eq_getElem hlt]
          rw [this]; exact h
      | succ k =>
        simp at hk
        have := h3 k o' hk j (by rw [hs]; rw [show acc.size + 1 + k = acc.size + (k + 1) by omega]; exact hj)
        rw [hs, show acc.size + 1 + k = acc.size + (k + 1) by omega] at this
        exact this

/-- What is closed under 'waits for' holds all that comes before. -/
theorem before_closed {ops : Array Oper} {S : Nat → Prop} (hS : ∀ i o, S i → ops[i]? = some o → ∀ e ∈ o.after, Region.binds .any e = true → S e.on) :
    ∀ (i : Nat) (o : Oper), ops[i]? = some o → (∀ e ∈ o.after, Region.binds .any e = true → S e.on) → ∀ j, ((Region.before ops).getD i 0).testBit j = true → S j := by
  intro i
  induction i using Nat.strongRecOn with
  | _ i ih =>
    intro o ho hd j hj
    rw [before_eq] at hj
    obtain ⟨_, _, h3⟩ := bfold_spec ops.toList #[]
    obtain ⟨e, he, hb, hje⟩ := h3 i o (by simpa using ho) j (by simpa using hj)
    have hmem : e ∈ o.after := by simpa using he
    have hon := hd e hmem hb
    rcases hje with rfl | ⟨hlt, hje⟩
    · exact hon
    · have hlt' : e.on < i := by simpa using hlt
      have hsz : i < ops.size := (Array.getElem?_eq_some_iff.1 ho).1
      have ho' : ops[e.on]? = some ops[e.on] := Array.getElem?_eq_getElem (by omega)
      exact ih e.on hlt' _ ho' (fun e' he' hb' => hS _ _ hon ho' e' he' hb') j (by rw [before_eq]; exact hje)

end Go.SL

set_option linter.unusedSimpArgs false
set_option linter.unusedVariables false
set_option linter.unusedSectionVars false
namespace Go.SL
open Go

theorem testBit_add (V i j : Nat) : (V ||| 2 ^ i).testBit j = (V.testBit j || decide (i = j)) := by
  rw [Nat.testBit_or, Nat.testBit_two_pow]

section
variable {P : Program} {N : Nat} {ops : Array Oper} {cs : Array COp} {ds : List Deferred}

theorem satL_spec (hon : ∀ (i : Nat) (o : Oper), ops[i]? = some o → ∀ e ∈ o.after, Region.binds .any e = true → e.on < i) {b : Array Nat} : ∀ (l : List Nat) (V : Nat), l.Pairwise (· < ·) →
    (∀ j, V.testBit j = true → (satL ops cs b l V).2.testBit j = true) ∧ (∀ j, j ∉ l → (satL ops cs b l V).2.testBit j = V.testBit j) ∧
    ∀ i ∈ l, quietAt ops cs b i = true → readyAt ops (satL ops cs b l V).2 i = true → (satL ops cs b l V).2.testBit i = true
  | [], V, _ => by simp [satL]
  | i :: r, V, hp => by
    obtain ⟨hlt, hp'⟩ := List.pairwise_cons.1 hp
    by_cases hc : (quietAt ops cs b i && !V.testBit i && readyAt ops V i) = true
    · obtain ⟨h1, h2, h3⟩ := satL_spec hon (b := b) r (V ||| 2 ^ i) hp'
      simp only [satL, hc, if_true]
      have hi : (satL ops cs b r (V ||| 2 ^ i)).2.testBit i = true := h1 i (by rw [testBit_add]; simp)
      refine ⟨fun j hj => h1 j (by rw [testBit_add, hj]; rfl), fun j hj => ?_, fun k hk hq hrd => ?_⟩
      · rw [h2 j (fun h => hj (List.mem_cons_of_mem _ h)), testBit_add]
        have : ¬ i = j := fun h => hj (by simp [h])
        simp [this]
      · rcases List.mem_cons.1 hk with rfl | hk
        · exact hi
        · exact h3 k hk hq hrd
    · obtain ⟨h1, h2, h3⟩ := satL_spec hon (b := b) r V hp'
      simp only [satL, hc, Bool.false_eq_true, if_false]
      refine ⟨h1, fun j hj => h2 j (fun h => hj (List.mem_cons_of_mem _ h)), fun k hk hq hrd => ?_⟩
      rcases List.mem_cons.1 hk with rfl | hk
      · by_cases hv : V.testBit k = true
        · exact h1 k hv
        · exfalso
          apply hc
          have hr : readyAt ops V k = true := by
            unfold readyAt at hrd ⊢
            cases ho : ops[k]? with
            | none => simp [ho] at hrd
            | some o =>
              simp only [ho] at hrd ⊢
              rw [Array.all_eq_true_iff_forall_mem] at hrd ⊢
              intro e he
              have := hrd e he
              by_cases hb : Region.binds .any e = true
              · simp only [hb, Bool.not_true, Bool.false_or] at this ⊢
                rw [h2 e.on (fun hm => by have := hlt _ hm; have := hon k o ho e he hb; omega)] at this
                exact this
              · simp [hb]
          simp [hq, hv, hr]
      · exact h3 k hk hq hrd

structure Inv (P : Program) (N : Nat) (ops : Array Oper) (cs : Array COp) (listed : Array Bool) (a : Act) (h : Heap) (V : Nat) (ρ : Env) (x : Act) (ds : List Deferred) : Prop where
  size : listed.size = ops.size
  agree : Agrees x ρ N
  defers : a.defers = ds
  tsize : a.tmps.size = N
  same : ∀ t, (∀ r, V.testBit r = true → listed.getD r false = false → dstOf ops r ≠ some t) → a.tmps.getD t undef = x.tmps.getD t undef
  sub : ∀ i, listed.getD i false = true → V.testBit i = true
  lt : ∀ i, V.testBit i = true → i < ops.size
  closV : ∀ (i : Nat) (o : Oper), V.testBit i = true → ops[i]? = some o → ∀ e ∈ o.after, Region.binds .any e = true → V.testBit e.on = true
  closD : ∀ (i : Nat) (o : Oper), listed.getD i false = true → ops[i]? = some o → ∀ e ∈ o.after, Region.binds .any e = true → listed.getD e.on false = true
  pend : ∀ i, V.testBit i = true → listed.getD i false = false → quietAt ops cs (Region.before ops) i = true ∧ ∃ c, cs[i]? = some c ∧ againG P c ρ h

structure DrawFacts (P : Program) (N : Nat) (ops : Array Oper) (cs : Array COp) : Prop where
  clean : ∀ (i : Nat) (o : Oper), ops[i]? = some o → ∃ c : COp, cs[i]? = some c ∧ cleanOp P N ops o = some c
  sel : ∀ (j : Nat) (o : Oper) (cc : Array SelectCase) (b : Bool), ops[j]? = some o → o.op ≠ .select cc b
  on : ∀ (i : Nat) (o : Oper), ops[i]? = some o → ∀ e ∈ o.after, Region.binds .any e = true → e.on < i
  dst : ∀ i j : Nat, i < ops.size → j < ops.size → i ≠ j → ∀ d, dstOf ops i = some d →
    dstOf ops j ≠ some d ∧ (((Region.before ops).getD j 0).testBit i = true ∨ ((Region.before ops).getD i 0).testBit j = true ∨ d ∉ looksAll ops cs j)

theorem drawFacts (hcl : ∀ (i : Nat) (o : Oper), ops[i]? = some o → ∃ c : COp, cs[i]? = some c ∧ cleanOp P N ops o = some c) (h : drawOk ops cs (Region.before ops) = true) : DrawFacts P N ops cs := by
  simp only [drawOk, Bool.and_eq_true, List.all_eq_true, List.mem_range] at h
  obtain ⟨⟨h1, h2⟩, h3⟩ := h
  refine ⟨hcl, Region.noSelect_spec h1, fun i o ho e he hb => ?_, fun i j hi hj hne d hd => ?_⟩
  · have := (h3 i (Array.getElem?_eq_some_iff.1 ho).1).1
    simp only [ho] at this
    have := Array.all_eq_true_iff_forall_mem.1 this e he
    simpa [hb] using this
  · have := (h3 i hi).2 j hj
    simp only [hd, Bool.or_eq_true, beq_iff_eq, hne, false_or, Bool.and_eq_true, bne_iff_ne, ne_eq, Bool.not_eq_true', List.contains_eq_mem, decide_eq_false_iff_not] at this
    refine ⟨this.1, ?_⟩
    rcases this.2 with (h | h) | h
    · exact .inl h
    · exact .inr (.inl h)
    · exact .inr (.inr h)

variable (F : DrawFacts P N ops cs)
include F

theorem quiet_look {r j : Nat} {d : Nat} (hq : quietAt ops cs (Region.before ops) r = true) (hd : dstOf ops r = some d) (hj : j < ops.size) (hl : d ∈ looksAll ops cs j) :
    ((Region.before ops).getD j 0).testBit r = true := by
  unfold quietAt at hq
  split at hq
  · simp only [hd, Bool.and_eq_true, List.all_eq_true, List.mem_range] at hq
    have := hq.2 j hj
    simp only [Bool.or_eq_true, Bool.not_eq_true', List.contains_eq_mem, decide_eq_false_iff_not] at this
    rcases this with h | h
    · exact absurd hl h
    · exact h
  · simp at hq

theorem look_same {listed : Array Bool} {a x : Act} {h : Heap} {V : Nat} {ρ : Env} (I : Inv P N ops cs listed a h V ρ x ds) {i : Nat} {o : Oper} (ho : ops[i]? = some o)
    (hd : ∀ e ∈ o.after, Region.binds .any e = true → listed.getD e.on false = true) : ∀ t ∈ looksAll ops cs i, a.tmps.getD t undef = x.tmps.getD t undef := by
  intro t ht
  refine I.same t fun r hV hL hdr => ?_
  have hb := quiet_look F (I.pend r hV hL).1 hdr (Array.getElem?_eq_some_iff.1 ho).1 ht
  have := before_closed (S := fun j => listed.getD j false = true) (fun i o hi => I.closD i o hi) i o ho hd r hb
  rw [this] at hL
  cases hL

theorem exec_same {listed : Array Bool} {a x : Act} {h : Heap} {V : Nat} {ρ : Env} (I : Inv P N ops cs listed a h V ρ x ds) {i : Nat} {o : Oper} (ho : ops[i]? = some o)
    (hd : ∀ e ∈ o.after, Region.binds .any e = true → listed.getD e.on false = true) : execOp a.eval o = execOp x.eval o := by
  refine execOp_congr o (fun cs b => F.sel i o cs b ho) fun y hy => ?_
  cases y with
  | tmp t =>
    refine look_same F I ho hd t ?_
    simp only [looksAll, ho]
    exact List.mem_append_left _ (List.mem_append_left _ (List.mem_filterMap.2 ⟨.tmp t, by simpa using hy, rfl⟩))
  | _ => rfl

theorem guard_same {listed : Array Bool} {a x : Act} {h : Heap} {V : Nat} {ρ : Env} (I : Inv P N ops cs listed a h V ρ x ds) {i : Nat} {o : Oper} {c : COp} (ho : ops[i]? = some o) (hc : cs[i]? = some c)
    (hd : ∀ e ∈ o.after, Region.binds .any e = true → listed.getD e.on false = true) : ∀ t b, c.guard = some (t, b) → a.tmps.getD t undef = x.tmps.getD t undef := by
  intro t b hg
  refine look_same F I ho hd t ?_
  simp only [looksAll, hc]
  exact List.mem_append_right _ (by simp [COp.looks, hg])

omit F in
/-- A quiet operation goes on giving what it gave while what it looks at stands. -/
theorem again_congr {c : COp} (hq : quietK c.k = true) {ρ ρ' : Env} {h : Heap} (hl : ∀ t ∈ c.looks, ρ.lk t = ρ'.lk t) (hd : ∀ d v, c.dst = some d → ρ.lk d = some v → ρ'.lk d = some v)
    (H : againG P c ρ h) : againG P c ρ' h := by
  have hev : ∀ x ∈ c.k.operands, ρ.ev x = ρ'.ev x := fun x hx => ev_congr fun t ht => hl t (by
    subst ht
    exact List.mem_append_left _ (List.mem_filterMap.2 ⟨.tmp t, hx, rfl⟩))
  unfold againG semG at *
  cases hg : c.guard with
  | none =>
    rw [hg] at H
    exact sem_mono P hq (sem_congr P hq hev H) fun v ⟨h1, h2⟩ => ⟨h1, fun d hd' => hd d v hd' (h2 d hd')⟩
  | some tb =>
    obtain ⟨t, b⟩ := tb
    rw [hg] at H
    obtain ⟨g, h1, h2, h3⟩ := H
    have ht : ρ.lk t = ρ'.lk t := hl t (by simp [COp.looks, hg])
    refine ⟨g, by rw [← ht]; exact h1, fun e => ?_, fun e => ⟨rfl, fun d hd' => hd d _ hd' ((h3 e).2 d hd')⟩⟩
    exact sem_mono P hq (sem_congr P hq hev (h2 e)) fun v ⟨h1, h2⟩ => ⟨h1, fun d hd' => hd d v hd' (h2 d hd')⟩

/-- The pending operations behind a write to one more temporary. -/
theorem pend_put {listed : Array Bool} {a x : Act} {h : Heap} {V : Nat} {ρ : Env} (I : Inv P N ops cs listed a h V ρ x ds) {i : Nat} {o : Oper} {c : COp} (ho : ops[i]? = some o) (hc : cs[i]? = some c)
    (hnV : V.testBit i = false) (hno : ∀ r, V.testBit r = true → listed.getD r false = false → ∀ d, dstOf ops i = some d → d ∉ looksAll ops cs r) (v : Value) :
    ∀ r, V.testBit r = true → listed.getD r false = false → ∃ cr, cs[r]? = some cr ∧ againG P cr (ρ.put c.dst v) h := by
  intro r hV hL
  obtain ⟨hq, cr, hcr, hA⟩ := I.pend r hV hL
  refine ⟨cr, hcr, ?_⟩
  have hqk : quietK cr.k = true := by
    unfold quietAt at hq; simp only [hcr, Bool.and_eq_true] at hq; exact hq.1
  have hlt := I.lt r hV
  obtain ⟨or, hor⟩ : ∃ or, ops[r]? = some or := ⟨_, Array.getElem?_eq_getElem hlt⟩
  obtain ⟨cr', hcr', hclr⟩ := F.clean r or hor
  rw [hcr] at hcr'; cases hcr'
  obtain ⟨ci, hci, hcli⟩ := F.clean i o ho
  rw [hc] at hci; cases hci
  have hne : i ≠ r := fun e => by subst e; rw [hV] at hnV; cases hnV
  cases hd : c.dst with
  | none => exact hA
  | some d =>
    have hdi : dstOf ops i = some d := by
      obtain ⟨_, _, h3, _⟩ := cleanOp_spec hcli
      simp only [dstOf, ho, Option.bind_some]; rw [← h3]; exact hd
    refine again_congr hqk (fun t ht => ?_) (fun d' u hd' hu => ?_) hA
    · have hne' : d ≠ t := fun e => hno r hV hL d hdi (by subst e; simp only [looksAll, hcr]; exact List.mem_append_right _ ht)
      simp [Env.put, lk_cons, hne']
    · have hdr : dstOf ops r = some d' := by
        obtain ⟨_, _, h3, _⟩ := cleanOp_spec hclr
        simp only [dstOf, hor, Option.bind_some]; rw [← h3]; exact hd'
      have := (F.dst i r (Array.getElem?_eq_some_iff.1 ho).1 hlt hne d hdi).1
      have hne' : d ≠ d' := fun e => this (by rw [e]; exact hdr)
      simp [Env.put, lk_cons, hne']; exact hu

/-- A quiet operation that is ready is looked at. -/
theorem inv_quiet {listed : Array Bool} {a x : Act} {h : Heap} {V : Nat} {ρ : Env} (I : Inv P N ops cs listed a h V ρ x ds) {i : Nat} {c : COp} (hc : cs[i]? = some c) (hi : i < ops.size)
    (hq : quietAt ops cs (Region.before ops) i = true) (hnV : V.testBit i = false) (hr : readyAt ops V i = true) {K : Value → Heap → Prop} (hs : semG P c ρ h K) :
    ∃ v, Inv P N ops cs listed a h (V ||| 2 ^ i) (ρ.put c.dst v) (x.put c.dst v) ds ∧ K v h := by
  obtain ⟨o, ho⟩ : ∃ o, ops[i]? = some o := ⟨_, Array.getElem?_eq_getElem hi⟩
  obtain ⟨c', hc', hcl⟩ := F.clean i o ho
  rw [hc] at hc'; cases hc'
  obtain ⟨_, _, hdst, hdN⟩ := cleanOp_spec hcl
  rw [← hdst] at hdN
  have hdo : dstOf ops i = c.dst := by simp [dstOf, ho, hdst]
  have hqk : quietK c.k = true := by
    unfold quietAt at hq; simp only [hc, Bool.and_eq_true] at hq; exact hq.1
  have hdeps : ∀ e ∈ o.after, Region.binds .any e = true → V.testBit e.on = true := by
    intro e he hb
    unfold readyAt at hr; simp only [ho] at hr
    have := Array.all_eq_true_iff_forall_mem.1 hr e he
    simpa [hb] using this
  have hnL : listed.getD i false = false := by
    cases hl : listed.getD i false
    · rfl
    · rw [I.sub i hl] at hnV; cases hnV
  -- its own looks are not what it writes
  have hself : ∀ d, dstOf ops i = some d → d ∉ looksAll ops cs i := fun d hd hm => by
    have hb := quiet_look F hq hd hi hm
    have := before_closed (S := fun j => V.testBit j = true) (fun i o hi => I.closV i o hi) i o ho hdeps i hb
    rw [this] at hnV; cases hnV
  have hno : ∀ r, V.testBit r = true → listed.getD r false = false → ∀ d, dstOf ops i = some d → d ∉ looksAll ops cs r := fun r hV hL d hd hm => by
    have hb := quiet_look F hq hd (I.lt r hV) hm
    obtain ⟨or, hor⟩ : ∃ or, ops[r]? = some or := ⟨_, Array.getElem?_eq_getElem (I.lt r hV)⟩
    have := before_closed (S := fun j => V.testBit j = true) (fun i o hi => I.closV i o hi) r or hor (fun e he hb => I.closV r or hV hor e he hb) i hb
    rw [this] at hnV; cases hnV
  -- the value
  have hval : ∃ v, againG P c (ρ.put c.dst v) h ∧ K v h := by
    have hlk : ∀ v t, t ∈ c.looks → ρ.lk t = (ρ.put c.dst v).lk t := by
      intro v t ht
      cases hd : c.dst with
      | none => rfl
      | some d =>
        have : d ≠ t := fun e => hself d (by rw [hdo, hd]) (by subst e; simp only [looksAll, hc]; exact List.mem_append_right _ ht)
        simp [Env.put, lk_cons, this]
    have hev : ∀ v, ∀ y ∈ c.k.operands, ρ.ev y = (ρ.put c.dst v).ev y := fun v y hy => ev_congr fun t ht => hlk v t (by
      subst ht
      exact List.mem_append_left _ (List.mem_filterMap.2 ⟨.tmp t, hy, rfl⟩))
    have hput : ∀ v d, c.dst = some d → (ρ.put c.dst v).lk d = some v := fun v d hd => by simp [hd, Env.put, lk_cons]
    unfold againG
    unfold semG at hs ⊢
    cases hg : c.guard with
    | none =>
      rw [hg] at hs
      obtain ⟨v, h1, h2⟩ := sem_quiet P hqk hs
      exact ⟨v, sem_mono P hqk (sem_congr P hqk (hev v) h1) fun u ⟨e1, e2⟩ => ⟨e2, fun d hd => by rw [e1]; exact hput v d hd⟩, h2⟩
    | some tb =>
      obtain ⟨t, bb⟩ := tb
      rw [hg] at hs
      obtain ⟨g, h1, h2, h3⟩ := hs
      by_cases hgb : g = .bool bb
      · obtain ⟨v, h4, h5⟩ := sem_quiet P hqk (h2 hgb)
        refine ⟨v, ⟨g, by rw [← hlk v t (by simp [COp.looks, hg])]; exact h1, fun _ => ?_, fun e => absurd hgb e⟩, h5⟩
        exact sem_mono P hqk (sem_congr P hqk (hev v) h4) fun u ⟨e1, e2⟩ => ⟨e2, fun d hd => by rw [e1]; exact hput v d hd⟩
      · exact ⟨undef, ⟨g, by rw [← hlk undef t (by simp [COp.looks, hg])]; exact h1, fun e => absurd e hgb, fun _ => ⟨rfl, fun d hd => hput _ d hd⟩⟩, h3 hgb⟩
  obtain ⟨v, hA, hK⟩ := hval
  refine ⟨v, ⟨I.size, I.agree.put hdN v, I.defers, I.tsize, fun t ht => ?_, fun j hj => ?_, fun j hj => ?_, fun j oj hj hoj e he hb => ?_, I.closD, fun j hj hL => ?_⟩, hK⟩
  · have hti : dstOf ops i ≠ some t := ht i (by rw [testBit_add]; simp) hnL
    have h0 := I.same t fun r hV hL => ht r (by rw [testBit_add, hV]; rfl) hL
    rw [h0]
    cases hd : c.dst with
    | none => rfl
    | some d =>
      have hne : d ≠ t := fun e => hti (by rw [hdo, hd, e])
      simp [Act.put, Array.getElem?_setIfInBounds_ne hne]
  · rw [testBit_add, I.sub j hj]; rfl
  · rw [testBit_add] at hj
    rcases Bool.or_eq_true _ _ ▸ hj with h1 | h1
    · exact I.lt j h1
    · have := of_decide_eq_true h1; omega
  · rw [testBit_add] at hj ⊢
    rcases Bool.or_eq_true _ _ ▸ hj with h1 | h1
    · rw [I.closV j oj h1 hoj e he hb]; rfl
    · have e1 := of_decide_eq_true h1
      subst e1
      rw [ho] at hoj; cases hoj
      rw [hdeps e he hb]; rfl
  · rw [testBit_add] at hj
    by_cases hV : V.testBit j = true
    · exact ⟨(I.pend j hV hL).1, pend_put F I ho hc hnV hno v j hV hL⟩
    · have : i = j := by simpa [hV] using hj
      subst this
      exact ⟨hq, c, hc, hA⟩

theorem advance {listed : Array Bool} {a : Act} {h : Heap} {K : Env → Heap → Prop} {t : Tr} : ∀ (l : List Nat) (V : Nat) (ρ : Env) (x : Act) (T : Tr), (∀ i ∈ l, i < ops.size) →
    Inv P N ops cs listed a h V ρ x ds → stAll cs (satL ops cs (Region.before ops) l V).1 t = some T → runT P T ρ h K →
    ∃ ρ' x', Inv P N ops cs listed a h (satL ops cs (Region.before ops) l V).2 ρ' x' ds ∧ runT P t ρ' h K
  | [], V, ρ, x, T, _, I, hT, hr => by
    simp only [satL, stAll, Option.some.injEq] at hT ⊢
    subst hT; exact ⟨ρ, x, I, hr⟩
  | i :: r, V, ρ, x, T, hl, I, hT, hr => by
    by_cases hc : (quietAt ops cs (Region.before ops) i && !V.testBit i && readyAt ops V i) = true
    · simp only [satL, hc, if_true] at hT ⊢
      simp only [stAll] at hT
      split at hT
      · rename_i c u hci hu
        cases hT
        simp only [Bool.and_eq_true, Bool.not_eq_true'] at hc
        obtain ⟨⟨hq, hnV⟩, hrd⟩ := hc
        simp only [runT] at hr
        obtain ⟨v, I', hr'⟩ := inv_quiet F I hci (hl i (by simp)) hq hnV hrd hr
        exact advance r _ _ _ u (fun j hj => hl j (by simp [hj])) I' hu hr'
      · simp at hT
    · simp only [satL, hc, Bool.false_eq_true, if_false] at hT ⊢
      exact advance r V ρ x T (fun j hj => hl j (by simp [hj])) I hT hr

omit F in
theorem bothAll_mem {h : Heap} {ρ : Env} {K : Env → Heap → Prop} : ∀ {l : List (Option Tr)} {T : Tr}, bothAll l = some T → runT P T ρ h K → ∀ t ∈ l, ∃ u, t = some u ∧ runT P u ρ h K
  | [], T, _, _, t, ht => by cases ht
  | [s], T, hT, hr, t, ht => by simp only [bothAll] at hT; simp at ht; subst ht; exact ⟨T, hT, hr⟩
  | s :: u :: r, T, hT, hr, t, ht => by
    simp only [bothAll] at hT
    cases hs : s with
    | none => simp [hs] at hT
    | some x =>
      cases hy : bothAll (u :: r) with
      | none => simp [hs, hy] at hT
      | some y =>
        simp only [hs, hy, Option.some.injEq] at hT
        subst hT
        obtain ⟨h1, h2⟩ := hr
        rcases List.mem_cons.1 ht with rfl | ht
        · exact ⟨x, hs, h1⟩
        · exact bothAll_mem (l := u :: r) hy h2 t ht

omit F in
theorem agAll_run {h : Heap} {ρ : Env} {K : Env → Heap → Prop} {t : Tr} : ∀ {l : List Nat} {T : Tr}, agAll cs l t = some T → runT P T ρ h K →
    (∀ r ∈ l, ∃ c, cs[r]? = some c ∧ againG P c ρ h) ∧ runT P t ρ h K
  | [], T, hT, hr => by simp only [agAll, Option.some.injEq] at hT; subst hT; exact ⟨(fun r h => by cases h), hr⟩
  | i :: r, T, hT, hr => by
    simp only [agAll] at hT
    split at hT
    · rename_i c u hc hu
      cases hT
      obtain ⟨h1, h2⟩ := hr
      obtain ⟨h3, h4⟩ := agAll_run hu h2
      refine ⟨fun j hj => ?_, h4⟩
      rcases List.mem_cons.1 hj with rfl | hj
      · exact ⟨c, hc, h1⟩
      · exact h3 j hj
    · simp at hT

omit F in
theorem sem_alloc2 {k : Kd} (ha : allocK k = true) {ρ : Env} {h : Heap} {K : Value → Heap → Prop} (hs : k.sem P ρ h K) :
    k.sem P ρ h (fun v h' => ((∃ o, h' = h.push o) ∨ h' = h) ∧ K v h') := by
  cases k <;> simp only [allocK, Bool.false_eq_true] at ha
  case new T cells => exact ⟨.inl ⟨_, rfl⟩, hs⟩
  case box T x => obtain ⟨v, h1, h2⟩ := hs; exact ⟨v, h1, .inl ⟨_, rfl⟩, h2⟩
  case bsl T src len => obtain ⟨cs, h1, h2⟩ := hs; exact ⟨cs, h1, .inl ⟨_, rfl⟩, h2⟩
  case mkm => exact ⟨.inl ⟨_, rfl⟩, hs⟩
  case rng x => obtain ⟨b, es, c, h1, h2, h3⟩ := hs; exact ⟨b, es, c, h1, h2, .inl ⟨_, rfl⟩, h3⟩
  case mks T sz bytes z l c => obtain ⟨n, m, h1, h2, h3, h4, h5, h6⟩ := hs; exact ⟨n, m, h1, h2, h3, h4, h5, .inl ⟨_, rfl⟩, h6⟩

omit F in
theorem semG_mono_alloc {c : COp} (hk : allocK c.k = true) {ρ : Env} {h : Heap} {K : Value → Heap → Prop} (hs : semG P c ρ h K) : semG P c ρ h (fun v h' => ((∃ o, h' = h.push o) ∨ h' = h) ∧ K v h') := by
  unfold semG at *
  have key : ∀ {ρ : Env} {K : Value → Heap → Prop}, c.k.sem P ρ h K → c.k.sem P ρ h (fun v h' => ((∃ o, h' = h.push o) ∨ h' = h) ∧ K v h') := by
    intro ρ K hs
    exact sem_alloc2 hk hs
  cases hg : c.guard with
  | none => rw [hg] at hs; exact key hs
  | some tb =>
    obtain ⟨t, b⟩ := tb
    rw [hg] at hs
    obtain ⟨g, h1, h2, h3⟩ := hs
    exact ⟨g, h1, fun e => key (h2 e), fun e => ⟨.inr rfl, h3 e⟩⟩

omit F in
theorem again_free {c : COp} (hq : quietK c.k = true) (hr : readsK c.k = false) {ρ : Env} {h h2 : Heap} (H : againG P c ρ h) : againG P c ρ h2 := by
  unfold againG semG at *
  cases hg : c.guard with
  | none => rw [hg] at H; exact sem_free P hq hr H
  | some tb =>
    obtain ⟨t, b⟩ := tb
    rw [hg] at H
    obtain ⟨g, h1, h3, h4⟩ := H
    exact ⟨g, h1, fun e => sem_free P hq hr (h3 e), fun e => ⟨rfl, (h4 e).2⟩⟩

omit F in
theorem again_push {c : COp} (hq : quietK c.k = true) (hp : pushSafe c.k = true) {ρ : Env} {h : Heap} {o : Obj} (H : againG P c ρ h) : againG P c ρ (h.push o) := by
  unfold againG semG at *
  cases hg : c.guard with
  | none => rw [hg] at H; exact sem_push P hq hp H
  | some tb =>
    obtain ⟨t, b⟩ := tb
    rw [hg] at H
    obtain ⟨g, h1, h3, h4⟩ := H
    exact ⟨g, h1, fun e => sem_push P hq hp (h3 e), fun e => ⟨rfl, (h4 e).2⟩⟩

omit F in
theorem filter_one (i : Nat) (p : Nat → Bool) : ∀ (l : List Nat), l.Nodup → i ∈ l → p i = false → (l.filter fun j => p j || j == i).length = (l.filter p).length + 1
  | [], _, h, _ => by cases h
  | k :: l, hn, hm, hp => by
    obtain ⟨h1, h2⟩ := List.nodup_cons.1 hn
    rcases List.mem_cons.1 hm with rfl | hm
    · have : (l.filter fun j => p j || j == i) = l.filter p := List.filter_congr fun j hj => by
        have : (j == i) = false := by simp; intro e; subst e; exact h1 hj
        simp [this]
      simp [List.filter_cons, hp, this]
    · have ih := filter_one i p l h2 hm hp
      have hk : (k == i) = false := by simp; intro e; subst e; exact h1 hm
      simp only [List.filter_cons, hk, Bool.or_false]
      split
      · simp [ih]
      · exact ih

def cnt (ops : Array Oper) (listed : Array Bool) : Nat := ((List.range ops.size).filter fun i => listed.getD i false).length

omit F in
theorem cnt_set {listed : Array Bool} {i : Nat} (hs : listed.size = ops.size) (hi : i < ops.size) (hL : listed.getD i false = false) : cnt ops (listed.setIfInBounds i true) = cnt ops listed + 1 := by
  unfold cnt
  rw [← filter_one i (fun j => listed.getD j false) (List.range ops.size) List.nodup_range (by simpa using hi) hL]
  congr 1
  apply List.filter_congr
  intro j hj
  by_cases hji : j = i
  · subst hji; simp [hs, hi]
  · rw [getD_set_ne false (Ne.symm hji)]; simp [hji]

omit F in
theorem getD_tf {listed : Array Bool} {i : Nat} (hs : listed.size = ops.size) (hi : i < ops.size) : listed.getD i true = listed.getD i false := by
  simp [Array.getElem?_eq_getElem (show i < listed.size by omega)]

theorem draw_main {ro : Option Nat} {n : Nat} {w0 : World} {K : Env → Heap → Prop} {Q : Exit → Act → World → Prop} (hQ : ∀ ρ a w, Keeps w0 w → K ρ w.heap → Agrees a ρ N → a.defers = ds → Q .normal a w) :
    ∀ (m : Nat) (listed : Array Bool) (a : Act) (w : World) (f V : Nat) (ρ : Env) (x : Act) (T : Tr), Keeps w0 w → cnt ops listed + m = ops.size →
      Inv P N ops cs listed a w.heap V ρ x ds → (∀ i, i < ops.size → quietAt ops cs (Region.before ops) i = true → readyAt ops V i = true → V.testBit i = true) →
      bothAll ((effs ops V).map fun e => match cs[e]?, (canon ops cs (Region.before ops) f (V ||| 2 ^ e)).bind (agAll cs (agains ops cs (Region.before ops) e V)) with
        | some c, some t => some (.st c t)
        | _, _ => none) = some T → runT P T ρ w.heap K → wpAnyIn (Fw ro) n P .any ops Q m listed a w := by
  intro m
  induction m with
  | zero =>
    intro listed a w f V ρ x T hw hm I hsat hT hr
    have hall : ∀ i, i < ops.size → listed.getD i false = true := by
      intro i hi
      have : ((List.range ops.size).filter fun i => listed.getD i false).length = (List.range ops.size).length := by simp; unfold cnt at hm; simpa using hm
      rw [List.length_filter_eq_length_iff] at this
      exact this i (by simpa using hi)
    have he : effs ops V = [] := by
      unfold effs
      rw [List.filter_eq_nil_iff]
      intro i hi
      simp [I.sub i (hall i (by simpa using hi))]
    rw [he] at hT
    simp only [List.map_nil, bothAll, Option.some.injEq] at hT
    subst hT
    refine ⟨?_, hQ ρ a w hw hr ?_ I.defers⟩
    · unfold Region.ready
      rw [List.filter_eq_nil_iff]
      intro i hi
      have hi' : i < ops.size := by simpa using hi
      rw [getD_tf I.size hi', hall i hi']; simp
    · refine ⟨I.tsize, fun t v ht => ?_⟩
      rw [I.same t fun r hV hL => by rw [hall r (I.lt r hV)] at hL; cases hL]
      exact I.agree.lk t v ht
  | succ m ih =>
    intro listed a w f V ρ x T hw hm I hsat hT hr
    refine ⟨fun hnil => ?_, fun i hi => ?_⟩
    · -- nothing is ready
      have hnp : ∀ r, V.testBit r = true → listed.getD r false = true := by
        intro r
        induction r using Nat.strongRecOn with
        | _ r ihr =>
          intro hV
          cases hL : listed.getD r false
          · exfalso
            obtain ⟨o, ho⟩ : ∃ o, ops[r]? = some o := ⟨_, Array.getElem?_eq_getElem (I.lt r hV)⟩
            have : r ∈ Region.ready .any ops listed := mem_ready.2 ⟨by rw [getD_tf I.size (I.lt r hV)]; exact hL, o, ho, fun e he hb =>
              ihr e.on (F.on r o ho e he hb) (I.closV r o hV ho e he hb)⟩
            rw [hnil] at this; cases this
          · rfl
      have he : effs ops V = [] := by
        unfold effs
        rw [List.filter_eq_nil_iff]
        intro i hi hc
        have hi' : i < ops.size := by simpa using hi
        simp only [Bool.and_eq_true, Bool.not_eq_true'] at hc
        obtain ⟨hV, hrd⟩ := hc
        obtain ⟨o, ho⟩ : ∃ o, ops[i]? = some o := ⟨_, Array.getElem?_eq_getElem hi'⟩
        have hun : listed.getD i true = false := by
          rw [getD_tf I.size hi']
          cases hL : listed.getD i false
          · rfl
          · rw [I.sub i hL] at hV; cases hV
        have hde : ∀ e ∈ o.after, Region.binds .any e = true → listed.getD e.on false = true := by
          intro e he hb
          refine hnp _ ?_
          unfold readyAt at hrd; simp only [ho] at hrd
          have := Array.all_eq_true_iff_forall_mem.1 hrd e he
          simpa [hb] using this
        have : i ∈ Region.ready .any ops listed := mem_ready.2 ⟨hun, o, ho, hde⟩
        rw [hnil] at this; cases this
      rw [he] at hT
      simp only [List.map_nil, bothAll, Option.some.injEq] at hT
      subst hT
      refine hQ ρ a w hw hr ⟨I.tsize, fun t v ht => ?_⟩ I.defers
      rw [I.same t fun r hV hL => by rw [hnp r hV] at hL; cases hL]
      exact I.agree.lk t v ht
    · obtain ⟨hun, o, ho, hdeps⟩ := mem_ready.1 hi
      have hlt : i < ops.size := (Array.getElem?_eq_some_iff.1 ho).1
      rw [getD_tf I.size hlt] at hun
      obtain ⟨c, hc, hcl⟩ := F.clean i o ho
      obtain ⟨_, _, hdst, hdN⟩ := cleanOp_spec hcl
      have hdo : dstOf ops i = o.dst := by simp [dstOf, ho]
      have hsz : (listed.setIfInBounds i true).size = ops.size := by simp [I.size]
      have hcnt := cnt_set I.size hlt hun
      by_cases hV : V.testBit i = true
      · -- it was looked at already
        obtain ⟨hq, c', hc', hA⟩ := I.pend i hV hun
        rw [hc] at hc'; cases hc'
        refine wpOp_of ho hcl I.agree (exec_same F I ho hdeps) (guard_same F I ho hc hdeps) hA fun v w' hk hv => ?_
        obtain ⟨hh, hdv⟩ := hv
        refine ih _ _ w' f V ρ x T (hw.trans hk) (by rw [hcnt]; omega) ⟨hsz, I.agree, (act_put_defers.trans I.defers), ?_, fun t ht => ?_, fun j hj => ?_, I.lt, I.closV, fun j oj hj hoj e he hb => ?_, fun j hj hL => ?_⟩ hsat hT (by rw [hh]; exact hr)
        · cases o.dst <;> simp [Act.put, I.tsize]
        · by_cases hti : o.dst = some t
          · have htN := hdN t hti
            have hlkt := hdv t (by rw [hdst]; exact hti)
            rw [I.agree.lk t v hlkt]
            have : t < a.tmps.size := by rw [I.tsize]; exact htN
            simp [hti, Act.put, this]
          · have h0 := I.same t fun r hVr hLr => by
              by_cases hri : r = i
              · subst hri; rw [hdo]; exact hti
              · exact ht r hVr (by rw [getD_set_ne false (Ne.symm hri)]; exact hLr)
            rw [← h0]
            cases hd : o.dst with
            | none => rfl
            | some d =>
              have hne : d ≠ t := fun e => hti (by rw [hd, e])
              simp [Act.put, Array.getElem?_setIfInBounds_ne hne]
        · by_cases hji : j = i
          · subst hji; exact hV
          · rw [getD_set_ne false (Ne.symm hji)] at hj; exact I.sub j hj
        · by_cases hji : j = i
          · subst hji; rw [ho] at hoj; cases hoj; exact getD_set_true (hdeps e he hb)
          · rw [getD_set_ne false (Ne.symm hji)] at hj; exact getD_set_true (I.closD j oj hj hoj e he hb)
        · have hji : j ≠ i := fun e => by
            subst e
            simp [I.size, hlt] at hL
          rw [getD_set_ne false (Ne.symm hji)] at hL
          rw [hh]; exact I.pend j hj hL
      · -- an effect
        have hVf : V.testBit i = false := by simpa using hV
        have hrd : readyAt ops V i = true := by
          unfold readyAt; simp only [ho]
          rw [Array.all_eq_true_iff_forall_mem]
          intro e he
          by_cases hb : Region.binds .any e = true
          · simp [hb, I.sub _ (hdeps e he hb)]
          · simp [hb]
        have hmem : i ∈ effs ops V := by
          unfold effs
          rw [List.mem_filter]
          exact ⟨by simpa using hlt, by simp [hVf, hrd]⟩
        obtain ⟨u, hu, hru⟩ := bothAll_mem hT hr _ (List.mem_map.2 ⟨i, hmem, rfl⟩)
        simp only [hc] at hu
        split at hu
        · rename_i c0 t hc0 ht
          cases hc0
          cases hu
          simp only [Option.bind_eq_some_iff] at ht
          obtain ⟨t0, ht0, hag⟩ := ht
          cases f with
          | zero => simp [canon] at ht0
          | succ f =>
            simp only [canon] at ht0
            split at ht0
            · rename_i T1 hT1
              simp only [runT] at hru
              -- what the operation leaves
              have hru' : semG P c ρ w.heap (fun v h' => (allocK c.k = true → (∃ o, h' = w.heap.push o) ∨ h' = w.heap) ∧ runT P t (ρ.put c.dst v) h' K) := by
                by_cases hk : allocK c.k = true
                · have := semG_mono_alloc hk hru
                  unfold semG at this ⊢
                  simpa [hk] using this
                · unfold semG at hru ⊢
                  simpa [hk] using hru
              refine wpOp_of ho hcl I.agree (exec_same F I ho hdeps) (guard_same F I ho hc hdeps) hru' fun v w' hkp hv => ?_
              obtain ⟨hpush, hrt⟩ := hv
              obtain ⟨hags, hrt0⟩ := agAll_run hag hrt
              have hclos := fun r => before_closed (S := fun j => listed.getD j false = true) (fun i o hi => I.closD i o hi) i o ho hdeps r
              have hnoL : ∀ r, V.testBit r = true → listed.getD r false = false → ∀ d, dstOf ops i = some d → d ∉ looksAll ops cs r := by
                intro r hVr hLr d hd hm
                have hne : i ≠ r := fun e => by subst e; rw [hVr] at hVf; cases hVf
                rcases (F.dst i r hlt (I.lt r hVr) hne d hd).2 with h1 | h1 | h1
                · obtain ⟨or, hor⟩ : ∃ or, ops[r]? = some or := ⟨_, Array.getElem?_eq_getElem (I.lt r hVr)⟩
                  have := before_closed (S := fun j => V.testBit j = true) (fun i o hi => I.closV i o hi) r or hor (fun e he hb => I.closV r or hVr hor e he hb) i h1
                  rw [this] at hVf; cases hVf
                · rw [hclos r h1] at hLr; cases hLr
                · exact h1 hm
              have hpend := pend_put F I ho hc hVf hnoL v
              have I2 : Inv P N ops cs (listed.setIfInBounds i true) (a.put o.dst v) w'.heap (V ||| 2 ^ i) (ρ.put c.dst v) (x.put c.dst v) ds := by
                refine ⟨hsz, I.agree.put (by rw [hdst]; exact hdN) v, (act_put_defers.trans I.defers), ?_, fun t ht => ?_, fun j hj => ?_, fun j hj => ?_, fun j oj hj hoj e he hb => ?_, fun j oj hj hoj e he hb => ?_, fun j hj hL => ?_⟩
                · cases o.dst <;> simp [Act.put, I.tsize]
                · rw [hdst]
                  by_cases hti : o.dst = some t
                  · have htN := hdN t hti
                    have h1 : t < a.tmps.size := by rw [I.tsize]; exact htN
                    have h2 : t < x.tmps.size := by rw [I.agree.size]; exact htN
                    simp [hti, Act.put, h1, h2]
                  · have h0 := I.same t fun r hVr hLr => by
                      have hri : r ≠ i := fun e => by subst e; rw [hVr] at hVf; cases hVf
                      exact ht r (by rw [testBit_add, hVr]; rfl) (by rw [getD_set_ne false (Ne.symm hri)]; exact hLr)
                    cases hd : o.dst with
                    | none => exact h0
                    | some d =>
                      have hne : d ≠ t := fun e => hti (by rw [hd, e])
                      simp [Act.put, Array.getElem?_setIfInBounds_ne hne] at h0 ⊢; exact h0
                · rw [testBit_add]
                  by_cases hji : j = i
                  · subst hji; simp
                  · rw [getD_set_ne false (Ne.symm hji)] at hj; rw [I.sub j hj]; rfl
                · rw [testBit_add] at hj
                  rcases Bool.or_eq_true _ _ ▸ hj with h1 | h1
                  · exact I.lt j h1
                  · have := of_decide_eq_true h1; omega
                · rw [testBit_add] at hj ⊢
                  rcases Bool.or_eq_true _ _ ▸ hj with h1 | h1
                  · rw [I.closV j oj h1 hoj e he hb]; rfl
                  · have e1 := of_decide_eq_true h1
                    subst e1
                    rw [ho] at hoj; cases hoj
                    rw [I.sub _ (hdeps e he hb)]; rfl
                · by_cases hji : j = i
                  · subst hji; rw [ho] at hoj; cases hoj; exact getD_set_true (hdeps e he hb)
                  · rw [getD_set_ne false (Ne.symm hji)] at hj; exact getD_set_true (I.closD j oj hj hoj e he hb)
                · have hji : j ≠ i := fun e => by
                    subst e
                    simp [I.size, hlt] at hL
                  rw [getD_set_ne false (Ne.symm hji)] at hL
                  rw [testBit_add] at hj
                  have hVj : V.testBit j = true := by
                    rcases Bool.or_eq_true _ _ ▸ hj with h1 | h1
                    · exact h1
                    · exact absurd (of_decide_eq_true h1).symm hji
                  obtain ⟨hq, _⟩ := I.pend j hVj hL
                  refine ⟨hq, ?_⟩
                  obtain ⟨cj, hcj, hAj⟩ := hpend j hVj hL
                  have hqk : quietK cj.k = true := by
                    unfold quietAt at hq; simp only [hcj, Bool.and_eq_true] at hq; exact hq.1
                  by_cases hin : j ∈ agains ops cs (Region.before ops) i V
                  · obtain ⟨cj', hcj', hA'⟩ := hags j hin
                    exact ⟨cj', hcj', hA'⟩
                  · refine ⟨cj, hcj, ?_⟩
                    have hnb : ((Region.before ops).getD i 0).testBit j = false := by
                      cases hb : ((Region.before ops).getD i 0).testBit j
                      · rfl
                      · rw [hclos j hb] at hL; cases hL
                    unfold agains at hin
                    rw [List.mem_filter] at hin
                    simp only [List.mem_range, I.lt j hVj, hVj, hnb, hcj, hc, Bool.not_false, Bool.and_true, Bool.true_and, true_and, Bool.and_eq_true, Bool.not_eq_true', not_and, Bool.not_eq_false, Bool.and_eq_false_imp] at hin
                    by_cases hrk : readsK cj.k = false
                    · exact again_free hqk hrk hAj
                    · have hin0 := hin (by simpa using hrk)
                      have hin' : allocK c.k = true ∧ pushSafe cj.k = true := by
                        cases h1 : allocK c.k <;> cases h2 : pushSafe cj.k <;> simp_all
                      rcases hpush hin'.1 with ⟨ob, hob⟩ | hob
                      · rw [hob]; exact again_push hqk hin'.2 hAj
                      · rw [hob]; exact hAj
              obtain ⟨h1, h2, h3⟩ := satL_spec (cs := cs) F.on (b := Region.before ops) (List.range ops.size) (V ||| 2 ^ i) List.pairwise_lt_range
              obtain ⟨ρ', x', I3, hr3⟩ := advance F (List.range ops.size) (V ||| 2 ^ i) _ _ t0 (fun j hj => by simpa using hj) I2 ht0 hrt0
              exact ih _ _ w' f _ ρ' x' T1 (hw.trans hkp) (by rw [hcnt]; omega) I3 (fun j hj hq hr => h3 j (by simpa using hj) hq hr) hT1 hr3
            · simp at ht0
        · simp at hu

end
end Go.SL
