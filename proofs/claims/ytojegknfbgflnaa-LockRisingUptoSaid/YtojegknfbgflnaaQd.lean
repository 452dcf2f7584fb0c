/- Who is stuck: the book's maps, and who is ready. Conditions: none. -/
import Derived.Test.YtojegknfbgflnaaQc
set_option linter.unusedSimpArgs false
set_option linter.unusedVariables false
set_option maxRecDepth 100000
set_option maxHeartbeats 2000000
namespace Go.SL
open Go
abbrev HE := Option Addr × Nat × List Owner
abbrev hev (x : HE) : Value := .slice x.1 x.2.2.length x.2.1
abbrev sO (x : HE) : Assn := SlT true ownerC 2 (.slice x.1 x.2.2.length x.2.1) x.2.1 x.2.2
def HsA (g : List (Int × HE)) : Assn := sep (g.map fun x => sO x.2)
abbrev CK := Owner × Int
def ckC (x : CK) : List Value := [i64 x.1.agent, i64 x.1.op, i64 x.2]
abbrev ckv (x : CK) : Value := .agg (ckC x).toArray
theorem CK.dec (a b : CK) : decide (a = b) = (decide (a.1.agent = b.1.agent) && (decide (a.1.op = b.1.op) && (decide (a.2 = b.2) && true))) := by
  rw [Bool.eq_iff_iff]; obtain ⟨⟨a1, a2⟩, a3⟩ := a; obtain ⟨⟨b1, b2⟩, b3⟩ := b; simp [and_assoc]
instance : EqEnc [.i, .i, .i] ckC := ⟨fun a b => by rw [CK.dec]; exact .i (.i (.i .nil))⟩
instance : FS ckC 0 2 ownerC Prod.fst := ⟨fun _ => rfl⟩
def holders (g : List (Int × HE)) (p : Int) : List Owner := match alk g p with
  | some x => x.2.2
  | none => []
theorem HsA.take {g : List (Int × HE)} {i : Nat} {p : Int} {x : HE} (h : g[i]? = some (p, x)) {r : List Assn} : Imp (HsA g :: r) (sO x :: HsA (g.eraseIdx i) :: r) := by
  obtain ⟨A, B, e, _, e2⟩ := eraseIdx_split h
  unfold HsA; rw [e2, e, List.map_append, List.map_append, List.map_cons]; exact sep_pull
theorem HsA.put {g : List (Int × HE)} {i : Nat} {p : Int} {x x0 : HE} (h : g[i]? = some (p, x0)) {r : List Assn} : Imp (sO x :: HsA (g.eraseIdx i) :: r) (HsA (g.set i (p, x)) :: r) := by
  obtain ⟨A, B, e, el, e2⟩ := eraseIdx_split h
  have e3 : g.set i (p, x) = A ++ (p, x) :: B := by rw [e, ← el, List.set_append_right _ _ (Nat.le_refl _)]; simp
  unfold HsA; rw [e2, e3, List.map_append, List.map_append, List.map_cons]; exact sep_push
theorem HsA.snoc {g : List (Int × HE)} {p : Int} {x : HE} {r : List Assn} : Imp (sO x :: HsA g :: r) (HsA (g ++ [(p, x)]) :: r) := by
  have := sep_push (c := sO x) (A := g.map fun x => sO x.2) (B := []) (r := r)
  unfold HsA; rw [List.map_append]; simpa using this
theorem HsA.fold {g : List (Int × HE)} {i : Nat} {p : Int} {x : HE} {cs r r1 ds : List Assn} (hg : g[i]? = some (p, x)) (h2 : Has cs (HsA (g.eraseIdx i)) r) (h1 : Has r (sO x) r1) (h3 : Imp r1 ds) : Imp cs (HsA g :: ds) := by
  have e : g.set i (p, x) = g := by
    apply List.ext_getElem?
    intro j
    rw [List.getElem?_set]
    by_cases e : i = j
    · subst e; have := List.getElem?_eq_some_iff.1 hg; rw [if_pos rfl, if_pos this.1, hg]
    · rw [if_neg e]
  have h := HsA.put (x := x) hg (r := ds)
  rw [e] at h
  exact Imp.trans (Imp.trans h2 (Imp.trans (Imp.cons (Imp.trans h1 (Imp.cons h3))) Imp.swap)) h
theorem alk_get {g : List (Int × HE)} {k : Int} {v : HE} (h : alk g k = some v) : ∃ i : Nat, g[i]? = some (k, v) := by
  rw [alk_aix] at h
  cases e : aix g k with
  | none => rw [e] at h; simp at h
  | some i =>
    obtain ⟨hlt, hk⟩ := aix_some e
    rw [e] at h
    simp only [Option.bind_some, List.getElem?_eq_getElem hlt, Option.map_some, Option.some.injEq] at h
    exact ⟨i, by rw [List.getElem?_eq_getElem hlt, ← hk, ← h]⟩
theorem nodup_lt : ∀ {n : Nat} {d : List Nat}, d.Nodup → (∀ i ∈ d, i < n) → d.length ≤ n
  | 0, d, _, h => by
    rcases d with _ | ⟨x, r⟩
    · simp
    · have := h x (by simp); omega
  | n + 1, d, hd, h => by
    have h1 := nodup_lt (n := n) (d := d.erase n) (hd.erase n) (fun i hi => by
      have := h i (List.mem_of_mem_erase hi)
      have : i ≠ n := fun e => by subst e; exact absurd hi (by simp [hd.mem_erase_iff])
      omega)
    have := List.length_erase (l := d) (a := n)
    split at this <;> omega
theorem Mt.fold {κ β : Type} [DecidableEq κ] {b c : Nat} {ke : κ → Value} {ve : β → Value} {es : Array MapEntry} {m : List (κ × β)} {cs r ds : List Assn} (h : Has cs (Me b es c ke ve m) r) (h3 : Imp r ds) : Imp cs (Mt b ke ve m :: ds) := Imp.me h h3
theorem HsA.nil {cs : List Assn} : Imp cs (HsA [] :: cs) := Imp.sep_in (cs := [])
def rdyM (g : List (Int × HE)) (wl : List (CK × Bool)) (S : List Owner) (o : Owner) : Bool := wl.all fun x => !decide (x.1.1 = o) || (holders g x.1.2).all fun h => decide (h = o) || decide (h ∈ S)
def okE (g : List (Int × HE)) (S : List Owner) (o : Owner) (x : CK) : Prop := x.1 = o → ∀ h ∈ holders g x.2, h = o ∨ h ∈ S
theorem holders_some {g : List (Int × HE)} {p : Int} {v : HE} (h : alk g p = some v) : holders g p = v.2.2 := by rw [holders, h]
theorem rdyM_true {g : List (Int × HE)} {wl : List (CK × Bool)} {S : List Owner} {o : Owner} : rdyM g wl S o = true ↔ ∀ x ∈ wl, okE g S o x.1 := by
  unfold rdyM okE
  simp only [List.all_eq_true, Bool.or_eq_true, Bool.not_eq_true', decide_eq_true_eq, decide_eq_false_iff_not]
  constructor
  · intro h x hx e; rcases h x hx with h1 | h1
    · exact absurd e h1
    · exact h1
  · intro h x hx
    by_cases e : x.1.1 = o
    · exact .inr (h x hx e)
    · exact .inl e
theorem alkS {S : List Owner} {o : Owner} : alk (S.map fun x => (x, true)) o = if o ∈ S then some true else none := by
  induction S with
  | nil => rfl
  | cons x r ih =>
    unfold alk at ih ⊢
    by_cases e : o = x
    · subst e; simp
    · simp only [List.map_cons, List.find?_cons, e, decide_false, List.mem_cons, false_or]; exact ih
end Go.SL
namespace Go.Proofs.Ytojegknfbgflnaa
open Go Go.SL
attribute [local irreducible] pc rc SlT Me Mt It pt ro pur ex sep old Meets
attribute [local irreducible] HsA
instance : KO Try.prog 29 ov := ⟨KeyOk.flat (by kernel_rfl) (by kernel_rfl)⟩
instance : KO Try.prog 125 ckv := ⟨KeyOk.flat (by kernel_rfl) (by kernel_rfl)⟩
instance : KO Try.prog 3 (fun n : Int => i64 n) := ⟨KeyOk.int (k' := .i64) .i64 (by kernel_rfl)⟩

theorem lkReady_fn {b T hm wm sm : Nat} {so : Value} (g : List (Int × HE)) (wl : List (CK × Bool)) (S : List Owner) (o : Owner) (F : List Assn) :
    Meets Try.prog 71 [ptr b, ov o] (pc b T [.map (some hm), .map (some wm), so, .map (some sm)] :: Mt hm (fun n : Int => i64 n) hev g :: HsA g :: Mt wm ckv Value.bool wl :: Mt sm ov Value.bool (S.map fun x => (x, true)) :: F)
      (Det (.bool (rdyM g wl S o)) (pc b T [.map (some hm), .map (some wm), so, .map (some sm)] :: Mt hm (fun n : Int => i64 n) hev g :: HsA g :: Mt wm ckv Value.bool wl :: Mt sm ov Value.bool (S.map fun x => (x, true)) :: F)) := by
  refine Meets.intro b71 k71 (by simp) ?_
  focus
    refine J.so ?_
    refine JT.box rfl (fun b3 => ?_)
    refine JT.c rfl ?_
    refine JT.done ?_
    refine J.seq ?_
    refine J.so ?_
    iterate 2 refine JT.c rfl ?_
    refine JT.y rfl (Ev.fa' 1 rfl rfl) ?_
    refine JT.y rfl (Ev.L rfl rfl) ?_
  refine JT.openM (Has.there (Has.there (Has.there (Has.there Has.here)))) (fun es c => ?_)
  refine JT.rng rfl Has.here (fun it => ?_)
  focus
    refine JT.done ?_
    refine J.block ?_
  refine J.lp (ι := List Nat) (fun d => d.Nodup ∧ (∀ i ∈ d, i < wl.length) ∧ ∀ i ∈ d, okE g S o (nth wl i).1) (fun _ => []) (fun d => It it wm c es d :: pc b3 29 (ownerC o) :: pc b T [.map (some hm), .map (some wm), so, .map (some sm)] :: Mt hm (fun n : Int => i64 n) hev g :: HsA g :: Me wm es c ckv Value.bool wl :: Mt sm ov Value.bool (S.map fun x => (x, true)) :: F)
    (fun d => wl.length - d.length) [] ⟨by simp, by simp, by simp⟩ (by (repeat (first | exact subx_nil | apply subx_dup rfl | apply subx_cons rfl))) (by (first | (refine Up.of ?_; (repeat (first | exact Imp.refl _ | (apply Imp.take; (· (repeat (first | exact Has.here | assumption | apply Has.there)))) | fail | apply Imp.dropT | exact Imp.nil _)); done) | (refine Up.frz (by (repeat (first | exact Has.here | assumption | apply Has.there))) ?_; refine Up.of ?_; (repeat (first | exact Imp.refl _ | (apply Imp.take; (· (repeat (first | exact Has.here | assumption | apply Has.there)))) | fail | apply Imp.dropT | exact Imp.nil _)); done))) (fun d hd => ?_)
  obtain ⟨hd1, hd2, hd3⟩ := hd
  focus
    refine J.so ?_
  refine JT.nxt rfl Has.here (Has.there (Has.there (Has.there (Has.there Has.here)))) (fun i hi hni => ?_) (fun hall => ?_)
  · focus
      refine JT.c rfl ?_
      refine JT.done ?_
      refine J.seq ?_
      refine J.condT rfl ?_
      refine J.skip ?_
      refine seqQ_n ?_
      refine J.block ?_
      refine J.so ?_
    refine JT.ent rfl Has.here (Has.there (Has.there (Has.there (Has.there Has.here)))) hi ?_
    rw [← nth_eq hi]
    have hD : okE g S o (nth wl i).1 → (d ++ [i]).Nodup ∧ (∀ j ∈ d ++ [i], j < wl.length) ∧ ∀ j ∈ d ++ [i], okE g S o (nth wl j).1 := by
      intro h
      refine ⟨?_, fun j hj => ?_, fun j hj => ?_⟩
      · rw [List.nodup_append]; exact ⟨hd1, by simp, fun a ha b hb => by simp at hb; subst hb; rintro rfl; exact hni ha⟩
      · rcases List.mem_append.1 hj with hj | hj
        · exact hd2 j hj
        · simp at hj; omega
      · rcases List.mem_append.1 hj with hj | hj
        · exact hd3 j hj
        · simp at hj; subst hj; exact h
    have hM : wl.length - (d ++ [i]).length < wl.length - d.length := by
      have := nodup_lt (n := wl.length) (d := d ++ [i]) (by rw [List.nodup_append]; exact ⟨hd1, by simp, fun a ha b hb => by simp at hb; subst hb; rintro rfl; exact hni ha⟩) (fun j hj => by
        rcases List.mem_append.1 hj with hj | hj
        · exact hd2 j hj
        · simp at hj; omega)
      simp at this ⊢; omega
    focus
      refine JT.c rfl ?_
      refine JT.new (fun b5 => ?_)
      refine JT.w rfl rfl rfl rfl rfl ?_
      refine JT.done ?_
      refine J.seq ?_
      refine J.so ?_
      refine JT.y rfl (Ev.fa' 0 rfl rfl) ?_
      refine JT.y rfl (Ev.Lf rfl (Nat.le_of_ble_eq_true rfl)) ?_
      refine JT.y rfl (Ev.Lw rfl rfl) ?_
      refine JT.y rfl (Ev.neT rfl rfl) ?_
      refine JT.done ?_
      refine J.c rfl (fun h1 => ?_) (fun h1 => ?_)
      refine J.exit ?_
      refine seqQ_x ?_
      refine blockQ_hit ?_
      refine seqQ_n ?_
      refine ⟨_, ?_, (by omega), (subx_cons rfl (subx_cons rfl (subx_cons rfl (subx_cons rfl (subx_cons rfl (subx_cons rfl (subx_cons rfl (subx_cons rfl (subx_cons rfl subx_nil))))))))), (Up.of (.take (.there .here) (.take (.there .here) (.take (.there .here) (.take (.there .here) (.take (.there .here) (.take (.there .here) (.take (.there .here) (.dropT (Imp.refl _))))))))))⟩
      rotate_left
      refine J.skip ?_
      refine seqQ_n ?_
      refine J.so ?_
      iterate 2 refine JT.c rfl ?_
      refine JT.y rfl (Ev.fa' 0 rfl rfl) ?_
      refine JT.y rfl (Ev.L rfl rfl) ?_
      refine JT.y rfl (Ev.fa' 2 rfl rfl) ?_
      refine JT.y rfl (Ev.L rfl rfl) ?_
      refine JT.lk1 rfl (by rfl) (fun v27 h2 => ?_) (fun h2 => ?_)
      iterate 2 refine JT.c rfl ?_
      refine JT.done ?_
      refine J.block ?_
      rotate_left
      iterate 2 refine JT.c rfl ?_
      refine JT.done ?_
      refine J.block ?_
      rotate_left
    · exact hD (fun e => absurd e (by assumption))
    · obtain ⟨ix, hget⟩ := alk_get (by assumption)
      refine J.has (Has.there (Has.there (Has.there (Has.there (Has.there Has.here))))) (J.up (fun w hs => hs.imp (HsA.take hget)) ?_)
      refine J.slF Has.here (fun hc hl _ => ?_)
      refine J.lp (ι := Nat) (fun j => j ≤ v27.2.2.length ∧ ∀ i, i < j → nth v27.2.2 i = o ∨ nth v27.2.2 i ∈ S) (fun j => [(29, i64 (j : Int))]) (fun _ => SlT true ownerC 2 (.slice v27.1 v27.2.2.length v27.2.1) v27.2.1 v27.2.2 :: HsA (g.eraseIdx ix) :: pc b5 125 (ckC (nth wl i).1) :: It it wm c es (d ++ [i]) :: pc b3 29 (ownerC o) :: pc b T [.map (some hm), .map (some wm), so, .map (some sm)] :: Mt hm (fun n : Int => i64 n) hev g :: Me wm es c ckv Value.bool wl :: Mt sm ov Value.bool (S.map fun x => (x, true)) :: F)
        (fun j => v27.2.2.length - j) 0 ⟨by omega, fun j hj => by omega⟩ (by (repeat (first | exact subx_nil | apply subx_dup rfl | apply subx_cons rfl))) (by (first | (refine Up.of ?_; (repeat (first | exact Imp.refl _ | (apply Imp.take; (· (repeat (first | exact Has.here | assumption | apply Has.there)))) | fail | apply Imp.dropT | exact Imp.nil _)); done) | (refine Up.frz (by (repeat (first | exact Has.here | assumption | apply Has.there))) ?_; refine Up.of ?_; (repeat (first | exact Imp.refl _ | (apply Imp.take; (· (repeat (first | exact Has.here | assumption | apply Has.there)))) | fail | apply Imp.dropT | exact Imp.nil _)); done))) (fun j hj => ?_)
      obtain ⟨hj, hjn⟩ := hj
      focus
        refine J.so ?_
        refine JT.y rfl (Ev.int rfl rfl rfl) ?_
        refine JT.done ?_
        refine J.seq ?_
        refine J.c rfl (fun h3 => ?_) (fun h3 => ?_)
        refine J.skip ?_
        refine seqQ_n ?_
        refine J.seq ?_
        refine J.block ?_
        refine J.so ?_
        refine JT.y rfl (Ev.iC rfl rfl (by omega)) ?_
        refine JT.y rfl (Ev.LE rfl (by omega)) ?_
        refine JT.new (fun b7 => ?_)
        refine JT.w rfl rfl rfl rfl rfl ?_
        refine JT.done ?_
        refine J.so ?_
        iterate 2 refine JT.y rfl (Ev.Lw rfl rfl) ?_
        refine JT.y rfl (Ev.neT rfl rfl) ?_
        refine JT.c rfl ?_
        refine JT.gp rfl (fun h4 => ?_) (fun h4 => ?_)
        refine JT.c rfl ?_
        refine JT.gT rfl (by first | assumption | omega) ?_
        refine JT.c rfl ?_
        refine JT.gT rfl (by first | assumption | omega) ?_
        refine JT.y rfl (Ev.fa' 3 rfl rfl) ?_
        refine JT.gT rfl (by first | assumption | omega) ?_
        refine JT.y rfl (Ev.L rfl rfl) ?_
        refine JT.gT rfl (by first | assumption | omega) ?_
        refine JT.y rfl (Ev.Lw rfl rfl) ?_
        refine JT.gT rfl (by first | assumption | omega) ?_
        refine JT.lk1 rfl (by rfl) (fun v42 h5 => ?_) (fun h5 => ?_)
        refine JT.gT rfl (by first | assumption | omega) ?_
        refine JT.c rfl ?_
        refine JT.y rfl (Ev.pickTp rfl (by first | assumption | omega) rfl) ?_
        refine JT.done ?_
        refine J.c rfl (fun h6 => ?_) (fun h6 => ?_)
        refine J.so ?_
        refine JT.c rfl ?_
        refine JT.done ?_
        refine J.ret ?_
        refine blockQ_r ?_
        iterate 2 refine seqQ_r ?_
        iterate 2 refine blockQ_r ?_
        refine seqQ_r ?_
        refine blockQ_r ?_
        refine seqQ_r ?_
        refine retQD (.t rfl .nil) ?_ (Up.of (.take (.there (.there (.there (.there (.there (.there .here)))))) (.take (.there (.there (.there (.there (.there (.there .here)))))) (HsA.fold (by first | assumption | omega | rfl | decide) (.there (.there .here)) (.there .here) (Mt.fold (.there (.there (.there (.there .here)))) (.take (.there (.there (.there (.there .here)))) (.dropT (.dropT (.dropT (.dropT (Imp.refl _)))))))))))
        rotate_left
        refine J.skip ?_
        refine blockQ_n ?_
        refine seqQ_n ?_
        refine J.ops ?_
        refine JT.y rfl (Ev.addN rfl rfl (by omega)) ?_
        refine JT.c rfl ?_
        refine JT.done ?_
        refine seqQ_n ?_
        refine ⟨_, ?_, (by omega), (subx_cons rfl (subx_dup rfl (subx_cons rfl (subx_cons rfl (subx_cons rfl (subx_cons rfl (subx_cons rfl (subx_cons rfl (subx_cons rfl (subx_cons rfl (subx_cons rfl (subx_cons rfl (subx_cons rfl (subx_cons rfl (subx_cons rfl (subx_cons rfl (subx_cons rfl (subx_cons rfl (subx_cons rfl (subx_cons rfl (subx_cons rfl (subx_cons rfl (subx_cons rfl (subx_cons rfl (subx_cons rfl (subx_cons rfl (subx_cons rfl (subx_cons rfl subx_nil)))))))))))))))))))))))))))), (Up.of (.take (.there .here) (.take (.there .here) (.take (.there .here) (.take (.there .here) (.take (.there .here) (.take (.there .here) (.take (.there .here) (.take (.there .here) (.take (.there .here) (.dropT (Imp.refl _))))))))))))⟩
        rotate_left
        refine JT.gT rfl (by first | assumption | omega) ?_
        refine JT.c rfl ?_
        refine JT.y rfl (Ev.pickTp rfl (by first | assumption | omega) rfl) ?_
        refine JT.done ?_
        refine J.condT rfl ?_
        refine J.so ?_
        refine JT.c rfl ?_
        refine JT.done ?_
        refine J.ret ?_
        refine blockQ_r ?_
        iterate 2 refine seqQ_r ?_
        iterate 2 refine blockQ_r ?_
        refine seqQ_r ?_
        refine blockQ_r ?_
        refine seqQ_r ?_
        refine retQD (.t rfl .nil) ?_ (Up.of (.take (.there (.there (.there (.there (.there (.there .here)))))) (.take (.there (.there (.there (.there (.there (.there .here)))))) (HsA.fold (by first | assumption | omega | rfl | decide) (.there (.there .here)) (.there .here) (Mt.fold (.there (.there (.there (.there .here)))) (.take (.there (.there (.there (.there .here)))) (.dropT (.dropT (.dropT (.dropT (Imp.refl _)))))))))))
        rotate_left
        iterate 6 refine JT.gTs rfl (by first | assumption | omega) ?_
        refine JT.y rfl (Ev.pickFp rfl (by first | assumption | omega) rfl) ?_
        refine JT.done ?_
        refine J.condF rfl ?_
        refine J.skip ?_
        refine blockQ_n ?_
        refine seqQ_n ?_
        refine J.ops ?_
        refine JT.y rfl (Ev.addN rfl rfl (by omega)) ?_
        refine JT.c rfl ?_
        refine JT.done ?_
        refine seqQ_n ?_
        refine ⟨_, ?_, (by omega), (subx_cons rfl (subx_dup rfl (subx_cons rfl (subx_cons rfl (subx_cons rfl (subx_cons rfl (subx_cons rfl (subx_cons rfl (subx_cons rfl (subx_cons rfl (subx_cons rfl (subx_cons rfl (subx_cons rfl (subx_cons rfl (subx_cons rfl (subx_cons rfl (subx_cons rfl (subx_cons rfl (subx_cons rfl (subx_cons rfl (subx_cons rfl (subx_cons rfl (subx_cons rfl (subx_cons rfl (subx_cons rfl (subx_cons rfl (subx_cons rfl (subx_cons rfl subx_nil)))))))))))))))))))))))))))), (Up.of (.take (.there .here) (.take (.there .here) (.take (.there .here) (.take (.there .here) (.take (.there .here) (.take (.there .here) (.take (.there .here) (.take (.there .here) (.take (.there .here) (.dropT (Imp.refl _))))))))))))⟩
        rotate_left
        refine J.exit ?_
        iterate 2 refine seqQ_x ?_
        refine blockQ_hit ?_
        refine blockQ_n ?_
        refine seqQ_n ?_
        refine ⟨_, ?_, (by omega), (subx_cons rfl (subx_cons rfl (subx_cons rfl (subx_cons rfl (subx_cons rfl (subx_cons rfl (subx_cons rfl (subx_cons rfl (subx_cons rfl subx_nil))))))))), (Up.of (.take (.there (.there (.there .here))) (.take (.there (.there (.there .here))) (.take (.there (.there (.there .here))) (.take (.there (.there (.there .here))) (HsA.fold (by first | assumption | omega | rfl | decide) (.there .here) .here (.take (.there .here) (.take (.there .here) (.dropT (Imp.refl _))))))))))⟩
        rotate_left
      · rw [alkS] at h5; subst h6; split at h5 <;> simp at h5
      · refine ⟨by omega, all_lt_succ hjn (.inr ?_)⟩
        rw [alkS] at h5; split at h5
        · assumption
        · simp at h5
      · have hno : rdyM g wl S o = false := by
          cases e : rdyM g wl S o with
          | false => rfl
          | true =>
            have h9 : okE g S o (nth wl i).1 := all_nth.1 (rdyM_true.1 e) i hi
            have h10 : ∀ h ∈ holders g (nth wl i).1.2, h = o ∨ h ∈ S := h9 h1
            rw [holders_some h2] at h10
            rcases h10 _ (mem_nth (k := j) (by omega) rfl) with h11 | h11
            · exact absurd h11 h4
            · rw [alkS, if_pos h11] at h5; simp at h5
        rw [hno]
        focus
        rfl
      · exact ⟨by omega, all_lt_succ hjn (.inl h4)⟩
      · exact hD (fun _ => by rw [holders_some h2]; exact all_nth.2 fun x hx => hjn x (by omega))
    · refine J.lp (ι := Nat) (fun j => j = 0) (fun j => []) (fun _ => pc b5 125 (ckC (nth wl i).1) :: It it wm c es (d ++ [i]) :: pc b3 29 (ownerC o) :: pc b T [.map (some hm), .map (some wm), so, .map (some sm)] :: Mt hm (fun n : Int => i64 n) hev g :: HsA g :: Me wm es c ckv Value.bool wl :: Mt sm ov Value.bool (S.map fun x => (x, true)) :: F)
        (fun j => 0) 0 rfl (by (repeat (first | exact subx_nil | apply subx_dup rfl | apply subx_cons rfl))) (by (first | (refine Up.of ?_; (repeat (first | exact Imp.refl _ | (apply Imp.take; (· (repeat (first | exact Has.here | assumption | apply Has.there)))) | fail | apply Imp.dropT | exact Imp.nil _)); done) | (refine Up.frz (by (repeat (first | exact Has.here | assumption | apply Has.there))) ?_; refine Up.of ?_; (repeat (first | exact Imp.refl _ | (apply Imp.take; (· (repeat (first | exact Has.here | assumption | apply Has.there)))) | fail | apply Imp.dropT | exact Imp.nil _)); done))) (fun j hj => ?_)
      focus
        refine J.so ?_
        refine JT.y rfl (Ev.cltF rfl rfl (by omega)) ?_
        refine JT.done ?_
        refine J.seq ?_
        refine J.condF rfl ?_
        refine J.exit ?_
        iterate 2 refine seqQ_x ?_
        refine blockQ_hit ?_
        refine blockQ_n ?_
        refine seqQ_n ?_
        refine ⟨_, ?_, (by omega), (subx_cons rfl (subx_cons rfl (subx_cons rfl (subx_cons rfl (subx_cons rfl (subx_cons rfl (subx_cons rfl (subx_cons rfl (subx_cons rfl subx_nil))))))))), (Up.of (.take (.there .here) (.take (.there .here) (.take (.there .here) (.take (.there .here) (.take (.there .here) (.take (.there .here) (.take (.there .here) (.dropT (Imp.refl _))))))))))⟩
      exact hD (fun _ h hm => by rw [holders, h2] at hm; simp at hm)
  · refine JT.has (Has.me (Has.there (Has.there (Has.there (Has.there (Has.there Has.here)))))) ?_
    rw [rdyM_true.2 (all_nth.2 fun j hj => hd3 j (hall j hj))]
    focus
      refine JT.c rfl ?_
      refine JT.done ?_
      refine J.seq ?_
      refine J.condF rfl ?_
      refine J.exit ?_
      iterate 2 refine seqQ_x ?_
      refine blockQ_hit ?_
      refine seqQ_n ?_
      refine J.so ?_
      refine JT.c rfl ?_
      refine JT.done ?_
      refine J.ret ?_
      refine retQD (.t rfl .nil) rfl (Up.of (.take (.there (.there (.there .here))) (.take (.there (.there (.there .here))) (.take (.there (.there (.there .here))) (.take .here (.take (.there (.there .here)) (.dropT (.dropT (Imp.refl _)))))))))
end Go.Proofs.Ytojegknfbgflnaa
