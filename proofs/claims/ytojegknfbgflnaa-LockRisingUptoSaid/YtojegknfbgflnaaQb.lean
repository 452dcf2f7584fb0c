/- Who is stuck: what the reference's functions do. Conditions: none. -/
import Derived.Test.YtojegknfbgflnaaBs
import Derived.Test.YtojegknfbgflnaaLr
import Derived.Test.YtojegknfbgflnaaQa
set_option linter.unusedSimpArgs false
set_option linter.unusedVariables false
set_option maxRecDepth 100000
set_option maxHeartbeats 2000000
namespace Go.Proofs.Ytojegknfbgflnaa
open Go Go.SL
attribute [local irreducible] pc rc SlT Me Mt It pt ro pur ex sep old Meets

theorem mem_nth {xs : List Owner} {o : Owner} {k : Nat} (h : k < xs.length) (e : nth xs k = o) : o ∈ xs := by
  rw [← e, nth_eq h]; exact List.getElem_mem h
theorem not_mem_nth {xs : List Owner} {o : Owner} (h : ∀ j, j < xs.length → nth xs j ≠ o) : o ∉ xs := by
  intro hm
  obtain ⟨i, hi, e⟩ := List.getElem_of_mem hm
  exact h i hi (by rw [nth_eq hi, e])
/-- The claim lets its owner be served. -/
def clOk (l : List Cl) (s : List Owner) (o : Owner) (c : Cl) : Prop := c.o = o → c.held = false → ∀ d ∈ l, d.held = true → d.place = c.place → d.o ≠ o → d.o ∈ s
theorem rdy_true {l : List Cl} {s : List Owner} {o : Owner} : rdy l s o = true ↔ ∀ c ∈ l, clOk l s o c := by
  unfold rdy clOk
  simp only [List.all_eq_true, Bool.or_eq_true, Bool.not_eq_true', Bool.and_eq_false_iff, decide_eq_true_eq, decide_eq_false_iff_not]
  constructor
  · intro h c hc h1 h2 d hd h3 h4 h5
    have := h c hc; grind
  · intro h c hc
    have := h c hc; grind
theorem all_nth {α : Type} [Inhabited α] {l : List α} {p : α → Prop} : (∀ c ∈ l, p c) ↔ ∀ j, j < l.length → p (nth l j) := by
  constructor
  · intro h j hj; exact h _ (by rw [nth_eq hj]; exact List.getElem_mem hj)
  · intro h c hc
    obtain ⟨i, hi, rfl⟩ := List.getElem_of_mem hc
    have := h i hi; rwa [nth_eq hi] at this

theorem rdy_no {xs : List Cl} {s : List Owner} {o : Owner} {k i : Nat} (hk : k < xs.length) (hi : i < xs.length) (a : (nth xs k).o = o) (b : (nth xs k).held = false) (c : (nth xs i).held = true) (d : (nth xs i).place = (nth xs k).place) (e : (nth xs i).o ≠ o) (f : (nth xs i).o ∉ s) : rdy xs s o = false := by
  cases h : rdy xs s o with
  | false => rfl
  | true =>
    have h1 : clOk xs s o (nth xs k) := all_nth.1 (rdy_true.1 h) k hk
    have h2 := all_nth.1 (h1 a b) i hi c d e
    exact absurd h2 f

def passK (xs : List Cl) (n i : Nat) : List Owner := ((alls xs).take i).foldl (serve1 xs) (passes xs (alls xs) n)
def outK (xs : List Cl) (i : Nat) : List Owner := ((alls xs).take i).filter fun o => decide (o ∉ SL.served xs (alls xs))
theorem passK_len (xs : List Cl) (n i : Nat) : (passK xs n i).length ≤ (alls xs).length := by
  have h := foldl_ok (l := xs) (all := alls xs) (xs := (alls xs).take i) (fun x hx => List.mem_of_mem_take hx) (passes_ok xs (alls xs) n)
  exact nodup_sub_len h.1 h.2

theorem oput_at {o : Owner} : ∀ {xs : List Owner} {k : Nat}, k ≤ xs.length → (∀ j, j < k → olt (nth xs j) o) → (k < xs.length → ¬ olt (nth xs k) o) →
    oput xs o = if k < xs.length ∧ nth xs k = o then xs else xs.take k ++ [o] ++ xs.drop k
  | [], k, hk, _, _ => by
    obtain rfl : k = 0 := by simpa using hk
    simp [oput]
  | x :: r, 0, _, _, h => by
    have hx : ¬ olt x o := h (by simp)
    by_cases e : x = o
    · subst e; simp [oput, hx, nth]
    · simp [oput, hx, nth, e]
  | x :: r, k + 1, hk, h, h' => by
    have hx : olt x o := h 0 (by omega)
    have ih := oput_at (o := o) (xs := r) (k := k) (by simpa using hk) (fun j hj => h (j + 1) (by omega)) (fun hj => h' (by simpa using hj))
    have e : nth (x :: r) (k + 1) = nth r k := rfl
    simp only [oput, if_pos hx, ih, List.length_cons, e, Nat.add_lt_add_iff_right]
    split <;> simp

theorem r7Less_fn (a b : Owner) (F : List Assn) : Meets Try.prog 90 [ov a, ov b] F (Det (.bool (decide (olt a b))) F) := by
  refine Meets.intro b90 k90 (by simp) ?_
  focus
    refine J.so ?_
    refine JT.box rfl (fun b2 => ?_)
    refine JT.box rfl (fun b3 => ?_)
    refine JT.c rfl ?_
    refine JT.done ?_
    refine J.so ?_
    refine JT.y rfl (Ev.fa' 0 rfl rfl) ?_
    refine JT.y rfl (Ev.L rfl rfl) ?_
    refine JT.y rfl (Ev.fa' 0 rfl rfl) ?_
    refine JT.y rfl (Ev.L rfl rfl) ?_
    refine JT.y rfl (Ev.int rfl rfl rfl) ?_
    refine JT.c rfl ?_
    refine JT.yh rfl rfl (fun h1 => Ev.fa' 0 rfl rfl) ?_
    refine JT.yh rfl rfl (fun h1 => by simp only [h1, gd_true, gd_false, Bool.not_false, Bool.not_true, Bool.true_and, Bool.and_true]; exact Ev.L rfl rfl) ?_
    refine JT.yh rfl rfl (fun h1 => Ev.fa' 0 rfl rfl) ?_
    refine JT.yh rfl rfl (fun h1 => by simp only [h1, gd_true, gd_false, Bool.not_false, Bool.not_true, Bool.true_and, Bool.and_true]; exact Ev.L rfl rfl) ?_
    refine JT.yh rfl rfl (fun h1 => by simp only [h1, gd_true, gd_false, Bool.not_false, Bool.not_true, Bool.true_and, Bool.and_true]; exact Ev.int rfl rfl rfl) ?_
    refine JT.yh rfl rfl (fun h1 => by simp only [h1, gd_true, gd_false, Bool.not_false, Bool.not_true, Bool.true_and, Bool.and_true]; exact Ev.calc rfl) ?_
    refine JT.yg2 rfl rfl (fun h1 h1' => Ev.fa' 1 rfl rfl) ?_
    refine JT.yg2 rfl rfl (fun h1 h1' => by simp only [h1, h1', gd_true, gd_false, Bool.not_false, Bool.not_true, Bool.true_and, Bool.and_true]; exact Ev.L rfl rfl) ?_
    refine JT.yg2 rfl rfl (fun h1 h1' => Ev.fa' 1 rfl rfl) ?_
    refine JT.yg2 rfl rfl (fun h1 h1' => by simp only [h1, h1', gd_true, gd_false, Bool.not_false, Bool.not_true, Bool.true_and, Bool.and_true]; exact Ev.L rfl rfl) ?_
    refine JT.yg2 rfl rfl (fun h1 h1' => by simp only [h1, h1', gd_true, gd_false, Bool.not_false, Bool.not_true, Bool.true_and, Bool.and_true]; exact Ev.int rfl rfl rfl) ?_
    refine JT.yh rfl rfl (fun h1 => by simp only [h1, gd_true, gd_false, Bool.not_false, Bool.not_true, Bool.true_and, Bool.and_true]; exact Ev.pickA rfl rfl rfl) ?_
    refine JT.y rfl (Ev.pickO rfl rfl rfl) ?_
    refine JT.c rfl ?_
    refine JT.done ?_
    refine J.ret ?_
    refine retQD (.t rfl .nil) ?_ (Up.of (.dropT (.dropT (Imp.refl _))))
  all_goals (simp only [mkRet]; congr 1; rw [Bool.eq_iff_iff]; simp [olt] <;> grind)

theorem r7has_fn {a1 : Option Addr} {c1 : Nat} {xs : List Owner} (o : Owner) {F : List Assn} [Hs : HS F (.slice a1 xs.length c1) Owner ownerC 2 c1 xs] : Meets Try.prog 73 [.slice a1 xs.length c1, ov o] F (Det (.bool (decide (o ∈ xs))) F) := by
  refine Meets.intro b73 k73 (by simp) ?_
  refine J.sl Hs (fun hC hL _ => ?_)
  focus
    refine J.so ?_
    refine JT.box rfl (fun b3 => ?_)
    refine JT.c rfl ?_
    refine JT.done ?_
    refine J.seq ?_
    refine J.so ?_
    refine JT.c rfl ?_
    refine JT.done ?_
    refine J.block ?_
  refine J.lp (ι := Nat) (fun k => k ≤ xs.length ∧ ∀ j, j < k → nth xs j ≠ o) (fun k => [(5, i64 k)]) (fun _ => pc b3 29 (ownerC o) :: F) (fun k => xs.length - k) 0 ⟨by omega, fun j hj => by omega⟩ (by (repeat (first | exact subx_nil | apply subx_dup rfl | apply subx_cons rfl))) (Up.refl _) (fun k hk => ?_)
  obtain ⟨hk, hn⟩ := hk
  focus
    refine J.seq ?_
    refine J.so ?_
    iterate 3 refine JT.c rfl ?_
    refine JT.y rfl (Ev.int rfl rfl rfl) ?_
    refine JT.done ?_
    refine J.c rfl (fun h1 => ?_) (fun h1 => ?_)
    refine J.skip ?_
    refine seqQ_n ?_
    refine J.seq ?_
    refine J.block ?_
    refine J.so ?_
    iterate 2 refine JT.c rfl ?_
    refine JT.y rfl (Ev.iC rfl rfl (by omega)) ?_
    refine JT.y rfl (Ev.LE rfl (by omega)) ?_
    refine JT.y rfl (Ev.Lw rfl rfl) ?_
    refine JT.y rfl (Ev.eqT rfl rfl) ?_
    refine JT.done ?_
    refine J.c rfl (fun h2 => ?_) (fun h2 => ?_)
    refine J.so ?_
    refine JT.c rfl ?_
    refine JT.done ?_
    refine J.ret ?_
    refine blockQ_r ?_
    iterate 2 refine seqQ_r ?_
    refine blockQ_r ?_
    refine seqQ_r ?_
    refine retQD (.t rfl .nil) ?_ (Up.of (.dropT (Imp.refl _)))
    rotate_left
    refine J.skip ?_
    refine blockQ_n ?_
    refine seqQ_n ?_
    refine J.ops ?_
    refine JT.c rfl ?_
    refine JT.y rfl (Ev.addN rfl rfl (by omega)) ?_
    refine JT.c rfl ?_
    refine JT.done ?_
    refine seqQ_n ?_
    refine ⟨_, ?_, (by omega), (subx_cons rfl (subx_dup rfl (subx_cons rfl (subx_cons rfl (subx_cons rfl (subx_cons rfl subx_nil)))))), (Up.of (.take .here (Imp.refl _)))⟩
    rotate_left
    refine J.exit ?_
    iterate 2 refine seqQ_x ?_
    refine blockQ_hit ?_
    refine seqQ_n ?_
    refine J.so ?_
    refine JT.c rfl ?_
    refine JT.done ?_
    refine J.ret ?_
    refine retQD (.t rfl .nil) ?_ (Up.of (.dropT (Imp.refl _)))
    rotate_left
  · simp only [mkRet]; rw [decide_eq_true (mem_nth (k := k) (by omega) (by assumption))]
  · exact ⟨by omega, all_lt_succ hn (by assumption)⟩
  · simp only [mkRet]; rw [decide_eq_false (not_mem_nth fun j hj => hn j (by omega))]

theorem r7free_fn {a1 a2 : Option Addr} {c1 c2 : Nat} {xs : List Cl} {s : List Owner} (o : Owner) {F : List Assn} [H1 : HS F (.slice a1 xs.length c1) Cl clC 4 c1 xs] [H2 : HS F (.slice a2 s.length c2) Owner ownerC 2 c2 s] :
    Meets Try.prog 74 [.slice a1 xs.length c1, ov o, .slice a2 s.length c2] F (Det (.bool (rdy xs s o)) F) := by
  refine Meets.intro b74 k74 (by simp) ?_
  refine J.sl H1 (fun hC hL _ => ?_)
  focus
    refine J.so ?_
    refine JT.box rfl (fun b4 => ?_)
    refine JT.c rfl ?_
    refine JT.done ?_
    refine J.seq ?_
    refine J.so ?_
    refine JT.c rfl ?_
    refine JT.done ?_
    refine J.block ?_
  refine J.lp (ι := Nat) (fun k => k ≤ xs.length ∧ ∀ j, j < k → clOk xs s o (nth xs j)) (fun k => [(7, i64 k)]) (fun _ => pc b4 29 (ownerC o) :: F) (fun k => xs.length - k) 0 ⟨by omega, fun j hj => by omega⟩ (by (repeat (first | exact subx_nil | apply subx_dup rfl | apply subx_cons rfl))) (Up.refl _) (fun k hk => ?_)
  obtain ⟨hk, hn⟩ := hk
  focus
    refine J.seq ?_
    refine J.so ?_
    iterate 3 refine JT.c rfl ?_
    refine JT.y rfl (Ev.int rfl rfl rfl) ?_
    refine JT.done ?_
    refine J.c rfl (fun h1 => ?_) (fun h1 => ?_)
    refine J.skip ?_
    refine seqQ_n ?_
    refine J.seq ?_
    refine J.block ?_
    refine J.seq ?_
    refine J.so ?_
    iterate 2 refine JT.c rfl ?_
    refine JT.y rfl (Ev.iC rfl rfl (by omega)) ?_
    refine JT.y rfl (Ev.fe rfl) ?_
    refine JT.y rfl (Ev.LEp (us := [_, _]) rfl (by omega) (by decide) rfl) ?_
    refine JT.y rfl (Ev.Lw rfl rfl) ?_
    refine JT.y rfl (Ev.eqs rfl rfl (by repeat (first | exact EqC.nil | apply EqC.i | apply EqC.b | apply EqC.s))) ?_
    refine JT.c rfl ?_
    refine JT.gn rfl (fun h2 => ?_) (fun h2 => ?_)
    refine JT.c rfl ?_
    refine JT.gF rfl (by first | assumption | omega) ?_
    refine JT.c rfl ?_
    refine JT.gF rfl (by first | assumption | omega) ?_
    refine JT.y rfl (Ev.iC rfl rfl (by omega)) ?_
    refine JT.gF rfl (by first | assumption | omega) ?_
    refine JT.y rfl (Ev.fe rfl) ?_
    refine JT.gF rfl (by first | assumption | omega) ?_
    refine JT.y rfl (Ev.LE1 rfl (by omega) rfl (by decide)) ?_
    refine JT.y rfl (Ev.pickFp rfl (by first | assumption | omega) rfl) ?_
    refine JT.done ?_
    refine J.c rfl (fun h3 => ?_) (fun h3 => ?_)
    refine J.exit ?_
    refine seqQ_x ?_
    refine blockQ_hit ?_
    refine seqQ_n ?_
    refine J.ops ?_
    refine JT.c rfl ?_
    refine JT.y rfl (Ev.addN rfl rfl (by omega)) ?_
    refine JT.c rfl ?_
    refine JT.done ?_
    refine seqQ_n ?_
    refine ⟨_, ?_, (by omega), (subx_cons rfl (subx_dup rfl (subx_cons rfl (subx_cons rfl (subx_cons rfl (subx_cons rfl (subx_cons rfl subx_nil))))))), (Up.of (.take .here (Imp.refl _)))⟩
    rotate_left
    refine J.skip ?_
    refine seqQ_n ?_
    refine J.so ?_
    refine JT.c rfl ?_
    refine JT.done ?_
    refine J.block ?_
    rotate_left
    iterate 4 refine JT.gFs rfl (by first | assumption | omega) ?_
    refine JT.y rfl (Ev.pickTp rfl (by first | assumption | omega) rfl) ?_
    refine JT.done ?_
    refine J.condT rfl ?_
    refine J.exit ?_
    refine seqQ_x ?_
    refine blockQ_hit ?_
    refine seqQ_n ?_
    refine J.ops ?_
    refine JT.c rfl ?_
    refine JT.y rfl (Ev.addN rfl rfl (by omega)) ?_
    refine JT.c rfl ?_
    refine JT.done ?_
    refine seqQ_n ?_
    refine ⟨_, ?_, (by omega), (subx_cons rfl (subx_dup rfl (subx_cons rfl (subx_cons rfl (subx_cons rfl (subx_cons rfl (subx_cons rfl subx_nil))))))), (Up.of (.take .here (Imp.refl _)))⟩
    rotate_left
    refine J.exit ?_
    iterate 2 refine seqQ_x ?_
    refine blockQ_hit ?_
    refine seqQ_n ?_
    refine J.so ?_
    refine JT.c rfl ?_
    refine JT.done ?_
    refine J.ret ?_
    refine retQD (.t rfl .nil) ?_ (Up.of (.dropT (Imp.refl _)))
    rotate_left
  · exact ⟨by omega, all_lt_succ hn (fun _ h => by rw [h3] at h; cases h)⟩
  · refine J.lp (ι := Nat) (fun j => j ≤ xs.length ∧ ∀ i, i < j → (nth xs i).held = true → (nth xs i).place = (nth xs k).place → (nth xs i).o ≠ o → (nth xs i).o ∈ s) (fun j => [(8, i64 j)]) (fun _ => pc b4 29 (ownerC o) :: F) (fun j => xs.length - j) 0 ⟨by omega, fun j hj => by omega⟩ (by (repeat (first | exact subx_nil | apply subx_dup rfl | apply subx_cons rfl))) (Up.refl _) (fun j hj => ?_)
    obtain ⟨hj, hm⟩ := hj
    focus
      refine J.seq ?_
      refine J.so ?_
      iterate 3 refine JT.c rfl ?_
      refine JT.y rfl (Ev.int rfl rfl rfl) ?_
      refine JT.done ?_
      refine J.c rfl (fun h4 => ?_) (fun h4 => ?_)
      refine J.skip ?_
      refine seqQ_n ?_
      refine J.seq ?_
      refine J.block ?_
      refine J.so ?_
      iterate 2 refine JT.c rfl ?_
      refine JT.y rfl (Ev.iC rfl rfl (by omega)) ?_
      refine JT.y rfl (Ev.fe rfl) ?_
      refine JT.y rfl (Ev.LE1 rfl (by omega) rfl (by decide)) ?_
      refine JT.c rfl ?_
      refine JT.gp rfl (fun h5 => ?_) (fun h5 => ?_)
      refine JT.c rfl ?_
      refine JT.gT rfl (by first | assumption | omega) ?_
      refine JT.c rfl ?_
      refine JT.gT rfl (by first | assumption | omega) ?_
      refine JT.y rfl (Ev.iC rfl rfl (by omega)) ?_
      refine JT.gT rfl (by first | assumption | omega) ?_
      refine JT.y rfl (Ev.fe rfl) ?_
      refine JT.gT rfl (by first | assumption | omega) ?_
      refine JT.y rfl (Ev.LE1 rfl (by omega) rfl (by decide)) ?_
      refine JT.gT rfl (by first | assumption | omega) ?_
      refine JT.c rfl ?_
      refine JT.gT rfl (by first | assumption | omega) ?_
      refine JT.c rfl ?_
      refine JT.gT rfl (by first | assumption | omega) ?_
      refine JT.y rfl (Ev.iC rfl rfl (by omega)) ?_
      refine JT.gT rfl (by first | assumption | omega) ?_
      refine JT.y rfl (Ev.fe rfl) ?_
      refine JT.gT rfl (by first | assumption | omega) ?_
      refine JT.y rfl (Ev.LE1 rfl (by omega) rfl (by decide)) ?_
      refine JT.gT rfl (by first | assumption | omega) ?_
      refine JT.y rfl (Ev.int rfl rfl rfl) ?_
      refine JT.y rfl (Ev.pickTp rfl (by first | assumption | omega) rfl) ?_
      refine JT.c rfl ?_
      refine JT.gp rfl (fun h6 => ?_) (fun h6 => ?_)
      refine JT.c rfl ?_
      refine JT.gT rfl (by first | assumption | omega) ?_
      refine JT.c rfl ?_
      refine JT.gT rfl (by first | assumption | omega) ?_
      refine JT.y rfl (Ev.iC rfl rfl (by omega)) ?_
      refine JT.gT rfl (by first | assumption | omega) ?_
      refine JT.y rfl (Ev.fe rfl) ?_
      refine JT.gT rfl (by first | assumption | omega) ?_
      refine JT.y rfl (Ev.LEp (us := [_, _]) rfl (by omega) (by decide) rfl) ?_
      refine JT.gT rfl (by first | assumption | omega) ?_
      refine JT.y rfl (Ev.Lw rfl rfl) ?_
      refine JT.gT rfl (by first | assumption | omega) ?_
      refine JT.y rfl (Ev.eqs rfl rfl (by repeat (first | exact EqC.nil | apply EqC.i | apply EqC.b | apply EqC.s))) ?_
      refine JT.y rfl (Ev.pickTp rfl (by first | assumption | omega) rfl) ?_
      refine JT.c rfl ?_
      refine JT.gp rfl (fun h7 => ?_) (fun h7 => ?_)
      refine JT.c rfl ?_
      refine JT.gT rfl (by first | assumption | omega) ?_
      refine JT.c rfl ?_
      refine JT.gT rfl (by first | assumption | omega) ?_
      refine JT.c rfl ?_
      refine JT.gT rfl (by first | assumption | omega) ?_
      refine JT.y rfl (Ev.iC rfl rfl (by omega)) ?_
      refine JT.gT rfl (by first | assumption | omega) ?_
      refine JT.y rfl (Ev.fe rfl) ?_
      refine JT.gT rfl (by first | assumption | omega) ?_
      refine JT.y rfl (Ev.LEp (us := [_, _]) rfl (by omega) (by decide) rfl) ?_
      refine JT.gT rfl (by first | assumption | omega) ?_
      refine JT.callD rfl rfl (Up.of (Imp.refl _)) (r7has_fn _) ?_
      refine JT.gT rfl (by first | assumption | omega) ?_
      refine JT.c rfl ?_
      refine JT.y rfl (Ev.pickTp rfl (by first | assumption | omega) rfl) ?_
      refine JT.done ?_
      refine J.c rfl (fun h8 => ?_) (fun h8 => ?_)
      refine J.so ?_
      refine JT.c rfl ?_
      refine JT.done ?_
      refine J.ret ?_
      refine blockQ_r ?_
      iterate 2 refine seqQ_r ?_
      iterate 2 refine blockQ_r ?_
      iterate 2 refine seqQ_r ?_
      refine blockQ_r ?_
      refine seqQ_r ?_
      refine retQD (.t rfl .nil) ?_ (Up.of (.dropT (Imp.refl _)))
      rotate_left
      refine J.skip ?_
      refine blockQ_n ?_
      refine seqQ_n ?_
      refine J.ops ?_
      refine JT.c rfl ?_
      refine JT.y rfl (Ev.addN rfl rfl (by omega)) ?_
      refine JT.c rfl ?_
      refine JT.done ?_
      refine seqQ_n ?_
      refine ⟨_, ?_, (by omega), (subx_cons rfl (subx_dup rfl (subx_cons rfl (subx_cons rfl (subx_cons rfl (subx_cons rfl (subx_cons rfl (subx_cons rfl (subx_cons rfl (subx_cons rfl (subx_cons rfl (subx_cons rfl (subx_cons rfl (subx_cons rfl (subx_cons rfl (subx_cons rfl (subx_cons rfl (subx_cons rfl (subx_cons rfl (subx_cons rfl (subx_cons rfl (subx_dup rfl (subx_cons rfl (subx_cons rfl (subx_cons rfl (subx_cons rfl (subx_cons rfl subx_nil))))))))))))))))))))))))))), (Up.of (.take .here (Imp.refl _)))⟩
      rotate_left
      iterate 7 refine JT.gTs rfl (by first | assumption | omega) ?_
      refine JT.y rfl (Ev.pickFp rfl (by first | assumption | omega) rfl) ?_
      refine JT.done ?_
      refine J.condF rfl ?_
      refine J.skip ?_
      refine blockQ_n ?_
      refine seqQ_n ?_
      refine J.ops ?_
      refine JT.c rfl ?_
      refine JT.y rfl (Ev.addN rfl rfl (by omega)) ?_
      refine JT.c rfl ?_
      refine JT.done ?_
      refine seqQ_n ?_
      refine ⟨_, ?_, (by omega), (subx_cons rfl (subx_dup rfl (subx_cons rfl (subx_cons rfl (subx_cons rfl (subx_cons rfl (subx_cons rfl (subx_cons rfl (subx_cons rfl (subx_cons rfl (subx_cons rfl (subx_cons rfl (subx_cons rfl (subx_cons rfl (subx_cons rfl (subx_cons rfl (subx_cons rfl (subx_cons rfl (subx_cons rfl (subx_cons rfl (subx_cons rfl (subx_dup rfl (subx_cons rfl (subx_cons rfl (subx_cons rfl (subx_cons rfl (subx_cons rfl subx_nil))))))))))))))))))))))))))), (Up.of (.take .here (Imp.refl _)))⟩
      rotate_left
      iterate 6 refine JT.gTs rfl (by first | assumption | omega) ?_
      refine JT.y rfl (Ev.pickFp rfl (by first | assumption | omega) rfl) ?_
      refine JT.c rfl ?_
      iterate 8 refine JT.skip rfl rfl ?_
      refine JT.y rfl (Ev.pickF rfl rfl) ?_
      refine JT.done ?_
      refine J.condF rfl ?_
      refine J.skip ?_
      refine blockQ_n ?_
      refine seqQ_n ?_
      refine J.ops ?_
      refine JT.c rfl ?_
      refine JT.y rfl (Ev.addN rfl rfl (by omega)) ?_
      refine JT.c rfl ?_
      refine JT.done ?_
      refine seqQ_n ?_
      refine ⟨_, ?_, (by omega), (subx_cons rfl (subx_dup rfl (subx_cons rfl (subx_cons rfl (subx_cons rfl (subx_cons rfl (subx_cons rfl (subx_cons rfl (subx_cons rfl (subx_cons rfl (subx_cons rfl (subx_cons rfl (subx_cons rfl (subx_cons rfl (subx_cons rfl (subx_cons rfl (subx_cons rfl (subx_cons rfl (subx_cons rfl (subx_cons rfl (subx_cons rfl (subx_dup rfl (subx_cons rfl (subx_cons rfl (subx_cons rfl (subx_cons rfl (subx_cons rfl subx_nil))))))))))))))))))))))))))), (Up.of (.take .here (Imp.refl _)))⟩
      rotate_left
      iterate 10 refine JT.gTs rfl (by first | assumption | omega) ?_
      refine JT.y rfl (Ev.pickFp rfl (by first | assumption | omega) rfl) ?_
      refine JT.c rfl ?_
      iterate 7 refine JT.skip rfl rfl ?_
      refine JT.y rfl (Ev.pickF rfl rfl) ?_
      refine JT.c rfl ?_
      iterate 8 refine JT.skip rfl rfl ?_
      refine JT.y rfl (Ev.pickF rfl rfl) ?_
      refine JT.done ?_
      refine J.condF rfl ?_
      refine J.skip ?_
      refine blockQ_n ?_
      refine seqQ_n ?_
      refine J.ops ?_
      refine JT.c rfl ?_
      refine JT.y rfl (Ev.addN rfl rfl (by omega)) ?_
      refine JT.c rfl ?_
      refine JT.done ?_
      refine seqQ_n ?_
      refine ⟨_, ?_, (by omega), (subx_cons rfl (subx_dup rfl (subx_cons rfl (subx_cons rfl (subx_cons rfl (subx_cons rfl (subx_cons rfl (subx_cons rfl (subx_cons rfl (subx_cons rfl (subx_cons rfl (subx_cons rfl (subx_cons rfl (subx_cons rfl (subx_cons rfl (subx_cons rfl (subx_cons rfl (subx_cons rfl (subx_cons rfl (subx_cons rfl (subx_cons rfl (subx_dup rfl (subx_cons rfl (subx_cons rfl (subx_cons rfl (subx_cons rfl (subx_cons rfl subx_nil))))))))))))))))))))))))))), (Up.of (.take .here (Imp.refl _)))⟩
      rotate_left
      refine J.exit ?_
      iterate 2 refine seqQ_x ?_
      refine blockQ_hit ?_
      refine blockQ_n ?_
      refine seqQ_n ?_
      refine J.ops ?_
      refine JT.c rfl ?_
      refine JT.y rfl (Ev.addN rfl rfl (by omega)) ?_
      refine JT.c rfl ?_
      refine JT.done ?_
      refine seqQ_n ?_
      refine ⟨_, ?_, (by omega), (subx_cons rfl (subx_dup rfl (subx_cons rfl (subx_cons rfl (subx_cons rfl (subx_cons rfl (subx_cons rfl subx_nil))))))), (Up.of (.take .here (Imp.refl _)))⟩
      rotate_left
    · simp only [mkRet]; rw [rdy_no (k := k) (i := j) (by omega) (by omega) h2 h3 h5 h6 h7 h8]
    · exact ⟨by omega, all_lt_succ hm (fun _ _ _ => h8)⟩
    · exact ⟨by omega, all_lt_succ hm (fun _ _ e => absurd h7 e)⟩
    · exact ⟨by omega, all_lt_succ hm (fun _ e => absurd e h6)⟩
    · exact ⟨by omega, all_lt_succ hm (fun e => by rw [h5] at e; cases e)⟩
    · exact ⟨by omega, all_lt_succ hn (fun _ _ => all_nth.2 fun i hi => hm i (by omega))⟩
  · exact ⟨by omega, all_lt_succ hn (fun e => absurd e h2)⟩
  · rw [rdy_true.2 (all_nth.2 fun j hj => hn j (by omega))]; rfl

theorem oput_len (l : List Owner) (o : Owner) : (oput l o).length ≤ l.length + 1 := by
  induction l with
  | nil => simp [oput]
  | cons x r ih => unfold oput; split <;> (try split) <;> simp <;> omega
theorem foldl_oput_len (xs acc : List Owner) : (xs.foldl oput acc).length ≤ acc.length + xs.length := by
  induction xs generalizing acc with
  | nil => simp
  | cons x r ih => have := ih (oput acc x); have := oput_len acc x; simp only [List.foldl_cons, List.length_cons]; omega
def allsK (xs : List Cl) (k : Nat) : List Owner := alls (xs.take k)
theorem allsK_0 (xs : List Cl) : allsK xs 0 = [] := rfl
theorem allsK_end (xs : List Cl) : allsK xs xs.length = alls xs := by unfold allsK; rw [List.take_length]
theorem take_succ_nth {α : Type} [Inhabited α] {xs : List α} {k : Nat} (h : k < xs.length) : xs.take (k + 1) = xs.take k ++ [nth xs k] := by
  rw [nth_eq h, List.take_add_one, List.getElem?_eq_getElem h]; rfl
theorem allsK_succ {xs : List Cl} {k : Nat} (h : k < xs.length) : allsK xs (k + 1) = oput (allsK xs k) (nth xs k).o := by
  unfold allsK alls; rw [take_succ_nth h]; simp
theorem allsK_len (xs : List Cl) (k : Nat) : (allsK xs k).length ≤ xs.length := by
  have := foldl_oput_len ((xs.take k).map (·.o)) []
  unfold allsK alls; simp only [List.length_map, List.length_take, List.length_nil] at this ⊢; omega

theorem r7put_fn (xs : List Owner) (a : Option Addr) (c : Nat) (o : Owner) (F : List Assn) (hS : xs.length ≤ 8388608) : Meets Try.prog 72 [.slice a xs.length c, ov o] (SlT true ownerC 2 (.slice a xs.length c) c xs :: F)
    (Some' (fun x : Option Addr × Nat => True) (fun x => .slice x.1 (oput xs o).length x.2) (fun x => SlT true ownerC 2 (.slice x.1 (oput xs o).length x.2) x.2 (oput xs o) :: F)) := by
  refine Meets.intro b72 k72 (by simp) ?_
  refine J.slF Has.here (fun hC hL _ => ?_)
  focus
    refine J.so ?_
    refine JT.box rfl (fun b3 => ?_)
    refine JT.c rfl ?_
    refine JT.done ?_
    refine J.so ?_
    refine JT.c rfl ?_
    refine JT.done ?_
    refine J.seq ?_
    refine J.block ?_
  refine J.lp (ι := Nat) (fun k => k ≤ xs.length ∧ ∀ j, j < k → olt (nth xs j) o) (fun k => [(5, i64 k)]) (fun _ => pc b3 29 (ownerC o) :: SlT true ownerC 2 (.slice a xs.length c) c xs :: F) (fun k => xs.length - k) 0 ⟨by omega, fun j hj => by omega⟩ (by (repeat (first | exact subx_nil | apply subx_dup rfl | apply subx_cons rfl))) (Up.refl _) (fun k hk => ?_)
  obtain ⟨hk, hn⟩ := hk
  focus
    refine J.seq ?_
    refine J.so ?_
    iterate 3 refine JT.c rfl ?_
    refine JT.y rfl (Ev.int rfl rfl rfl) ?_
    refine JT.c rfl ?_
    refine JT.gp rfl (fun h1 => ?_) (fun h1 => ?_)
    refine JT.c rfl ?_
    refine JT.gT rfl (by first | assumption | omega) ?_
    refine JT.c rfl ?_
    refine JT.gT rfl (by first | assumption | omega) ?_
    refine JT.y rfl (Ev.iC rfl rfl (by omega)) ?_
    refine JT.gT rfl (by first | assumption | omega) ?_
    refine JT.y rfl (Ev.LE rfl (by omega)) ?_
    refine JT.gT rfl (by first | assumption | omega) ?_
    refine JT.y rfl (Ev.Lw rfl rfl) ?_
    refine JT.gT rfl (by first | assumption | omega) ?_
    refine JT.callD rfl rfl (Up.of (Imp.refl _)) (r7Less_fn _ _ _) ?_
    refine JT.y rfl (Ev.pickTp rfl (by first | assumption | omega) rfl) ?_
    refine JT.done ?_
    refine J.c rfl (fun h2 => ?_) (fun h2 => ?_)
    refine J.skip ?_
    refine seqQ_n ?_
    refine J.block ?_
    refine J.ops ?_
    refine JT.c rfl ?_
    refine JT.y rfl (Ev.addN rfl rfl (by omega)) ?_
    refine JT.c rfl ?_
    refine JT.done ?_
    refine blockQ_n ?_
    refine seqQ_n ?_
    refine ⟨_, ?_, (by omega), (subx_cons rfl (subx_dup rfl (subx_cons rfl (subx_cons rfl (subx_cons rfl (subx_cons rfl subx_nil)))))), (Up.of (.take .here (.take .here (Imp.refl _))))⟩
    rotate_left
    refine J.exit ?_
    iterate 2 refine seqQ_x ?_
    refine blockQ_hit ?_
    refine seqQ_n ?_
    refine J.seq ?_
    refine J.so ?_
    iterate 3 refine JT.c rfl ?_
    refine JT.y rfl (Ev.cltT rfl rfl (by omega)) ?_
    refine JT.c rfl ?_
    refine JT.gk rfl ?_
    refine JT.c rfl ?_
    refine JT.gk rfl ?_
    refine JT.c rfl ?_
    refine JT.gk rfl ?_
    refine JT.y rfl (Ev.iC rfl rfl (by omega)) ?_
    refine JT.gk rfl ?_
    refine JT.y rfl (Ev.LE rfl (by omega)) ?_
    refine JT.gk rfl ?_
    refine JT.y rfl (Ev.Lw rfl rfl) ?_
    refine JT.gk rfl ?_
    refine JT.y rfl (Ev.eqT rfl rfl) ?_
    refine JT.y rfl (Ev.pickT rfl rfl) ?_
    refine JT.done ?_
    refine J.c rfl (fun h3 => ?_) (fun h3 => ?_)
    refine J.so ?_
    iterate 2 refine JT.c rfl ?_
    refine JT.done ?_
    refine J.ret ?_
    refine seqQ_r ?_
    rotate_left
    refine J.skip ?_
    refine seqQ_n ?_
    refine J.so ?_
    iterate 2 refine JT.c rfl ?_
    refine JT.V rfl (by first | exact Bd.no | exact Bd.c rfl | exact Bd.si rfl (by omega)) (by first | exact Bd.no | exact Bd.c rfl | exact Bd.si rfl (by omega)) (by first | exact Bd.no | exact Bd.c rfl | exact Bd.si rfl (by omega)) (by decide) (by (try simp only [List.length_nil, List.length_cons, List.length_append, List.length_take, List.length_drop, List.length_set]); omega) (by (try simp only [List.length_nil, List.length_cons, List.length_append, List.length_take, List.length_drop, List.length_set]); omega) (by (try simp only [List.length_nil, List.length_cons, List.length_append, List.length_take, List.length_drop, List.length_set]); omega) (by (try simp only [List.length_nil, List.length_cons, List.length_append, List.length_take, List.length_drop, List.length_set]); omega) (fun a36 => ?_)
    refine JT.y rfl (Ev.Lw rfl rfl) ?_
    iterate 2 refine JT.c rfl ?_
    refine JT.V rfl (by first | exact Bd.no | exact Bd.c rfl | exact Bd.si rfl (by omega)) (by first | exact Bd.no | exact Bd.c rfl | exact Bd.si rfl (by omega)) (by first | exact Bd.no | exact Bd.c rfl | exact Bd.si rfl (by omega)) (by decide) (by (try simp only [List.length_nil, List.length_cons, List.length_append, List.length_take, List.length_drop, List.length_set]); omega) (by (try simp only [List.length_nil, List.length_cons, List.length_append, List.length_take, List.length_drop, List.length_set]); omega) (by (try simp only [List.length_nil, List.length_cons, List.length_append, List.length_take, List.length_drop, List.length_set]); omega) (by (try simp only [List.length_nil, List.length_cons, List.length_append, List.length_take, List.length_drop, List.length_set]); omega) (fun a43 => ?_)
    refine JT.both ?_ ?_
    refine JT.b0 (fun a33 => ?_)
    refine JT.both ?_ ?_
    (refine JT.A3 rfl rfl rfl (by decide) (by (try simp only [List.length_nil, List.length_cons, List.length_append, List.length_take, List.length_drop, List.length_set]); omega) (fun a37 c37 hc37 => ?_))
    refine JT.yA rfl (Ev.Lw rfl rfl) ?_
    refine JT.bsl1 (by repeat (first | exact Cells.nil | apply Cells.z | (apply Cells.cl; rfl; rfl; rfl))) (by simp only [List.length_cons, List.length_nil, Nat.reduceAdd]; rfl) (by decide) (by rfl) (fun a39 => ?_)
    (refine JT.A1 rfl rfl (by rfl) rfl (by decide) (by (try simp only [List.length_nil, List.length_cons, List.length_append, List.length_take, List.length_drop, List.length_set]); omega) (fun a40 c40 hc40 => ?_))
    (refine JT.A3 rfl rfl rfl (by decide) (by (try simp only [List.length_nil, List.length_cons, List.length_append, List.length_take, List.length_drop, List.length_set]); omega) (fun a44 c44 hc44 => ?_))
    refine JT.c rfl ?_
    refine JT.done ?_
    refine J.ret ?_
    rotate_left
    refine JT.bsl1 (by repeat (first | exact Cells.nil | apply Cells.z | (apply Cells.cl; rfl; rfl; rfl))) (by simp only [List.length_cons, List.length_nil, Nat.reduceAdd]; rfl) (by decide) (by rfl) (fun a39 => ?_)
    (refine JT.A3 rfl rfl rfl (by decide) (by (try simp only [List.length_nil, List.length_cons, List.length_append, List.length_take, List.length_drop, List.length_set]); omega) (fun a37 c37 hc37 => ?_))
    refine JT.yA rfl (Ev.Lw rfl rfl) ?_
    (refine JT.A1 rfl rfl (by rfl) rfl (by decide) (by (try simp only [List.length_nil, List.length_cons, List.length_append, List.length_take, List.length_drop, List.length_set]); omega) (fun a40 c40 hc40 => ?_))
    (refine JT.A3 rfl rfl rfl (by decide) (by (try simp only [List.length_nil, List.length_cons, List.length_append, List.length_take, List.length_drop, List.length_set]); omega) (fun a44 c44 hc44 => ?_))
    refine JT.c rfl ?_
    refine JT.done ?_
    refine J.ret ?_
    rotate_left
    refine JT.bsl1 (by repeat (first | exact Cells.nil | apply Cells.z | (apply Cells.cl; rfl; rfl; rfl))) (by simp only [List.length_cons, List.length_nil, Nat.reduceAdd]; rfl) (by decide) (by rfl) (fun a39 => ?_)
    refine JT.b0 (fun a33 => ?_)
    (refine JT.A3 rfl rfl rfl (by decide) (by (try simp only [List.length_nil, List.length_cons, List.length_append, List.length_take, List.length_drop, List.length_set]); omega) (fun a37 c37 hc37 => ?_))
    refine JT.yA rfl (Ev.Lw rfl rfl) ?_
    (refine JT.A1 rfl rfl (by rfl) rfl (by decide) (by (try simp only [List.length_nil, List.length_cons, List.length_append, List.length_take, List.length_drop, List.length_set]); omega) (fun a40 c40 hc40 => ?_))
    (refine JT.A3 rfl rfl rfl (by decide) (by (try simp only [List.length_nil, List.length_cons, List.length_append, List.length_take, List.length_drop, List.length_set]); omega) (fun a44 c44 hc44 => ?_))
    refine JT.c rfl ?_
    refine JT.done ?_
    refine J.ret ?_
    rotate_left
    iterate 5 refine JT.gTs rfl (by first | assumption | omega) ?_
    refine JT.y rfl (Ev.pickFp rfl (by first | assumption | omega) rfl) ?_
    refine JT.done ?_
    refine J.condF rfl ?_
    refine J.exit ?_
    iterate 2 refine seqQ_x ?_
    refine blockQ_hit ?_
    refine seqQ_n ?_
    refine J.seq ?_
    refine J.so ?_
    iterate 3 refine JT.c rfl ?_
    refine JT.y rfl (Ev.cltF rfl rfl (by omega)) ?_
    refine JT.c rfl ?_
    iterate 6 refine JT.skip rfl rfl ?_
    refine JT.y rfl (Ev.pickF rfl rfl) ?_
    refine JT.done ?_
    refine J.condF rfl ?_
    refine J.skip ?_
    refine seqQ_n ?_
    refine J.so ?_
    iterate 2 refine JT.c rfl ?_
    refine JT.V rfl (by first | exact Bd.no | exact Bd.c rfl | exact Bd.si rfl (by omega)) (by first | exact Bd.no | exact Bd.c rfl | exact Bd.si rfl (by omega)) (by first | exact Bd.no | exact Bd.c rfl | exact Bd.si rfl (by omega)) (by decide) (by (try simp only [List.length_nil, List.length_cons, List.length_append, List.length_take, List.length_drop, List.length_set]); omega) (by (try simp only [List.length_nil, List.length_cons, List.length_append, List.length_take, List.length_drop, List.length_set]); omega) (by (try simp only [List.length_nil, List.length_cons, List.length_append, List.length_take, List.length_drop, List.length_set]); omega) (by (try simp only [List.length_nil, List.length_cons, List.length_append, List.length_take, List.length_drop, List.length_set]); omega) (fun a36 => ?_)
    refine JT.y rfl (Ev.Lw rfl rfl) ?_
    iterate 2 refine JT.c rfl ?_
    refine JT.V rfl (by first | exact Bd.no | exact Bd.c rfl | exact Bd.si rfl (by omega)) (by first | exact Bd.no | exact Bd.c rfl | exact Bd.si rfl (by omega)) (by first | exact Bd.no | exact Bd.c rfl | exact Bd.si rfl (by omega)) (by decide) (by (try simp only [List.length_nil, List.length_cons, List.length_append, List.length_take, List.length_drop, List.length_set]); omega) (by (try simp only [List.length_nil, List.length_cons, List.length_append, List.length_take, List.length_drop, List.length_set]); omega) (by (try simp only [List.length_nil, List.length_cons, List.length_append, List.length_take, List.length_drop, List.length_set]); omega) (by (try simp only [List.length_nil, List.length_cons, List.length_append, List.length_take, List.length_drop, List.length_set]); omega) (fun a43 => ?_)
    refine JT.both ?_ ?_
    refine JT.b0 (fun a33 => ?_)
    refine JT.both ?_ ?_
    (refine JT.A3 rfl rfl rfl (by decide) (by (try simp only [List.length_nil, List.length_cons, List.length_append, List.length_take, List.length_drop, List.length_set]); omega) (fun a37 c37 hc37 => ?_))
    refine JT.yA rfl (Ev.Lw rfl rfl) ?_
    refine JT.bsl1 (by repeat (first | exact Cells.nil | apply Cells.z | (apply Cells.cl; rfl; rfl; rfl))) (by simp only [List.length_cons, List.length_nil, Nat.reduceAdd]; rfl) (by decide) (by rfl) (fun a39 => ?_)
    (refine JT.A1 rfl rfl (by rfl) rfl (by decide) (by (try simp only [List.length_nil, List.length_cons, List.length_append, List.length_take, List.length_drop, List.length_set]); omega) (fun a40 c40 hc40 => ?_))
    (refine JT.A3 rfl rfl rfl (by decide) (by (try simp only [List.length_nil, List.length_cons, List.length_append, List.length_take, List.length_drop, List.length_set]); omega) (fun a44 c44 hc44 => ?_))
    refine JT.c rfl ?_
    refine JT.done ?_
    refine J.ret ?_
    rotate_left
    refine JT.bsl1 (by repeat (first | exact Cells.nil | apply Cells.z | (apply Cells.cl; rfl; rfl; rfl))) (by simp only [List.length_cons, List.length_nil, Nat.reduceAdd]; rfl) (by decide) (by rfl) (fun a39 => ?_)
    (refine JT.A3 rfl rfl rfl (by decide) (by (try simp only [List.length_nil, List.length_cons, List.length_append, List.length_take, List.length_drop, List.length_set]); omega) (fun a37 c37 hc37 => ?_))
    refine JT.yA rfl (Ev.Lw rfl rfl) ?_
    (refine JT.A1 rfl rfl (by rfl) rfl (by decide) (by (try simp only [List.length_nil, List.length_cons, List.length_append, List.length_take, List.length_drop, List.length_set]); omega) (fun a40 c40 hc40 => ?_))
    (refine JT.A3 rfl rfl rfl (by decide) (by (try simp only [List.length_nil, List.length_cons, List.length_append, List.length_take, List.length_drop, List.length_set]); omega) (fun a44 c44 hc44 => ?_))
    refine JT.c rfl ?_
    refine JT.done ?_
    refine J.ret ?_
    rotate_left
    refine JT.bsl1 (by repeat (first | exact Cells.nil | apply Cells.z | (apply Cells.cl; rfl; rfl; rfl))) (by simp only [List.length_cons, List.length_nil, Nat.reduceAdd]; rfl) (by decide) (by rfl) (fun a39 => ?_)
    refine JT.b0 (fun a33 => ?_)
    (refine JT.A3 rfl rfl rfl (by decide) (by (try simp only [List.length_nil, List.length_cons, List.length_append, List.length_take, List.length_drop, List.length_set]); omega) (fun a37 c37 hc37 => ?_))
    refine JT.yA rfl (Ev.Lw rfl rfl) ?_
    (refine JT.A1 rfl rfl (by rfl) rfl (by decide) (by (try simp only [List.length_nil, List.length_cons, List.length_append, List.length_take, List.length_drop, List.length_set]); omega) (fun a40 c40 hc40 => ?_))
    (refine JT.A3 rfl rfl rfl (by decide) (by (try simp only [List.length_nil, List.length_cons, List.length_append, List.length_take, List.length_drop, List.length_set]); omega) (fun a44 c44 hc44 => ?_))
    refine JT.c rfl ?_
    refine JT.done ?_
    refine J.ret ?_
    rotate_left
  · exact ⟨by omega, all_lt_succ hn (by assumption)⟩
  · rw [oput_at hk hn (fun _ => by assumption), if_pos ⟨by omega, by assumption⟩]
    focus
      refine retQS ⟨_, _⟩ (.t rfl .nil) trivial rfl (Up.of (.take (.there .here) (.dropT (Imp.refl _))))
  all_goals
    have e : oput xs o = ([] ++ List.drop 0 (List.take k xs) ++ [o] ++ List.drop k (List.take xs.length xs)) := by
      rw [oput_at hk hn (fun h => by first | assumption | omega), if_neg (fun h => by first | exact h3 h.2 | omega)]; simp
    rw [e]
  focus
    refine retQS ⟨_, _⟩ (.t rfl .nil) trivial rfl (Up.of (.take .here (.dropT (.dropT (.dropT (.dropT (.dropT (Imp.refl _))))))))
  focus
    refine retQS ⟨_, _⟩ (.t rfl .nil) trivial rfl (Up.of (.take .here (.dropT (.dropT (.dropT (.dropT (.dropT (Imp.refl _))))))))
  focus
    refine retQS ⟨_, _⟩ (.t rfl .nil) trivial rfl (Up.of (.take .here (.dropT (.dropT (.dropT (.dropT (.dropT (Imp.refl _))))))))
  focus
    refine retQS ⟨_, _⟩ (.t rfl .nil) trivial rfl (Up.of (.take .here (.dropT (.dropT (.dropT (.dropT (.dropT (Imp.refl _))))))))
  focus
    refine retQS ⟨_, _⟩ (.t rfl .nil) trivial rfl (Up.of (.take .here (.dropT (.dropT (.dropT (.dropT (.dropT (Imp.refl _))))))))
  focus
    refine retQS ⟨_, _⟩ (.t rfl .nil) trivial rfl (Up.of (.take .here (.dropT (.dropT (.dropT (.dropT (.dropT (Imp.refl _))))))))

theorem r7put_k {xs : List Cl} {k : Nat} (a : Option Addr) (c : Nat) (F : List Assn) (h : (k : Int) < xs.length) (hS : xs.length ≤ 4096) : Meets Try.prog 72 [.slice a (allsK xs k).length c, ov (nth xs k).o] (SlT true ownerC 2 (.slice a (allsK xs k).length c) c (allsK xs k) :: F)
    (Some' (fun x : Option Addr × Nat => True) (fun x => .slice x.1 (allsK xs (k + 1)).length x.2) (fun x => SlT true ownerC 2 (.slice x.1 (allsK xs (k + 1)).length x.2) x.2 (allsK xs (k + 1)) :: F)) := by
  rw [allsK_succ (by omega)]
  exact r7put_fn _ a c _ F (Nat.le_trans (allsK_len xs k) (by omega))

theorem r7Stuck_no {a1 : Option Addr} {c1 : Nat} {xs : List Cl} {F : List Assn} [Hs : HS F (.slice a1 xs.length c1) Cl clC 4 c1 xs] (hS : xs.length ≤ 4096) (hb : ¬ ∀ j, j < xs.length → okO (nth xs j).o) :
    Meets Try.prog 36 [.slice a1 xs.length c1] F (Det (.tuple #[.slice none 0 0, i64 70]) F) := by
  refine Meets.intro b36 k36 (by simp) ?_
  focus
    refine J.so ?_
    iterate 2 refine JT.c rfl ?_
    refine JT.done ?_
    refine J.seq ?_
    refine J.so ?_
    iterate 2 refine JT.c rfl ?_
    refine JT.y rfl (Ev.cgtF rfl rfl (by omega)) ?_
    refine JT.done ?_
    refine J.condF rfl ?_
    refine J.skip ?_
    refine seqQ_n ?_
    refine J.so ?_
    iterate 2 refine JT.c rfl ?_
    refine JT.done ?_
    refine J.seq ?_
    refine J.so ?_
    refine JT.c rfl ?_
    refine JT.done ?_
    refine J.block ?_
  refine J.lp (ι := Nat × Option Addr × Nat) (fun i => i.1 ≤ xs.length ∧ ∀ j, j < i.1 → okO (nth xs j).o) (fun i => [(5, .slice i.2.1 (allsK xs i.1).length i.2.2), (7, i64 (i.1 : Int))])
    (fun i => SlT true ownerC 2 (.slice i.2.1 (allsK xs i.1).length i.2.2) i.2.2 (allsK xs i.1) :: F) (fun i => xs.length - i.1) (0, none, 0) ⟨by simp, fun j hj => by simp at hj⟩ (by (repeat (first | exact subx_nil | apply subx_dup rfl | apply subx_cons rfl))) (Up.nilS (enc := ownerC) (sz := 2) true (by decide) (by (first | (refine Up.of ?_; (repeat (first | exact Imp.refl _ | (apply Imp.take; (· (repeat (first | exact Has.here | assumption | apply Has.there)))) | fail | apply Imp.dropT | exact Imp.nil _)); done) | (refine Up.frz (by (repeat (first | exact Has.here | assumption | apply Has.there))) ?_; refine Up.of ?_; (repeat (first | exact Imp.refl _ | (apply Imp.take; (· (repeat (first | exact Has.here | assumption | apply Has.there)))) | fail | apply Imp.dropT | exact Imp.nil _)); done)))) (fun i hi => ?_)
  obtain ⟨k, a, c⟩ := i
  obtain ⟨hk, hn⟩ := hi
  simp only at hk hn ⊢
  have hl := allsK_len xs k
  focus
    refine J.seq ?_
    refine J.so ?_
    iterate 3 refine JT.c rfl ?_
    refine JT.y rfl (Ev.int rfl rfl rfl) ?_
    refine JT.done ?_
    refine J.c rfl (fun h1 => ?_) (fun h1 => ?_)
    refine J.skip ?_
    refine seqQ_n ?_
    refine J.seq ?_
    refine J.block ?_
    refine J.seq ?_
    refine J.so ?_
    iterate 2 refine JT.c rfl ?_
    refine JT.y rfl (Ev.iC rfl rfl (by omega)) ?_
    refine JT.y rfl (Ev.fe rfl) ?_
    refine JT.y rfl (Ev.LEp (us := [_, _]) rfl (by omega) (by decide) rfl) ?_
    refine JT.callD rfl rfl (Up.of (Imp.refl _)) (r7IsOwner_fn _ _) ?_
    refine JT.c rfl ?_
    refine JT.done ?_
    refine J.c rfl (fun h2 => ?_) (fun h2 => ?_)
    refine J.so ?_
    iterate 2 refine JT.c rfl ?_
    refine JT.done ?_
    refine J.ret ?_
    refine seqQ_r ?_
    refine blockQ_r ?_
    iterate 2 refine seqQ_r ?_
    refine blockQ_r ?_
    refine seqQ_r ?_
    refine retQD (.t rfl (.t rfl .nil)) rfl (Up.of (.dropT (Imp.refl _)))
    refine J.skip ?_
    refine seqQ_n ?_
    refine J.ops ?_
    iterate 3 refine JT.c rfl ?_
    refine JT.y rfl (Ev.iC rfl rfl (by omega)) ?_
    refine JT.y rfl (Ev.fe rfl) ?_
    refine JT.y rfl (Ev.LEp (us := [_, _]) rfl (by omega) (by decide) rfl) ?_
    refine JT.callS rfl rfl (Up.of (.take .here (Imp.refl _))) (r7put_k _ _ _ (by first | assumption | omega | decide | exact rfl) (by first | assumption | omega | decide | exact rfl)) (fun ⟨a47, c47⟩ _ => ?_)
    refine JT.c rfl ?_
    refine JT.done ?_
    refine blockQ_n ?_
    refine seqQ_n ?_
    refine J.ops ?_
    refine JT.c rfl ?_
    refine JT.y rfl (Ev.addN rfl rfl (by omega)) ?_
    refine JT.c rfl ?_
    refine JT.done ?_
    refine seqQ_n ?_
    refine ⟨⟨_, ⟨_, _⟩⟩, ?_, (by omega), (subx_cons rfl (subx_cons rfl (subx_dup rfl (subx_cons rfl (subx_dup rfl (subx_cons rfl (subx_cons rfl (subx_cons rfl (subx_cons rfl (subx_cons rfl (subx_cons rfl subx_nil))))))))))), (Up.of (.take .here (Imp.refl _)))⟩
    rotate_left
    refine J.exit ?_
    iterate 2 refine seqQ_x ?_
    refine blockQ_hit ?_
    refine seqQ_n ?_
    refine J.seq ?_
    refine J.so ?_
    refine JT.c rfl ?_
    refine JT.done ?_
    refine J.block ?_
    rotate_left
  · exact ⟨by simp only; omega, all_lt_succ hn (by assumption)⟩
  · exact absurd (fun j hj => hn j (by omega)) hb

theorem passK_succ {xs : List Cl} {n i : Nat} (h : i < (alls xs).length) : passK xs n (i + 1) = serve1 xs (passK xs n i) (nth (alls xs) i) := by
  unfold passK; rw [take_succ_nth h, List.foldl_append]; rfl
theorem passK_end (xs : List Cl) (n : Nat) : passK xs n (alls xs).length = passes xs (alls xs) (n + 1) := by
  unfold passK; rw [List.take_length]; rfl
theorem outK_succ {xs : List Cl} {i : Nat} (h : i < (alls xs).length) : outK xs (i + 1) = if nth (alls xs) i ∈ SL.served xs (alls xs) then outK xs i else outK xs i ++ [nth (alls xs) i] := by
  unfold outK; rw [take_succ_nth h, List.filter_append]; by_cases e : nth (alls xs) i ∈ SL.served xs (alls xs) <;> simp [e]
theorem outK_end (xs : List Cl) : outK xs (alls xs).length = stuckOf xs := by unfold outK stuckOf; rw [List.take_length]
theorem outK_len (xs : List Cl) (i : Nat) : (outK xs i).length ≤ (alls xs).length := by
  unfold outK; refine Nat.le_trans (List.length_filter_le _ _) ?_; simp; omega

theorem r7Stuck_ok {a1 : Option Addr} {c1 : Nat} {xs : List Cl} {F : List Assn} [Hs : HS F (.slice a1 xs.length c1) Cl clC 4 c1 xs] (hS : xs.length ≤ 4096) (hb : ∀ j, j < xs.length → okO (nth xs j).o) :
    Meets Try.prog 36 [.slice a1 xs.length c1] F (Some' (fun _ : Option Addr × Nat => True) (fun x => .tuple #[.slice x.1 (stuckOf xs).length x.2, i64 0]) (fun x => SlT false ownerC 2 (.slice x.1 (stuckOf xs).length x.2) x.2 (stuckOf xs) :: F)) := by
  refine Meets.intro b36 k36 (by simp) ?_
  focus
    refine J.so ?_
    iterate 2 refine JT.c rfl ?_
    refine JT.done ?_
    refine J.seq ?_
    refine J.so ?_
    iterate 2 refine JT.c rfl ?_
    refine JT.y rfl (Ev.cgtF rfl rfl (by omega)) ?_
    refine JT.done ?_
    refine J.condF rfl ?_
    refine J.skip ?_
    refine seqQ_n ?_
    refine J.so ?_
    iterate 2 refine JT.c rfl ?_
    refine JT.done ?_
    refine J.seq ?_
    refine J.so ?_
    refine JT.c rfl ?_
    refine JT.done ?_
    refine J.block ?_
  refine J.lp (ι := Nat × Option Addr × Nat) (fun i => i.1 ≤ xs.length) (fun i => [(5, .slice i.2.1 (allsK xs i.1).length i.2.2), (7, i64 (i.1 : Int))])
    (fun i => SlT true ownerC 2 (.slice i.2.1 (allsK xs i.1).length i.2.2) i.2.2 (allsK xs i.1) :: F) (fun i => xs.length - i.1) (0, none, 0) (by simp) (by (repeat (first | exact subx_nil | apply subx_dup rfl | apply subx_cons rfl))) (Up.nilS (enc := ownerC) (sz := 2) true (by decide) (by (first | (refine Up.of ?_; (repeat (first | exact Imp.refl _ | (apply Imp.take; (· (repeat (first | exact Has.here | assumption | apply Has.there)))) | fail | apply Imp.dropT | exact Imp.nil _)); done) | (refine Up.frz (by (repeat (first | exact Has.here | assumption | apply Has.there))) ?_; refine Up.of ?_; (repeat (first | exact Imp.refl _ | (apply Imp.take; (· (repeat (first | exact Has.here | assumption | apply Has.there)))) | fail | apply Imp.dropT | exact Imp.nil _)); done)))) (fun i hk => ?_)
  obtain ⟨k, a, c⟩ := i
  simp only at hk ⊢
  have hl := allsK_len xs k
  have hbk := hb k
  focus
    refine J.seq ?_
    refine J.so ?_
    iterate 3 refine JT.c rfl ?_
    refine JT.y rfl (Ev.int rfl rfl rfl) ?_
    refine JT.done ?_
    refine J.c rfl (fun h1 => ?_) (fun h1 => ?_)
    refine J.skip ?_
    refine seqQ_n ?_
    refine J.seq ?_
    refine J.block ?_
    refine J.seq ?_
    refine J.so ?_
    iterate 2 refine JT.c rfl ?_
    refine JT.y rfl (Ev.iC rfl rfl (by omega)) ?_
    refine JT.y rfl (Ev.fe rfl) ?_
    refine JT.y rfl (Ev.LEp (us := [_, _]) rfl (by omega) (by decide) rfl) ?_
    refine JT.callD rfl rfl (Up.of (Imp.refl _)) (r7IsOwner_fn _ _) ?_
    refine JT.c rfl ?_
    refine JT.done ?_
    refine J.c rfl (fun h2 => ?_) (fun h2 => ?_)
    refine J.so ?_
    iterate 2 refine JT.c rfl ?_
    refine JT.done ?_
    refine J.ret ?_
    refine seqQ_r ?_
    refine blockQ_r ?_
    iterate 2 refine seqQ_r ?_
    refine blockQ_r ?_
    refine seqQ_r ?_
    rotate_left
    refine J.skip ?_
    refine seqQ_n ?_
    refine J.ops ?_
    iterate 3 refine JT.c rfl ?_
    refine JT.y rfl (Ev.iC rfl rfl (by omega)) ?_
    refine JT.y rfl (Ev.fe rfl) ?_
    refine JT.y rfl (Ev.LEp (us := [_, _]) rfl (by omega) (by decide) rfl) ?_
    refine JT.callS rfl rfl (Up.of (.take .here (Imp.refl _))) (r7put_k _ _ _ (by first | assumption | omega | decide | exact rfl) (by first | assumption | omega | decide | exact rfl)) (fun ⟨a47, c47⟩ _ => ?_)
    refine JT.c rfl ?_
    refine JT.done ?_
    refine blockQ_n ?_
    refine seqQ_n ?_
    refine J.ops ?_
    refine JT.c rfl ?_
    refine JT.y rfl (Ev.addN rfl rfl (by omega)) ?_
    refine JT.c rfl ?_
    refine JT.done ?_
    refine seqQ_n ?_
    refine ⟨⟨_, ⟨_, _⟩⟩, ?_, (by omega), (subx_cons rfl (subx_cons rfl (subx_dup rfl (subx_cons rfl (subx_dup rfl (subx_cons rfl (subx_cons rfl (subx_cons rfl (subx_cons rfl (subx_cons rfl (subx_cons rfl subx_nil))))))))))), (Up.of (.take .here (Imp.refl _)))⟩
    omega
    refine J.exit ?_
    iterate 2 refine seqQ_x ?_
    refine blockQ_hit ?_
    refine seqQ_n ?_
    refine J.seq ?_
    refine J.so ?_
    refine JT.c rfl ?_
    refine JT.done ?_
    refine J.block ?_
    rotate_left
  · exact absurd (hbk (by omega)) (by assumption)
  obtain rfl : k = xs.length := by omega
  rw [allsK_end] at hl ⊢
  clear hbk hk h1
  refine J.keep [(0, .slice a1 xs.length c1), (5, .slice a (alls xs).length c), (6, .slice none 0 0), (8, i64 0)] (by (repeat (first | exact subx_nil | apply subx_dup rfl | apply subx_cons rfl))) ?_
  refine J.lp (ι := Nat × List Owner × Option Addr × Nat) (fun i => i.1 ≤ (alls xs).length + 1 ∧ i.2.1 = passes xs (alls xs) i.1) (fun i => [(6, .slice i.2.2.1 i.2.1.length i.2.2.2), (8, i64 (i.1 : Int))])
    (fun i => SlT true ownerC 2 (.slice i.2.2.1 i.2.1.length i.2.2.2) i.2.2.2 i.2.1 :: SlT true ownerC 2 (.slice a (alls xs).length c) c (alls xs) :: F) (fun i => (alls xs).length + 1 - i.1) (0, [], none, 0) ⟨by simp, rfl⟩ (by (repeat (first | exact subx_nil | apply subx_dup rfl | apply subx_cons rfl))) (Up.nilS (enc := ownerC) (sz := 2) true (by decide) (by (first | (refine Up.of ?_; (repeat (first | exact Imp.refl _ | (apply Imp.take; (· (repeat (first | exact Has.here | assumption | apply Has.there)))) | fail | apply Imp.dropT | exact Imp.nil _)); done) | (refine Up.frz (by (repeat (first | exact Has.here | assumption | apply Has.there))) ?_; refine Up.of ?_; (repeat (first | exact Imp.refl _ | (apply Imp.take; (· (repeat (first | exact Has.here | assumption | apply Has.there)))) | fail | apply Imp.dropT | exact Imp.nil _)); done)))) (fun i hi => ?_)
  obtain ⟨n, S, a6, c6⟩ := i
  obtain ⟨hn, hS6⟩ := hi
  simp only at hn hS6 ⊢
  focus
    refine J.seq ?_
    refine J.so ?_
    iterate 3 refine JT.c rfl ?_
    refine JT.y rfl (Ev.int rfl rfl rfl) ?_
    refine JT.done ?_
    refine J.c rfl (fun h1 => ?_) (fun h1 => ?_)
    refine J.skip ?_
    refine seqQ_n ?_
    refine J.seq ?_
    refine J.block ?_
    refine J.so ?_
    refine JT.c rfl ?_
    refine JT.done ?_
    refine J.block ?_
    rotate_left
    refine J.exit ?_
    iterate 2 refine seqQ_x ?_
    refine blockQ_hit ?_
    refine seqQ_n ?_
    refine J.so ?_
    refine JT.c rfl ?_
    refine JT.done ?_
    refine J.seq ?_
    refine J.so ?_
    refine JT.c rfl ?_
    refine JT.done ?_
    refine J.block ?_
    rotate_left
  · refine J.lp (ι := Nat × List Owner × Option Addr × Nat) (fun i => i.1 ≤ (alls xs).length ∧ i.2.1 = passK xs n i.1) (fun i => [(6, .slice i.2.2.1 i.2.1.length i.2.2.2), (9, i64 (i.1 : Int))])
      (fun i => SlT true ownerC 2 (.slice i.2.2.1 i.2.1.length i.2.2.2) i.2.2.2 i.2.1 :: SlT true ownerC 2 (.slice a (alls xs).length c) c (alls xs) :: F) (fun i => (alls xs).length - i.1) (0, S, a6, c6) ⟨by simp, hS6⟩ (by (repeat (first | exact subx_nil | apply subx_dup rfl | apply subx_cons rfl))) (by (first | (refine Up.of ?_; (repeat (first | exact Imp.refl _ | (apply Imp.take; (· (repeat (first | exact Has.here | assumption | apply Has.there)))) | fail | apply Imp.dropT | exact Imp.nil _)); done) | (refine Up.frz (by (repeat (first | exact Has.here | assumption | apply Has.there))) ?_; refine Up.of ?_; (repeat (first | exact Imp.refl _ | (apply Imp.take; (· (repeat (first | exact Has.here | assumption | apply Has.there)))) | fail | apply Imp.dropT | exact Imp.nil _)); done))) (fun i hi => ?_)
    obtain ⟨j, S', a7, c7⟩ := i
    obtain ⟨hj, hS7⟩ := hi
    simp only at hj hS7 ⊢
    have hpl : S'.length ≤ (alls xs).length := by rw [hS7]; exact passK_len xs n j
    focus
      refine J.seq ?_
      refine J.so ?_
      iterate 3 refine JT.c rfl ?_
      refine JT.y rfl (Ev.int rfl rfl rfl) ?_
      refine JT.done ?_
      refine J.c rfl (fun h2 => ?_) (fun h2 => ?_)
      refine J.skip ?_
      refine seqQ_n ?_
      refine J.seq ?_
      refine J.block ?_
      refine J.so ?_
      iterate 3 refine JT.c rfl ?_
      refine JT.y rfl (Ev.iC rfl rfl (by omega)) ?_
      refine JT.y rfl (Ev.LE rfl (by omega)) ?_
      refine JT.callD rfl rfl (Up.of (Imp.refl _)) (r7has_fn _) ?_
      iterate 2 refine JT.c rfl ?_
      refine JT.gp rfl (fun h3 => ?_) (fun h3 => ?_)
      refine JT.c rfl ?_
      refine JT.gT rfl (by first | assumption | omega) ?_
      refine JT.c rfl ?_
      refine JT.gT rfl (by first | assumption | omega) ?_
      refine JT.c rfl ?_
      refine JT.gT rfl (by first | assumption | omega) ?_
      refine JT.y rfl (Ev.iC rfl rfl (by omega)) ?_
      refine JT.gT rfl (by first | assumption | omega) ?_
      refine JT.y rfl (Ev.LE rfl (by omega)) ?_
      refine JT.gT rfl (by first | assumption | omega) ?_
      refine JT.c rfl ?_
      refine JT.gT rfl (by first | assumption | omega) ?_
      refine JT.callD rfl rfl (Up.of (Imp.refl _)) (r7free_fn _) ?_
      refine JT.y rfl (Ev.pickTp rfl (by first | assumption | omega) rfl) ?_
      refine JT.done ?_
      refine J.c rfl (fun h4 => ?_) (fun h4 => ?_)
      refine J.ops ?_
      iterate 3 refine JT.c rfl ?_
      refine JT.y rfl (Ev.iC rfl rfl (by omega)) ?_
      refine JT.y rfl (Ev.LE rfl (by omega)) ?_
      refine JT.bsl1 (by repeat (first | exact Cells.nil | apply Cells.z | (apply Cells.cl; rfl; rfl; rfl))) (by simp only [List.length_cons, List.length_nil, Nat.reduceAdd]; rfl) (by decide) (by rfl) (fun a81 => ?_)
      (refine JT.A1 rfl rfl (by rfl) rfl (by decide) (by (try simp only [List.length_nil, List.length_cons, List.length_append, List.length_take, List.length_drop, List.length_set]); omega) (fun a82 c82 hc82 => ?_))
      refine JT.c rfl ?_
      refine JT.done ?_
      refine blockQ_n ?_
      refine seqQ_n ?_
      refine J.ops ?_
      refine JT.c rfl ?_
      refine JT.y rfl (Ev.addN rfl rfl (by omega)) ?_
      refine JT.c rfl ?_
      refine JT.done ?_
      refine seqQ_n ?_
      refine ⟨⟨_, ⟨_, ⟨_, _⟩⟩⟩, ?_, (by omega), (subx_cons rfl (subx_cons rfl (subx_dup rfl (subx_cons rfl (subx_cons rfl (subx_cons rfl (subx_cons rfl (subx_dup rfl (subx_cons rfl (subx_cons rfl (subx_cons rfl (subx_dup rfl (subx_dup rfl subx_nil))))))))))))), (Up.of (.take .here (.take (.there .here) (.dropT (Imp.refl _)))))⟩
      rotate_left
      refine J.skip ?_
      refine blockQ_n ?_
      refine seqQ_n ?_
      refine J.ops ?_
      refine JT.c rfl ?_
      refine JT.y rfl (Ev.addN rfl rfl (by omega)) ?_
      refine JT.c rfl ?_
      refine JT.done ?_
      refine seqQ_n ?_
      refine ⟨⟨_, ⟨_, ⟨_, _⟩⟩⟩, ?_, (by omega), (subx_cons rfl (subx_cons rfl (subx_dup rfl (subx_cons rfl (subx_cons rfl (subx_cons rfl (subx_cons rfl (subx_dup rfl (subx_cons rfl (subx_cons rfl (subx_cons rfl (subx_dup rfl (subx_dup rfl subx_nil))))))))))))), (Up.of (.take .here (.take .here (Imp.refl _))))⟩
      rotate_left
      iterate 6 refine JT.gTs rfl (by first | assumption | omega) ?_
      refine JT.y rfl (Ev.pickFp rfl (by first | assumption | omega) rfl) ?_
      refine JT.done ?_
      refine J.condF rfl ?_
      refine J.skip ?_
      refine blockQ_n ?_
      refine seqQ_n ?_
      refine J.ops ?_
      refine JT.c rfl ?_
      refine JT.y rfl (Ev.addN rfl rfl (by omega)) ?_
      refine JT.c rfl ?_
      refine JT.done ?_
      refine seqQ_n ?_
      refine ⟨⟨_, ⟨_, ⟨_, _⟩⟩⟩, ?_, (by omega), (subx_cons rfl (subx_cons rfl (subx_dup rfl (subx_cons rfl (subx_cons rfl (subx_cons rfl (subx_cons rfl (subx_dup rfl (subx_cons rfl (subx_cons rfl (subx_cons rfl (subx_dup rfl (subx_dup rfl subx_nil))))))))))))), (Up.of (.take .here (.take .here (Imp.refl _))))⟩
      rotate_left
      refine J.exit ?_
      iterate 2 refine seqQ_x ?_
      refine blockQ_hit ?_
      refine blockQ_n ?_
      refine seqQ_n ?_
      refine J.ops ?_
      refine JT.c rfl ?_
      refine JT.y rfl (Ev.addN rfl rfl (by omega)) ?_
      refine JT.c rfl ?_
      refine JT.done ?_
      refine seqQ_n ?_
      refine ⟨⟨_, ⟨_, ⟨_, _⟩⟩⟩, ?_, (by omega), (subx_cons rfl (subx_cons rfl (subx_cons rfl (subx_cons rfl (subx_dup rfl (subx_dup rfl subx_nil)))))), (Up.of (.take .here (.take .here (Imp.refl _))))⟩
      rotate_left
    · refine ⟨by simp only; omega, ?_⟩
      simp only
      rw [passK_succ (by omega), ← hS7, serve1, if_neg (by simp [h3, h4])]
    · refine ⟨by simp only; omega, ?_⟩
      simp only
      rw [passK_succ (by omega), ← hS7, serve1, if_pos (.inr h4)]
    · refine ⟨by simp only; omega, ?_⟩
      simp only
      rw [passK_succ (by omega), ← hS7, serve1, if_pos (.inl h3)]
    · refine ⟨by simp only; omega, ?_⟩
      simp only
      rw [hS7, show j = (alls xs).length by omega, passK_end]
  have e6 : S = SL.served xs (alls xs) := by rw [hS6, show n = (alls xs).length + 1 by omega]; rfl
  refine J.keep [(5, .slice a (alls xs).length c), (6, .slice a6 S.length c6), (10, .slice none 0 0), (11, i64 0)] (by (repeat (first | exact subx_nil | apply subx_dup rfl | apply subx_cons rfl))) ?_
  refine J.lp (ι := Nat × List Owner × Option Addr × Nat) (fun i => i.1 ≤ (alls xs).length ∧ i.2.1 = outK xs i.1) (fun i => [(10, .slice i.2.2.1 i.2.1.length i.2.2.2), (11, i64 (i.1 : Int))])
    (fun i => SlT true ownerC 2 (.slice i.2.2.1 i.2.1.length i.2.2.2) i.2.2.2 i.2.1 :: SlT true ownerC 2 (.slice a6 S.length c6) c6 S :: SlT true ownerC 2 (.slice a (alls xs).length c) c (alls xs) :: F) (fun i => (alls xs).length - i.1) (0, [], none, 0) ⟨by simp, rfl⟩ (by (repeat (first | exact subx_nil | apply subx_dup rfl | apply subx_cons rfl))) (Up.nilS (enc := ownerC) (sz := 2) true (by decide) (by (first | (refine Up.of ?_; (repeat (first | exact Imp.refl _ | (apply Imp.take; (· (repeat (first | exact Has.here | assumption | apply Has.there)))) | fail | apply Imp.dropT | exact Imp.nil _)); done) | (refine Up.frz (by (repeat (first | exact Has.here | assumption | apply Has.there))) ?_; refine Up.of ?_; (repeat (first | exact Imp.refl _ | (apply Imp.take; (· (repeat (first | exact Has.here | assumption | apply Has.there)))) | fail | apply Imp.dropT | exact Imp.nil _)); done)))) (fun i hi => ?_)
  obtain ⟨j, O, a7, c7⟩ := i
  obtain ⟨hj, hO⟩ := hi
  simp only at hj hO ⊢
  have hpl : O.length ≤ (alls xs).length := by rw [hO]; exact outK_len xs j
  focus
    refine J.seq ?_
    refine J.so ?_
    iterate 3 refine JT.c rfl ?_
    refine JT.y rfl (Ev.int rfl rfl rfl) ?_
    refine JT.done ?_
    refine J.c rfl (fun h2 => ?_) (fun h2 => ?_)
    refine J.skip ?_
    refine seqQ_n ?_
    refine J.seq ?_
    refine J.block ?_
    refine J.so ?_
    iterate 3 refine JT.c rfl ?_
    refine JT.y rfl (Ev.iC rfl rfl (by omega)) ?_
    refine JT.y rfl (Ev.LE rfl (by omega)) ?_
    refine JT.callD rfl rfl (Up.of (Imp.refl _)) (r7has_fn _) ?_
    refine JT.c rfl ?_
    refine JT.done ?_
    refine J.c rfl (fun h3 => ?_) (fun h3 => ?_)
    refine J.ops ?_
    iterate 3 refine JT.c rfl ?_
    refine JT.y rfl (Ev.iC rfl rfl (by omega)) ?_
    refine JT.y rfl (Ev.LE rfl (by omega)) ?_
    refine JT.bsl1 (by repeat (first | exact Cells.nil | apply Cells.z | (apply Cells.cl; rfl; rfl; rfl))) (by simp only [List.length_cons, List.length_nil, Nat.reduceAdd]; rfl) (by decide) (by rfl) (fun a101 => ?_)
    (refine JT.A1 rfl rfl (by rfl) rfl (by decide) (by (try simp only [List.length_nil, List.length_cons, List.length_append, List.length_take, List.length_drop, List.length_set]); omega) (fun a102 c102 hc102 => ?_))
    refine JT.c rfl ?_
    refine JT.done ?_
    refine blockQ_n ?_
    refine seqQ_n ?_
    refine J.ops ?_
    refine JT.c rfl ?_
    refine JT.y rfl (Ev.addN rfl rfl (by omega)) ?_
    refine JT.c rfl ?_
    refine JT.done ?_
    refine seqQ_n ?_
    refine ⟨⟨_, ⟨_, ⟨_, _⟩⟩⟩, ?_, (by omega), (subx_cons rfl (subx_cons rfl (subx_cons rfl (subx_cons rfl (subx_dup rfl (subx_dup rfl subx_nil)))))), (Up.of (.take .here (.take (.there .here) (.take (.there .here) (.dropT (Imp.refl _))))))⟩
    rotate_left
    refine J.skip ?_
    refine blockQ_n ?_
    refine seqQ_n ?_
    refine J.ops ?_
    refine JT.c rfl ?_
    refine JT.y rfl (Ev.addN rfl rfl (by omega)) ?_
    refine JT.c rfl ?_
    refine JT.done ?_
    refine seqQ_n ?_
    refine ⟨⟨_, ⟨_, ⟨_, _⟩⟩⟩, ?_, (by omega), (subx_cons rfl (subx_cons rfl (subx_cons rfl (subx_cons rfl (subx_dup rfl (subx_dup rfl subx_nil)))))), (Up.of (.take .here (.take .here (.take .here (Imp.refl _)))))⟩
    rotate_left
    refine J.exit ?_
    iterate 2 refine seqQ_x ?_
    refine blockQ_hit ?_
    refine seqQ_n ?_
    refine J.so ?_
    iterate 3 refine JT.c rfl ?_
    refine JT.done ?_
    refine J.ret ?_
    rotate_left
  · refine ⟨by simp only; omega, ?_⟩
    simp only
    rw [outK_succ (by omega), ← hO, if_neg (by rw [← e6]; assumption)]
  · refine ⟨by simp only; omega, ?_⟩
    simp only
    rw [outK_succ (by omega), ← hO, if_pos (by rw [← e6]; assumption)]
  rw [← outK_end, show (alls xs).length = j by omega, ← hO]
  focus
    refine retQS ⟨_, _⟩ (.t rfl (.t rfl .nil)) trivial rfl (Up.frz .here (Up.of (.take .here (.dropT (.dropT (Imp.refl _))))))
end Go.Proofs.Ytojegknfbgflnaa
