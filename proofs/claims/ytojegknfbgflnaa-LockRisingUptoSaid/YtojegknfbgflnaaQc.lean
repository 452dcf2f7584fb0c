/- Who is stuck: the order of owners, sorted rows, rows without doubles. Conditions: none. -/
import Derived.Test.YtojegknfbgflnaaQb
import Derived.Test.YtojegknfbgflnaaBv
import Derived.Test.YtojegknfbgflnaaKb
import Derived.Test.YtojegknfbgflnaaSlS
import Derived.Test.YtojegknfbgflnaaSlU
set_option linter.unusedSimpArgs false
set_option linter.unusedVariables false
set_option maxRecDepth 100000
set_option maxHeartbeats 2000000
namespace Go.Proofs.Ytojegknfbgflnaa
open Go Go.SL Go.Sort Go.Lib Go.Shelf
attribute [local irreducible] pc rc SlT Me Mt It pt ro pur ex sep old Meets

theorem lkOrder_fn (a b : Owner) (F : List Assn) : Meets Try.prog 69 [ov a, ov b] F (Det (i64 (ocmp a b)) F) := by
  refine Meets.intro b69 k69 (by simp) ?_
  focus
    refine J.so ?_
    refine JT.box rfl (fun b2 => ?_)
    refine JT.box rfl (fun b3 => ?_)
    refine JT.c rfl ?_
    refine JT.done ?_
    refine J.so ?_
    refine JT.y rfl (Ev.fa' 0 rfl rfl) ?_
    refine JT.y rfl (Ev.L rfl rfl) ?_
    refine JT.y rfl (Ev.fa' 0 rfl rfl) ?_
    refine JT.y rfl (Ev.L rfl rfl) ?_
    refine JT.y rfl (Ev.fa' 1 rfl rfl) ?_
    refine JT.y rfl (Ev.L rfl rfl) ?_
    refine JT.y rfl (Ev.fa' 1 rfl rfl) ?_
    refine JT.y rfl (Ev.L rfl rfl) ?_
    refine JT.callD rfl rfl (Up.of (Imp.refl _)) (cmpInt_fn _ _ _) ?_
    iterate 2 refine JT.yA rfl (Ev.L rfl rfl) ?_
    refine JT.callD rfl rfl (Up.of (Imp.refl _)) (cmpInt_fn _ _ _) ?_
    refine JT.bT [_, _] (by repeat (first | exact Cells.nil | apply Cells.z | (apply Cells.cl; rfl; rfl; rfl))) rfl (by decide) (fun a15 => ?_)
    refine JT.callD rfl rfl (Up.of (Imp.refl _)) cmpOr_fn ?_
    refine JT.c rfl ?_
    refine JT.done ?_
    refine J.ret ?_
    refine retQD (.t rfl .nil) rfl (Up.of (.dropT (.dropT (.dropT (Imp.refl _)))))

theorem ltOcmp (x y : Owner) : ltOf ocmp x y = decide (olt x y) := by
  unfold ltOf; exact decide_eq_decide.2 (by rw [ocmp_lt])
theorem swoO : Go.Sort.SWO (ltOf ocmp) where
  irrefl x := by rw [ltOcmp]; simp [olt_irrefl]
  trans x y z h1 h2 := by rw [ltOcmp] at *; simp at *; exact olt_trans h1 h2
  ntrans x y z h1 h2 := by rw [ltOcmp] at *; simp at *; unfold olt at *; omega

shelf_lay_g SlLaysF0.n6 Slsf 6 at Try 68 as sortO

theorem slSortO_fn (xs : List Owner) (a : Option Addr) (c : Nat) (F : List Assn) : Meets Try.prog 68 [.slice a xs.length c, .func (.func 69) #[] #[]] (SlT true ownerC 2 (.slice a xs.length c) c xs :: F)
    (Some' (fun ys : List Owner => ys.Perm xs ∧ ys.Pairwise (fun x y => ¬ ocmp y x < 0)) (fun _ => .tuple #[]) (fun ys => SlT true ownerC 2 (.slice a ys.length c) c ys :: F)) :=
  sort_meets sortO 2 (fun w => by kernel_rfl) (fun w => by kernel_rfl) ownerC_one swoO (g := 69) k69 (cb := []) (CmpFn.of fun x y F => lkOrder_fn x y F) (by kernel_rfl)

theorem dedup_snoc : ∀ (l : List Owner) (y x : Owner), dedup (l ++ [y, x]) = if x = y then dedup (l ++ [y]) else dedup (l ++ [y]) ++ [x]
  | [], y, x => by
    simp only [List.nil_append, dedup]
    by_cases h : y = x <;> simp [h, Ne.symm, eq_comm]
    all_goals (try (have h' : ¬ x = y := fun e => h e.symm)); try simp [h']
  | [a], y, x => by
    have ih := dedup_snoc [] y x
    simp only [List.nil_append, List.cons_append, dedup] at ih ⊢
    by_cases h : a = y
    · simp only [h, if_true]; exact ih
    · simp only [h, if_false]
      rw [ih]; split <;> simp
  | a :: b :: l, y, x => by
    have ih := dedup_snoc (b :: l) y x
    simp only [List.cons_append, dedup] at ih ⊢
    by_cases h : a = b
    · simp only [h, if_true]; exact ih
    · simp only [h, if_false]
      rw [ih]; split <;> simp
theorem dedup_take {xs : List Owner} {n : Nat} (h0 : 0 < n) (h : n < xs.length) : dedup (xs.take (n + 1)) = if nth xs n = nth xs (n - 1) then dedup (xs.take n) else dedup (xs.take n) ++ [nth xs n] := by
  obtain ⟨m, rfl⟩ : ∃ m, n = m + 1 := ⟨n - 1, by omega⟩
  rw [take_succ_nth h, take_succ_nth (k := m) (by omega), List.append_assoc]
  exact dedup_snoc (xs.take m) (nth xs m) (nth xs (m + 1))

theorem nth_view {ys : List Owner} {n k q : Nat} (h : k + q < n) : nth (List.drop k (List.take n ys)) q = nth ys (k + q) := by
  unfold nth; simp [List.getElem?_drop, List.getElem?_take, h]
theorem nth_set_ne {ys : List Owner} {m j : Nat} {v : Owner} (h : m ≠ j) : nth (ys.set m v) j = nth ys j := by
  unfold nth; simp [List.getElem?_set, h]
theorem take_set {ys : List Owner} {m : Nat} {v : Owner} (h : m < ys.length) : (ys.set m v).take (m + 1) = ys.take m ++ [v] := by
  rw [List.set_eq_take_append_cons_drop, if_pos h, List.take_append, List.length_take, Nat.min_eq_left (by omega), List.take_of_length_le (by simp; omega), show m + 1 - m = 1 by omega]; rfl

theorem slCompO_fn (xs : List Owner) (a : Option Addr) (c : Nat) (F : List Assn) : Meets Try.prog 70 [.slice a xs.length c] (SlT true ownerC 2 (.slice a xs.length c) c xs :: F)
    (Some' (fun x : Option Addr × Nat => True) (fun x => .slice x.1 (dedup xs).length x.2) (fun x => SlT true ownerC 2 (.slice x.1 (dedup xs).length x.2) x.2 (dedup xs) :: F)) := by
  refine Meets.intro b70 k70 (by simp) ?_
  refine J.slF Has.here (fun hC hL _ => ?_)
  focus
    refine J.so ?_
    refine JT.c rfl ?_
    refine JT.done ?_
    refine J.seq ?_
    refine J.so ?_
    iterate 2 refine JT.c rfl ?_
    refine JT.y rfl (Ev.int rfl rfl rfl) ?_
    refine JT.done ?_
    refine J.c rfl (fun h1 => ?_) (fun h1 => ?_)
    refine J.so ?_
    iterate 2 refine JT.c rfl ?_
    refine JT.done ?_
    refine J.ret ?_
    refine seqQ_r ?_
    rotate_left
    refine J.skip ?_
    refine seqQ_n ?_
    refine J.seq ?_
    refine J.so ?_
    refine JT.c rfl ?_
    refine JT.done ?_
    refine J.block ?_
    rotate_left
  · have e : dedup xs = xs := by
      rcases xs with _ | ⟨x, _ | ⟨y, r⟩⟩
      · rfl
      · rfl
      · simp at *; omega
    rw [e]
    focus
      refine retQS ⟨_, _⟩ (.t rfl .nil) trivial rfl (Up.of (.take .here (Imp.refl _)))
  refine J.lp (ι := Nat) (fun k => 1 ≤ k ∧ k ≤ xs.length ∧ dedup (xs.take k) = xs.take k) (fun k => [(3, i64 (k : Int))]) (fun _ => SlT true ownerC 2 (.slice a xs.length c) c xs :: F) (fun k => xs.length - k) 1 ⟨by omega, by omega, by rcases xs with _ | ⟨x, r⟩ <;> rfl⟩ (by (repeat (first | exact subx_nil | apply subx_dup rfl | apply subx_cons rfl))) (Up.refl _) (fun k hk => ?_)
  obtain ⟨hk0, hk, hd⟩ := hk
  focus
    refine J.seq ?_
    refine J.so ?_
    iterate 3 refine JT.c rfl ?_
    refine JT.y rfl (Ev.int rfl rfl rfl) ?_
    refine JT.done ?_
    refine J.c rfl (fun h2 => ?_) (fun h2 => ?_)
    refine J.skip ?_
    refine seqQ_n ?_
    refine J.seq ?_
    refine J.block ?_
    refine J.so ?_
    iterate 2 refine JT.c rfl ?_
    refine JT.y rfl (Ev.iC rfl rfl (by omega)) ?_
    refine JT.y rfl (Ev.LE rfl (by omega)) ?_
    iterate 2 refine JT.c rfl ?_
    refine JT.y rfl (Ev.subN rfl rfl (by omega) (by omega)) ?_
    refine JT.y rfl (Ev.iC rfl rfl (by omega)) ?_
    refine JT.y rfl (Ev.LE rfl (by omega)) ?_
    refine JT.y rfl (Ev.eqT rfl rfl) ?_
    refine JT.done ?_
    refine J.c rfl (fun h3 => ?_) (fun h3 => ?_)
    refine J.so ?_
    iterate 2 refine JT.c rfl ?_
    refine JT.V rfl (by first | exact Bd.no | exact Bd.c rfl | exact Bd.si rfl (by omega)) (by first | exact Bd.no | exact Bd.c rfl | exact Bd.si rfl (by omega)) (by first | exact Bd.no | exact Bd.c rfl | exact Bd.si rfl (by omega)) (by decide) (by (try simp only [List.length_nil, List.length_cons, List.length_append, List.length_take, List.length_drop, List.length_set]); omega) (by (try simp only [List.length_nil, List.length_cons, List.length_append, List.length_take, List.length_drop, List.length_set]); omega) (by (try simp only [List.length_nil, List.length_cons, List.length_append, List.length_take, List.length_drop, List.length_set]); omega) (by (try simp only [List.length_nil, List.length_cons, List.length_append, List.length_take, List.length_drop, List.length_set]); omega) (fun a28 => ?_)
    refine JT.c rfl ?_
    refine JT.done ?_
    refine J.seq ?_
    refine J.so ?_
    refine JT.c rfl ?_
    refine JT.done ?_
    refine J.block ?_
    rotate_left
    refine J.skip ?_
    refine blockQ_n ?_
    refine seqQ_n ?_
    refine J.ops ?_
    refine JT.c rfl ?_
    refine JT.y rfl (Ev.addN rfl rfl (by omega)) ?_
    refine JT.c rfl ?_
    refine JT.done ?_
    refine seqQ_n ?_
    refine ⟨_, ?_, (by omega), (subx_cons rfl (subx_dup rfl (subx_cons rfl (subx_cons rfl (subx_cons rfl (subx_cons rfl (subx_cons rfl subx_nil))))))), (Up.of (.take .here (Imp.refl _)))⟩
    rotate_left
    refine J.exit ?_
    iterate 2 refine seqQ_x ?_
    refine blockQ_hit ?_
    refine seqQ_n ?_
    refine J.so ?_
    iterate 2 refine JT.c rfl ?_
    refine JT.done ?_
    refine J.ret ?_
    rotate_left
  · have hkd : dedup (xs.take (k + 1)) = xs.take k := by rw [dedup_take (by omega) (by omega), if_pos h3, hd]
    have hvl : (List.drop k (List.take xs.length xs)).length = xs.length - k := by simp
    refine J.keep [(0, .slice a xs.length c), (3, i64 (k : Int)), (4, .slice a28 (List.drop k (List.take xs.length xs)).length (c - k)), (5, i64 1)] (by (repeat (first | exact subx_nil | apply subx_dup rfl | apply subx_cons rfl))) ?_
    refine J.lp (ι := Nat × Nat × List Owner) (fun i => 1 ≤ i.1 ∧ i.1 ≤ xs.length - k ∧ k ≤ i.2.1 ∧ i.2.1 ≤ k + i.1 - 1 ∧ i.2.2.length = xs.length ∧ i.2.2.take i.2.1 = dedup (xs.take (k + i.1)) ∧ ∀ j, k + i.1 - 1 ≤ j → j < xs.length → nth i.2.2 j = nth xs j)
      (fun i => [(3, i64 (i.2.1 : Int)), (5, i64 (i.1 : Int))]) (fun i => vw (.slice a28 (List.drop k (List.take xs.length xs)).length (c - k)) (.slice a xs.length c) k xs.length c 2 :: SlT true ownerC 2 (.slice a xs.length c) c i.2.2 :: F) (fun i => xs.length - k - i.1) (1, k, xs)
      ⟨by omega, by simp only; omega, by simp only; omega, by simp only; omega, rfl, hkd.symm, fun j _ _ => rfl⟩ (by (repeat (first | exact subx_nil | apply subx_dup rfl | apply subx_cons rfl))) (Up.refl _) (fun i hi => ?_)
    obtain ⟨q, m, ys⟩ := i
    obtain ⟨i1, i2, i3, i4, i5, i6, i7⟩ := hi
    simp only at i1 i2 i3 i4 i5 i6 i7 ⊢
    focus
      refine J.seq ?_
      refine J.so ?_
      iterate 3 refine JT.c rfl ?_
      refine JT.y rfl (Ev.int rfl rfl rfl) ?_
      refine JT.done ?_
      refine J.c rfl (fun h4 => ?_) (fun h4 => ?_)
      refine J.skip ?_
      refine seqQ_n ?_
      refine J.seq ?_
      refine J.block ?_
      refine J.so ?_
      iterate 2 refine JT.c rfl ?_
      refine JT.y rfl (Ev.iC rfl rfl (by (try simp only [List.length_nil, List.length_cons, List.length_append, List.length_take, List.length_drop, List.length_set]); omega)) ?_
      refine JT.y rfl (Ev.LE rfl (by (try simp only [List.length_nil, List.length_cons, List.length_append, List.length_take, List.length_drop, List.length_set]); omega)) ?_
      iterate 2 refine JT.c rfl ?_
      refine JT.y rfl (Ev.subN rfl rfl (by omega) (by omega)) ?_
      refine JT.y rfl (Ev.iC rfl rfl (by (try simp only [List.length_nil, List.length_cons, List.length_append, List.length_take, List.length_drop, List.length_set]); omega)) ?_
      refine JT.y rfl (Ev.LE rfl (by (try simp only [List.length_nil, List.length_cons, List.length_append, List.length_take, List.length_drop, List.length_set]); omega)) ?_
      refine JT.y rfl (Ev.neT rfl rfl) ?_
      refine JT.done ?_
      refine J.c rfl (fun h5 => ?_) (fun h5 => ?_)
      refine J.so ?_
      iterate 4 refine JT.c rfl ?_
      refine JT.y rfl (Ev.iC rfl rfl (by (try simp only [List.length_nil, List.length_cons, List.length_append, List.length_take, List.length_drop, List.length_set]); omega)) ?_
      refine JT.y rfl (Ev.LE rfl (by (try simp only [List.length_nil, List.length_cons, List.length_append, List.length_take, List.length_drop, List.length_set]); omega)) ?_
      refine JT.y rfl (Ev.iC rfl rfl (by omega)) ?_
      refine JT.sE0 rfl rfl rfl rfl rfl (by omega) (by decide) rfl ?_
      refine JT.done ?_
      refine J.ops ?_
      refine JT.c rfl ?_
      refine JT.y rfl (Ev.addN rfl rfl (by omega)) ?_
      refine JT.c rfl ?_
      refine JT.done ?_
      refine blockQ_n ?_
      refine seqQ_n ?_
      refine J.ops ?_
      refine JT.c rfl ?_
      refine JT.y rfl (Ev.addN rfl rfl (by omega)) ?_
      refine JT.c rfl ?_
      refine JT.done ?_
      refine seqQ_n ?_
      refine ⟨⟨_, ⟨_, _⟩⟩, ?_, (by omega), (subx_cons rfl (subx_cons rfl (subx_cons rfl (subx_dup rfl (subx_cons rfl (subx_dup rfl subx_nil)))))), (Up.of (.take (.there .here) (.take .here (Imp.refl _))))⟩
      rotate_left
      refine J.skip ?_
      refine blockQ_n ?_
      refine seqQ_n ?_
      refine J.ops ?_
      refine JT.c rfl ?_
      refine JT.y rfl (Ev.addN rfl rfl (by omega)) ?_
      refine JT.c rfl ?_
      refine JT.done ?_
      refine seqQ_n ?_
      refine ⟨⟨_, ⟨_, _⟩⟩, ?_, (by omega), (subx_cons rfl (subx_cons rfl (subx_cons rfl (subx_dup rfl (subx_cons rfl (subx_dup rfl subx_nil)))))), (Up.of (.take .here (.take .here (Imp.refl _))))⟩
      rotate_left
      refine J.exit ?_
      iterate 2 refine seqQ_x ?_
      refine blockQ_hit ?_
      refine seqQ_n ?_
      refine J.so ?_
      iterate 2 refine JT.c rfl ?_
      refine JT.V rfl (by first | exact Bd.no | exact Bd.c rfl | exact Bd.si rfl (by omega)) (by first | exact Bd.no | exact Bd.c rfl | exact Bd.si rfl (by omega)) (by first | exact Bd.no | exact Bd.c rfl | exact Bd.si rfl (by omega)) (by decide) (by (try simp only [List.length_nil, List.length_cons, List.length_append, List.length_take, List.length_drop, List.length_set]); omega) (by (try simp only [List.length_nil, List.length_cons, List.length_append, List.length_take, List.length_drop, List.length_set]); omega) (by (try simp only [List.length_nil, List.length_cons, List.length_append, List.length_take, List.length_drop, List.length_set]); omega) (by (try simp only [List.length_nil, List.length_cons, List.length_append, List.length_take, List.length_drop, List.length_set]); omega) (fun a56 => ?_)
      rotate_left
    · have hq : k + q < xs.length := by omega
      rw [nth_view hq, i7 _ (by omega) hq] at h5 ⊢
      rw [nth_view (by omega), i7 _ (by omega) (by omega), show k + (q - 1) = k + q - 1 by omega] at h5
      refine ⟨by simp only; omega, by simp only; omega, by simp only; omega, by simp only; omega, by simp [i5], ?_, fun j hj1 hj2 => ?_⟩
      · simp only
        rw [show k + (q + 1) = k + q + 1 by omega, dedup_take (by omega) hq, if_neg h5, ← i6, take_set (by omega)]
      · simp only at hj1 hj2 ⊢
        rw [nth_set_ne (by omega), i7 j (by omega) hj2]
    · have hq : k + q < xs.length := by omega
      rw [nth_view hq, i7 _ (by omega) hq, nth_view (by omega), i7 _ (by omega) (by omega), show k + (q - 1) = k + q - 1 by omega] at h5
      refine ⟨by simp only; omega, by simp only; omega, i3, by simp only; omega, i5, ?_, fun j hj1 hj2 => i7 j (by simp only at hj1; omega) hj2⟩
      simp only
      rw [show k + (q + 1) = k + q + 1 by omega, dedup_take (by omega) hq, if_pos h5, ← i6]
    refine JT.clrV (enc := ownerC) (z := ⟨0, 0⟩) rfl Has.here (Has.there (Has.there Has.here)) rfl rfl rfl ?_
    focus
      refine JT.done ?_
      refine J.so ?_
      iterate 2 refine JT.c rfl ?_
      ((refine JT.OG rfl (by first | exact Bd.no | exact Bd.c rfl | exact Bd.si rfl (by omega)) (by first | exact Bd.no | exact Bd.c rfl | exact Bd.si rfl (by omega)) (by first | exact Bd.no | exact Bd.c rfl | exact Bd.si rfl (by omega)) (by decide) (by (try simp only [List.length_nil, List.length_cons, List.length_append, List.length_take, List.length_drop, List.length_set]); omega) (by (try simp only [List.length_nil, List.length_cons, List.length_append, List.length_take, List.length_drop, List.length_set]); omega) (by (try simp only [List.length_nil, List.length_cons, List.length_append, List.length_take, List.length_drop, List.length_set]); omega) (by (try simp only [List.length_nil, List.length_cons, List.length_append, List.length_take, List.length_drop, List.length_set]); omega) (fun a59 => ?_)); (try simp only [List.take_length, List.drop_zero, Nat.sub_zero]))
      refine JT.c rfl ?_
      refine JT.done ?_
      refine J.ret ?_
      refine blockQ_r ?_
      iterate 2 refine seqQ_r ?_
      refine blockQ_r ?_
      refine seqQ_r ?_
    have hf : dedup xs = List.take m (List.take m ys ++ List.replicate (ys.length - m) ⟨0, 0⟩) := by
      rw [List.take_append_of_le_length (by simp; omega), List.take_take, Nat.min_self, i6, show k + q = xs.length by omega, List.take_length]
    rw [hf]
    focus
      refine retQS ⟨_, _⟩ (.t rfl .nil) trivial rfl (Up.of (.take .here (.dropT (.dropT (Imp.refl _)))))
  · refine ⟨by omega, by omega, ?_⟩
    rw [dedup_take (by omega) (by omega), if_neg h3, hd, take_succ_nth (by omega)]
  · rw [show dedup xs = xs by rw [show k = xs.length by omega, List.take_length] at hd; exact hd]
    focus
      refine retQS ⟨_, _⟩ (.t rfl .nil) trivial rfl (Up.of (.take .here (Imp.refl _)))
end Go.Proofs.Ytojegknfbgflnaa
