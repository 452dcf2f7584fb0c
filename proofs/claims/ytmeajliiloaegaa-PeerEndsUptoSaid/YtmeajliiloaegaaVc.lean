/- Layer 1 (vectors): what more of its functions do. Conditions: none. -/
import Derived.Test.YtmeajliiloaegaaBj
import Derived.Test.YtmeajliiloaegaaVa
import Derived.Test.YtmeajliiloaegaaKb
set_option linter.unusedSimpArgs false
set_option linter.unusedVariables false
set_option maxRecDepth 100000
set_option maxHeartbeats 2000000
namespace Go.Proofs.Ytmeajliiloaegaa
open Go Go.SL
attribute [local irreducible] pc rc SlT Me Mt It pt ro pur ex sep old Meets

















































theorem len8_cut {x n y k : Nat} (I : blen x = n + blen y) (h : 2 ^ k ≤ y) : blen x = (n + k) + blen (y / 2 ^ k) := by have := blen_shift h; omega

















































































































end Go.Proofs.Ytmeajliiloaegaa

set_option linter.unusedSimpArgs false
set_option linter.unusedVariables false
set_option maxRecDepth 100000
set_option maxHeartbeats 2000000
namespace Go.SL
open Go
section
variable {P : Program} {ρ : Env} {cs r : List Assn} {t : Tr} {K : Env → List Assn → Prop}
theorem zeroCells_one (z : Value) (n : Nat) : Builtin.zeroCells #[z] n = (List.replicate n z).toArray := by
  unfold Builtin.zeroCells
  apply Array.ext_getElem?
  intro i
  simp only [List.size_toArray, List.length_cons, List.length_nil, Nat.zero_add, Nat.mul_one, Nat.mod_one, Array.getElem?_map, List.getElem?_toArray]
  by_cases h : i < n
  · rw [Array.getElem?_range, if_pos h, List.getElem?_replicate, if_pos h]; rfl
  · rw [Array.getElem?_range, if_neg h, List.getElem?_replicate, if_neg h]; rfl
/-- A row of zeros. -/
theorem JT.mks1 {α : Type} {enc : α → List Value} {d T bytes n : Nat} {zv : Value} {l c : Operand} (z : α) (hx : ρ.ev l = some (.int .i64 (n : Int))) (hy : ρ.ev c = some (.int .i64 (n : Int))) (hz : enc z = [zv]) (ho : isOne zv = true) (hb : n * bytes ≤ 2 ^ 47) (hn : n ≤ 140737488355328)
    (h : ∀ a, JT P t ((d, .slice a (List.replicate n z).length n) :: ρ) (SlT true enc 1 (.slice a (List.replicate n z).length n) n (List.replicate n z) :: cs) K) : JT P (.st ⟨some d, .mks T 1 bytes #[zv] l c, none⟩ t) ρ cs K := ⟨by
  intro w hs
  simp only [runT, semG, Kd.sem]
  refine ⟨n, n, hx, hy, Nat.le_refl _, hb, hn, ?_⟩
  rw [zeroCells_one]
  have := (JT.form (xs := List.replicate n z) (enc := enc) (sz := 1) h (.slice (some ⟨w.size, 0, none⟩) n n)).run
  refine this _ ?_
  refine SlT.mk (l := List.replicate n zv) (hs.push _) ?_ (by simp) (by decide) hn ?_
  · rw [List.map_replicate, hz]
    clear this h hn hb hx hy
    induction n with
    | zero => rfl
    | succ n ih => rw [List.replicate_succ, List.replicate_succ, List.flatten_cons, ← ih]; rfl
  · intro x hx
    rw [List.eq_of_mem_replicate hx, hz]
    exact ⟨rfl, by simpa using ho⟩⟩
end
end Go.SL
namespace Go.Proofs.Ytmeajliiloaegaa
open Go Go.SL
attribute [local irreducible] pc rc SlT Me Mt It pt ro pur ex sep old Meets

theorem r1Power_fn (n : Nat) (F : List Assn) (h : n ≤ 63) : Meets Try.prog 36 [i64 (n : Int)] F (Det (u64 ((2 ^ n : Nat) : Int)) F) := by
  refine Meets.intro b36 k36 (by simp) ?_
  focus
   refine zs <| zc rfl <| zc rfl <| zd <| zq <| zb ?_
  refine J.lp (ι := Nat × Int) (fun i => i.1 ≤ n ∧ i.2 = ((2 ^ (n - i.1) : Nat) : Int)) (fun i => [(0, i64 (i.1 : Int)), (3, u64 i.2)]) (fun _ => F) (fun i => i.1) (n, 1) ⟨by simp, by simp⟩ (by exact subxR rfl) (Up.refl _) (fun i hi => ?_)
  obtain ⟨m, x⟩ := i
  obtain ⟨hm, hx⟩ := hi
  simp only at hm hx ⊢
  have hq : m ≠ 0 → x ≤ 4611686018427387904 := fun h0 => by
    have := Nat.pow_le_pow_right (n := 2) (by decide) (show n - m ≤ 62 by omega)
    rw [hx]; omega
  have hq0 : 0 ≤ x := by rw [hx]; exact Int.natCast_nonneg _
  by_cases h0 : m = 0
  · focus
     refine zs <| zy (.cgtF rfl rfl (by omega)) <| zd <| zq <| zu rfl <| zx <| zs <| zc rfl <| zd <| zr <| yR (.t rfl .nil) ?_ (.of .rf)
    simp only [mkRet]; rw [hx, h0]; rfl
  · have := hq h0
    focus
     refine zs <| zy (.cgtT rfl rfl (by omega)) <| zd <| zq <| zt rfl <| zk <| zq <| zb <| zo <| zy (.mul rfl rfl (Wr.u64 (by omega) (by omega))) <| zd <| zo ?_
     refine zy (.subN rfl rfl (by omega) (by omega)) <| zd <| ⟨⟨_, _⟩, ?_, (by omega), (subxR rfl), (.of .rf)⟩
    refine ⟨by simp only; omega, ?_⟩
    simp only
    rw [hx, show n - (m - 1) = (n - m) + 1 by omega, Nat.pow_succ]; omega
theorem r1Right_fn (v : Vec) (F : List Assn) : Meets Try.prog 19 [vv v] F (Det (.bool (decide (vecOk v))) F) := by
  refine Meets.intro b19 k19 (by simp) ?_
  by_cases h0 : 0 ≤ v.len ∧ v.len ≤ 32
  · obtain ⟨n, hn⟩ : ∃ n : Nat, v.len = n := ⟨v.len.toNat, by omega⟩
    have hP := fun F => r1Power_fn n F (by omega)
    rw [← hn] at hP
    focus
     refine zs <| yB rfl fun b1 => zc rfl <| zfl rfl rfl rfl <| zy (.cgeT rfl rfl (by omega)) <| yG rfl <| zf 0 rfl rfl <| yG rfl <| zl rfl rfl <| yG rfl <| zy (.cleT rfl rfl (by omega)) <| zy (.pickT rfl rfl) ?_
     refine yG rfl <| zf 1 rfl rfl <| yG rfl <| zl rfl rfl <| yG rfl <| zf 0 rfl rfl <| yG rfl <| zl rfl rfl <| yG rfl <| yD rfl rfl (.of .rf) (hP _) <| JT.yB rfl rfl (Ev.L rfl rfl) <| yG rfl ?_
     refine zj rfl rfl rfl <| zy (.pickT rfl rfl) <| zd <| zr <| yR (.t rfl .nil) ?_ (.of (.d .rf))
    simp only [mkRet]; congr 1; rw [Bool.eq_iff_iff]; simp only [decide_eq_true_eq]
    unfold vecOk
    rw [hn, Int.toNat_natCast, show (2 : Int) ^ n = ((2 ^ n : Nat) : Int) by simp]
    omega
  · focus
     refine zs <| yB rfl fun b1 => zc rfl <| zfl rfl rfl rfl <| zj rfl rfl rfl <| zp rfl (fun h1 => ?_) (fun h1 => ?_)
     refine zf 0 rfl rfl <| yT rfl (by assumption) <| zl rfl rfl <| yT rfl (by assumption) <| zy (.cleF rfl rfl (by omega)) <| zy (.pickTp rfl (by assumption) rfl) <| zv rfl rfl <| zv rfl rfl <| zv rfl rfl <| zv rfl rfl <| zv rfl rfl <| JT.agF rfl rfl rfl ?_
     refine zv rfl rfl <| zy (.pickF rfl rfl) <| zd <| zr <| yR (.t rfl .nil) ?_ (.of (.d .rf))
     rotate_left
     refine yTs rfl (by assumption) <| yTs rfl (by assumption) <| zy (.pickFp rfl (by assumption) rfl) <| zv rfl rfl <| zv rfl rfl <| zv rfl rfl <| zv rfl rfl <| zv rfl rfl <| JT.agF rfl rfl rfl <| zv rfl rfl <| zy (.pickF rfl rfl) <| zd ?_
     refine zr <| yR (.t rfl .nil) ?_ (.of (.d .rf))
     rotate_left
    all_goals (simp only [mkRet]; rw [decide_eq_false (fun h => h0 ⟨h.1, h.2.1⟩)])








































































abbrev nI (l : List Nat) : List Int := l.map fun b => ((b : Nat) : Int)
theorem nI_nth {l : List Nat} {k : Nat} (h : k < l.length) : nth (nI l) k = ((l.getD k 0 : Nat) : Int) := by
  rw [nth_eq (by simpa using h)]; simp [nI, List.getD, h]
theorem ofBits_lt : ∀ (n : Nat) (l : List Nat), l.length = n → (∀ x ∈ l, x ≤ 1) → ofBits l < 2 ^ n
  | 0, l, h, _ => by have : l = [] := List.length_eq_zero_iff.1 h
                     subst this; decide
  | n + 1, l, h, hx => by
    have hne : l ≠ [] := fun e => by subst e; simp at h
    have e := List.dropLast_concat_getLast hne
    have h1 := ofBits_lt n l.dropLast (by simp [h]) fun y hy => hx y (List.dropLast_subset l hy)
    have h2 := hx _ (List.getLast_mem hne)
    rw [← e, ofBits_snoc, Nat.pow_succ]; omega
theorem take_snoc_getD {l : List Nat} {k : Nat} (h : k < l.length) : l.take (k + 1) = l.take k ++ [l.getD k 0] := by
  rw [List.take_add_one, List.getElem?_eq_getElem h]; simp [List.getD, h]
















































































































theorem nI_len (xs : List Nat) : (nI xs).length = xs.length := by simp



























































































end Go.Proofs.Ytmeajliiloaegaa
