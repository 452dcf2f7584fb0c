/- Layer 11: members by their keys; the prefixes of a vector, one after the other. Conditions: none. -/
import Derived.Test.YtgcmglieciaifaaGb
import Derived.Test.YtgcmglieciaifaaSlS
import Derived.Test.YtgcmglieciaifaaBj
set_option linter.unusedSimpArgs false
set_option linter.unusedVariables false
set_option maxRecDepth 100000
set_option maxHeartbeats 4000000
namespace Go.Proofs.Ytgcmglieciaifaa
open Go Go.SL Go.Sort Go.Lib Go.Shelf
attribute [local irreducible] pc rc SlT Me Mt It pt ro pur ex sep old Meets
instance : TE 32 SL.Ref refC 5 := ⟨refC_one, by decide⟩
theorem slCloneR_fn {a : Option Addr} {c : Nat} {xs : List SL.Ref} {F : List Assn} [Hs : HS F (.slice a xs.length c) SL.Ref refC 5 c xs] (hL : xs.length ≤ 8388608) : Meets Try.prog 74 [.slice a xs.length c] F
    (Some' (fun _ : Option Addr × Nat => True) (fun x => .slice x.1 xs.length x.2) (fun x => SlT true refC 5 (.slice x.1 xs.length x.2) x.2 xs :: F)) := by
  refine Meets.intro b74 k74 (by simp) ?_
  refine J.sl Hs (fun hC hL' hN => ?_)
  focus
   refine zs <| zc rfl <| zc rfl <| zd <| zq <| zi rfl (fun h1 => ?_) (fun h1 => ?_)
   refine zs <| zc rfl <| zd <| zr <| seqQ_r ?_
   rotate_left
   refine zk <| zs <| JT.b0 fun a5 => ?_
   (refine JT.A3 rfl rfl rfl (by decide) (by simp; omega) (fun a2 c2 hc2 => ?_))
   refine zd <| zr <| yQ ⟨_, _⟩ (.t rfl .nil) trivial rfl (.of (.t0 .rf))
  · obtain rfl : xs = [] := hN (by simpa using h1)
    exact retQS (none, 0) (.t rfl .nil) trivial rfl (Up.nilS true (by decide) (Up.refl _))
theorem gByKey1_fn (x y : SL.Ref) (F : List Assn) : Meets Try.prog 76 [.agg (refC x).toArray, .agg (refC y).toArray] F (Det (i64 (kcmp x.key y.key)) F) := by
  refine Meets.intro b76 k76 (by simp) ?_
  unfold refC
  focus
   refine zs <| yB rfl fun b2 => yB rfl fun b3 => zc rfl <| zfw [_, _] rfl rfl rfl rfl <| zfw [_, _] rfl rfl rfl rfl <| yD rfl rfl (.of .rf) (kCompare_fn _ _ _) <| zd <| zr <| yR (.t rfl .nil) rfl (.of (.d (.d .rf)))
theorem refK_swo : SWO (ltOf fun (x y : SL.Ref) => kcmp x.key y.key) where
  irrefl x := by simp only [ltOf, decide_eq_false_iff_not, kcmp_lt]; exact keyLt_irrefl _
  trans x y z h1 h2 := by simp only [ltOf, decide_eq_true_eq, kcmp_lt] at *; exact keyLt_trans h1 h2
  ntrans x y z h1 h2 := by
    simp only [ltOf, decide_eq_true_eq, decide_eq_false_iff_not, kcmp_lt] at *
    intro h
    rcases keyLt_tri x.key y.key with h3 | h3 | h3
    · exact h1 h3
    · rw [h3] at h; exact h2 h
    · exact h2 (keyLt_trans h3 h)
shelf_lay_g SlLaysF0.n6 Slsf 6 at Try 75 as sortR
theorem slSortR_fn (xs : List SL.Ref) (a : Option Addr) (c : Nat) (F : List Assn) : Meets Try.prog 75 [.slice a xs.length c, .func (.func 76) #[] #[]] (SlT true refC 5 (.slice a xs.length c) c xs :: F)
    (Some' (fun ys : List SL.Ref => ys.Perm xs ∧ ys.Pairwise (fun x y => ¬ kcmp y.key x.key < 0)) (fun _ => .tuple #[]) (fun ys => SlT true refC 5 (.slice a ys.length c) c ys :: F)) :=
  sort_meets sortR 5 (fun w => by kernel_rfl) (fun w => by kernel_rfl) refC_one refK_swo (g := 76) k76 (cb := []) (CmpFn.of fun x y F => gByKey1_fn x y F) (by kernel_rfl)
theorem gByKey_fn {a : Option Addr} {c : Nat} {xs : List SL.Ref} {F : List Assn} [Hs : HS F (.slice a xs.length c) SL.Ref refC 5 c xs] (hL : xs.length ≤ 8388608) (hk : (xs.map (·.key)).Nodup) : Meets Try.prog 61 [.slice a xs.length c] F
    (Some' (fun _ : Option Addr × Nat => True) (fun x => .slice x.1 (gsort xs).length x.2) (fun x => SlT true refC 5 (.slice x.1 (gsort xs).length x.2) x.2 (gsort xs) :: F)) := by
  refine Meets.intro b61 k61 (by simp) ?_
  focus
   refine zs <| zc rfl <| yE rfl rfl (.of .rf) (slCloneR_fn (by assumption)) fun ⟨a0, c0⟩ _ => yE rfl rfl (.of (.t0 .rf)) (slSortR_fn _ _ _ _) fun x6 hx6 => zc rfl <| zd <| zr ?_
  rw [gsort_eq hk hx6.1 hx6.2] at *
  have hl : xs.length = (gsort xs).length := (gsort_perm xs).length_eq.symm
  rw [hl]
  exact retQS (a0, c0) (.t rfl .nil) trivial rfl (.of (.t0 .rf))
theorem vPrefixes_fn (v : Vec) (F : List Assn) : Meets Try.prog 62 [vv v] F (Some' (fun _ : Nat => True) (fun b => .func (.func 77) #[] #[ptr b]) (fun b => pc b 30 (vecC v) :: F)) := by
  refine Meets.intro b62 k62 (by simp) ?_
  focus
   refine zs <| yB rfl fun b1 => zc rfl <| zy (.mkf rfl) <| zd <| zr <| yQ _ (.t rfl .nil) trivial rfl (.of (.t0 .rf))
/-- An iterator over a vector's prefixes: what each round makes of 'C'. -/
theorem vPrefixes1_fn {l b : Nat} (v : Vec) (hv : vecOk v) (Rd : Assn) (C : Nat → Assn) (F : List Assn)
    (hy : ∀ k : Nat, (k : Int) ≤ v.len → MeetsY Try.prog l [vv (vpre v (k : Int))] (Rd :: pc b 30 (vecC v) :: C k :: F) (fun u cs' => u = .bool true ∧ cs' = Rd :: pc b 30 (vecC v) :: C (k + 1) :: F)) :
    Meets Try.prog 77 [.func (.yield l) #[] #[], ptr b] (Rd :: pc b 30 (vecC v) :: C 0 :: F) (Det (.tuple #[]) (Rd :: pc b 30 (vecC v) :: C (v.len.toNat + 1) :: F)) := by
  refine Meets.intro b77 k77 (by simp) ?_
  have hr : vRE v = 0 := by unfold vRE; rw [if_pos hv]
  obtain ⟨h0, h32, hb⟩ := id hv
  focus
   refine zs <| zw rfl rfl <| yD rfl rfl (.of .rf) (vRight_fn _ _) <| zy (.cneF rfl rfl (by omega)) <| zd <| zq <| zu rfl <| zk <| zs <| zfl rfl rfl rfl <| zy (.add rfl rfl (Wr.i64 (by omega) (by omega))) <| zc rfl ?_
   refine zd <| zb ?_
  refine J.lp (ι := Nat) (fun k => (k : Int) ≤ v.len + 1) (fun k => [(10, i64 (k : Int))]) (fun k => Rd :: pc b 30 (vecC v) :: C k :: F) (fun k => v.len.toNat + 1 - k) 0 (by omega) (by exact subxR rfl) (.of (.t0 (.t0 (.t0 .rf)))) (fun k hk => ?_)
  by_cases hlt : (k : Int) ≤ v.len
  · have hyk := hy k hlt
    focus
     refine zs <| zy (.cltT rfl rfl (by omega)) <| zd <| zq <| zt rfl <| zk <| zq <| zb <| zs <| zw rfl rfl <| yD rfl rfl (.of .rf) (vprefix_fn _ _ _ (by omega) (by assumption) (by assumption)) ?_
    refine JT.yield rfl rfl hyk (.of (.t0 (.t0 (.t0 .rf)))) ?_
    rintro _ _ ⟨rfl, rfl⟩
    focus
     refine zc rfl <| zd <| zu rfl <| zk <| zo <| zy (.addN rfl rfl (by omega)) <| zd <| ⟨_, ?_, (by omega), (subxR rfl), (.of (.t0 (.t0 (.t0 .rf))))⟩
     omega
  · obtain rfl : k = v.len.toNat + 1 := by omega
    focus
     refine zs <| zy (.cltF rfl rfl (by omega)) <| zd <| zq <| zu rfl <| zx <| seqQ_x <| seqQ_x <| blockQ_hit ?_
    exact retQD .nil rfl (.of (.t0 (.t0 (.t0 .rf))))
end Go.Proofs.Ytgcmglieciaifaa
