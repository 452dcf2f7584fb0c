/- Layers 1 and 2 (what layer 8 calls of them): what the functions do. Conditions: none. -/
import Derived.Test.YtojegknfbgflnaaBv
import Derived.Test.YtojegknfbgflnaaKa
import Derived.Test.YtojegknfbgflnaaLp
set_option linter.unusedSimpArgs false
set_option linter.unusedVariables false
set_option maxRecDepth 100000
set_option maxHeartbeats 2000000
namespace Go.Proofs.Ytojegknfbgflnaa
open Go Go.SL
attribute [local irreducible] pc rc SlT Me Mt It pt ro pur ex sep old Meets

theorem two_pos (n : Nat) : (1 : Int) ≤ 2 ^ n := by
  have : 0 < (2 : Int) ^ n := Int.pow_pos (by decide)
  omega
theorem two_le {n m : Nat} (h : n ≤ m) : (2 : Int) ^ n ≤ 2 ^ m := by
  have h := Nat.pow_le_pow_right (n := 2) (by decide) h
  have e : ∀ k : Nat, ((2 ^ k : Nat) : Int) = (2 : Int) ^ k := fun k => by simp
  rw [← e, ← e]; exact Int.ofNat_le.2 h
theorem vLow_fn (n : Int) (F : List Assn) (h0 : 0 ≤ n) (h1 : n ≤ 63) : Meets Try.prog 82 [i64 n] F (Det (u64 (2 ^ n.toNat - 1)) F) := by
  refine Meets.intro b82 k82 (by simp) ?_
  have hp := two_pos n.toNat
  have hq : (2 : Int) ^ n.toNat ≤ 2 ^ 63 := two_le (by omega)
  have hw : Wr .u64 (1 * 2 ^ (min n.toNat IntKind.u64.bits)) (2 ^ n.toNat) := by
    have : min n.toNat IntKind.u64.bits = n.toNat := by simp [IntKind.bits]; omega
    rw [this, Int.one_mul]
    exact Wr.u64 (by omega) (by omega)
  focus
    refine J.so ?_
    refine JT.c rfl ?_
    refine JT.done ?_
    refine J.so ?_
    refine JT.c rfl ?_
    refine JT.y rfl (Ev.cv rfl (Wr.u64 (by omega) (by omega))) ?_
    refine JT.y rfl (Ev.shl rfl rfl (by omega) (by assumption)) ?_
    refine JT.y rfl (Ev.sub rfl rfl (Wr.u64 (by omega) (by omega))) ?_
    refine JT.c rfl ?_
    refine JT.done ?_
    refine J.ret ?_
    refine retQD (.t rfl .nil) rfl (Up.of (Imp.refl _))

theorem vRight_fn (v : Vec) (F : List Assn) : Meets Try.prog 64 [vv v] F (Det (i64 (vRE v)) F) := by
  refine Meets.intro b64 k64 (by simp) ?_
  focus
    refine J.so ?_
    refine JT.box rfl (fun b1 => ?_)
    refine JT.c rfl ?_
    refine JT.done ?_
    refine J.seq ?_
    refine J.so ?_
    refine JT.y rfl (Ev.fa' 0 rfl rfl) ?_
    refine JT.y rfl (Ev.L rfl rfl) ?_
    refine JT.y rfl (Ev.int rfl rfl rfl) ?_
    refine JT.c rfl ?_
    refine JT.gn rfl (fun h1 => ?_) (fun h1 => ?_)
    refine JT.y rfl (Ev.fa' 0 rfl rfl) ?_
    refine JT.gF rfl (by first | assumption | omega) ?_
    refine JT.y rfl (Ev.L rfl rfl) ?_
    refine JT.gF rfl (by first | assumption | omega) ?_
    refine JT.y rfl (Ev.int rfl rfl rfl) ?_
    refine JT.y rfl (Ev.pickFp rfl (by first | assumption | omega) rfl) ?_
    refine JT.c rfl ?_
    refine JT.gn rfl (fun h2 => ?_) (fun h2 => ?_)
    refine JT.y rfl (Ev.fa' 1 rfl rfl) ?_
    refine JT.gF rfl (by first | assumption | omega) ?_
    refine JT.y rfl (Ev.L rfl rfl) ?_
    refine JT.gF rfl (by first | assumption | omega) ?_
    refine JT.y rfl (Ev.fa' 0 rfl rfl) ?_
    refine JT.gF rfl (by first | assumption | omega) ?_
    refine JT.y rfl (Ev.L rfl rfl) ?_
    refine JT.gF rfl (by first | assumption | omega) ?_
    refine JT.callD rfl rfl (Up.of (Imp.refl _)) (vLow_fn _ _ (by first | assumption | omega | decide | exact rfl) (by first | assumption | omega | decide | exact rfl)) ?_
    refine JT.gaF rfl (by first | assumption | omega) rfl (Ev.L rfl rfl) ?_
    refine JT.gF rfl (by first | assumption | omega) ?_
    refine JT.y rfl (Ev.int rfl rfl rfl) ?_
    refine JT.y rfl (Ev.pickFp rfl (by first | assumption | omega) rfl) ?_
    refine JT.done ?_
    refine J.c rfl (fun h3 => ?_) (fun h3 => ?_)
    refine J.so ?_
    refine JT.c rfl ?_
    refine JT.done ?_
    refine J.ret ?_
    refine seqQ_r ?_
    refine retQD (.t rfl .nil) ?_ (Up.of (.dropT (Imp.refl _)))
    rotate_left
    refine J.skip ?_
    refine seqQ_n ?_
    refine J.so ?_
    refine JT.c rfl ?_
    refine JT.done ?_
    refine J.ret ?_
    refine retQD (.t rfl .nil) ?_ (Up.of (.dropT (Imp.refl _)))
    rotate_left
    iterate 4 refine JT.gFs rfl (by first | assumption | omega) ?_
    refine JT.gaFs rfl (by first | assumption | omega) rfl ?_
    refine JT.gFs rfl (by first | assumption | omega) ?_
    refine JT.y rfl (Ev.pickTp rfl (by first | assumption | omega) rfl) ?_
    refine JT.done ?_
    refine J.condT rfl ?_
    refine J.so ?_
    refine JT.c rfl ?_
    refine JT.done ?_
    refine J.ret ?_
    refine seqQ_r ?_
    refine retQD (.t rfl .nil) ?_ (Up.of (.dropT (Imp.refl _)))
    rotate_left
    iterate 2 refine JT.gFs rfl (by first | assumption | omega) ?_
    refine JT.y rfl (Ev.pickTp rfl (by first | assumption | omega) rfl) ?_
    refine JT.c rfl ?_
    iterate 5 refine JT.skip rfl rfl ?_
    refine JT.agF rfl rfl rfl ?_
    refine JT.skip rfl rfl ?_
    refine JT.y rfl (Ev.pickT rfl rfl) ?_
    refine JT.done ?_
    refine J.condT rfl ?_
    refine J.so ?_
    refine JT.c rfl ?_
    refine JT.done ?_
    refine J.ret ?_
    refine seqQ_r ?_
    refine retQD (.t rfl .nil) ?_ (Up.of (.dropT (Imp.refl _)))
    rotate_left
  all_goals simp only [mkRet]
  all_goals first
    | (rw [vRE, if_neg (by unfold vecOk; omega)])
    | (rw [vRE, if_pos (by unfold vecOk; omega)])

theorem vprefix_fn (v : Vec) (n : Int) (F : List Assn) (h0 : 0 ≤ n) (h1 : n ≤ v.len) (h2 : v.len ≤ 32) : Meets Try.prog 95 [vv v, i64 n] F (Det (vv (vpre v n)) F) := by
  refine Meets.intro b95 k95 (by simp) ?_
  have hs : v.bits.fdiv (2 ^ (min (v.len - n).toNat IntKind.u64.bits)) = v.bits.fdiv (2 ^ (v.len - n).toNat) := by
    have : min (v.len - n).toNat IntKind.u64.bits = (v.len - n).toNat := by simp [IntKind.bits]; omega
    rw [this]
  focus
    refine J.so ?_
    refine JT.box rfl (fun b2 => ?_)
    refine JT.new (fun b4 => ?_)
    refine JT.done ?_
    refine J.so ?_
    refine JT.c rfl ?_
    refine JT.y rfl (Ev.fa' 1 rfl rfl) ?_
    refine JT.y rfl (Ev.L rfl rfl) ?_
    refine JT.y rfl (Ev.fa' 0 rfl rfl) ?_
    refine JT.y rfl (Ev.L rfl rfl) ?_
    refine JT.c rfl ?_
    refine JT.y rfl (Ev.sub rfl rfl (Wr.i64 (by omega) (by omega))) ?_
    refine JT.y rfl (Ev.cv rfl (Wr.u64 (by omega) (by omega))) ?_
    refine JT.y rfl (Ev.shr rfl rfl (by omega) (by assumption)) ?_
    refine JT.y rfl (Ev.agg (by repeat (first | exact Cells.nil | apply Cells.z | (apply Cells.cl; rfl; rfl; rfl)))) ?_
    refine JT.w rfl rfl rfl rfl rfl ?_
    refine JT.done ?_
    refine J.ret ?_
    refine retQD (.w rfl rfl .nil) rfl (Up.of (.dropT (.dropT (Imp.refl _))))

theorem vBegins_fn (v w : Vec) (F : List Assn) : Meets Try.prog 80 [vv v, vv w] F (Det (.bool (decide (vbegins v w))) F) := by
  refine Meets.intro b80 k80 (by simp) ?_
  by_cases hv : vecOk v
  · by_cases hw : vecOk w
    · have hv' := hv; have hw' := hw
      unfold vecOk at hv' hw'
      focus
        refine J.so ?_
        refine JT.box rfl (fun b2 => ?_)
        refine JT.box rfl (fun b3 => ?_)
        refine JT.c rfl ?_
        refine JT.done ?_
        refine J.so ?_
        refine JT.y rfl (Ev.Lw rfl rfl) ?_
        refine JT.callD rfl rfl (Up.of (Imp.refl _)) (vRight_fn _ _) ?_
        refine JT.y rfl (Ev.int rfl rfl rfl) ?_
        refine JT.c rfl ?_
        refine JT.gT rfl (by first | assumption | omega) ?_
        refine JT.y rfl (Ev.Lw rfl rfl) ?_
        refine JT.gT rfl (by first | assumption | omega) ?_
        refine JT.callD rfl rfl (Up.of (Imp.refl _)) (vRight_fn _ _) ?_
        refine JT.gT rfl (by first | assumption | omega) ?_
        refine JT.y rfl (Ev.int rfl rfl rfl) ?_
        refine JT.y rfl (Ev.pickTp rfl (by first | assumption | omega) rfl) ?_
        refine JT.c rfl ?_
        refine JT.gT rfl (by first | assumption | omega) ?_
        refine JT.y rfl (Ev.fa' 0 rfl rfl) ?_
        refine JT.gT rfl (by first | assumption | omega) ?_
        refine JT.y rfl (Ev.L rfl rfl) ?_
        refine JT.gT rfl (by first | assumption | omega) ?_
        refine JT.y rfl (Ev.fa' 0 rfl rfl) ?_
        refine JT.gT rfl (by first | assumption | omega) ?_
        refine JT.y rfl (Ev.L rfl rfl) ?_
        refine JT.gT rfl (by first | assumption | omega) ?_
        refine JT.y rfl (Ev.int rfl rfl rfl) ?_
        refine JT.y rfl (Ev.pickTp rfl (by first | assumption | omega) rfl) ?_
        refine JT.c rfl ?_
        refine JT.gp rfl (fun h1 => ?_) (fun h1 => ?_)
        refine JT.y rfl (Ev.Lw rfl rfl) ?_
        refine JT.gT rfl (by first | assumption | omega) ?_
        refine JT.y rfl (Ev.fa' 0 rfl rfl) ?_
        refine JT.gT rfl (by first | assumption | omega) ?_
        refine JT.y rfl (Ev.L rfl rfl) ?_
        refine JT.gT rfl (by first | assumption | omega) ?_
        refine JT.y rfl (Ev.Lw rfl rfl) ?_
        refine JT.gT rfl (by first | assumption | omega) ?_
        refine JT.callD rfl rfl (Up.of (Imp.refl _)) (vprefix_fn _ _ _ (by first | assumption | omega | decide | exact rfl) (by first | assumption | omega | decide | exact rfl) (by first | assumption | omega | decide | exact rfl)) ?_
        refine JT.gaT rfl (by first | assumption | omega) rfl (Ev.Lw rfl rfl) ?_
        refine JT.gT rfl (by first | assumption | omega) ?_
        refine JT.y rfl (Ev.eqT rfl rfl) ?_
        refine JT.y rfl (Ev.pickTp rfl (by first | assumption | omega) rfl) ?_
        refine JT.c rfl ?_
        refine JT.done ?_
        refine J.ret ?_
        refine retQD (.t rfl .nil) ?_ (Up.of (.dropT (.dropT (Imp.refl _))))
        rotate_left
        iterate 4 refine JT.gTs rfl (by first | assumption | omega) ?_
        refine JT.gaTs rfl (by first | assumption | omega) rfl ?_
        refine JT.gTs rfl (by first | assumption | omega) ?_
        refine JT.y rfl (Ev.pickFp rfl (by first | assumption | omega) rfl) ?_
        refine JT.c rfl ?_
        refine JT.done ?_
        refine J.ret ?_
        refine retQD (.t rfl .nil) ?_ (Up.of (.dropT (.dropT (Imp.refl _))))
        rotate_left
      · simp only [mkRet]; congr 1; rw [Bool.eq_iff_iff]; simp [vbegins, hv, hw, h1]
      · simp only [mkRet]; rw [decide_eq_false (fun h => h1 h.2.2.1)]
    · focus
        refine J.so ?_
        refine JT.box rfl (fun b2 => ?_)
        refine JT.box rfl (fun b3 => ?_)
        refine JT.c rfl ?_
        refine JT.done ?_
        refine J.so ?_
        refine JT.y rfl (Ev.Lw rfl rfl) ?_
        refine JT.callD rfl rfl (Up.of (Imp.refl _)) (vRight_fn _ _) ?_
        refine JT.y rfl (Ev.int rfl rfl rfl) ?_
        refine JT.c rfl ?_
        refine JT.gT rfl (by first | assumption | omega) ?_
        refine JT.y rfl (Ev.Lw rfl rfl) ?_
        refine JT.gT rfl (by first | assumption | omega) ?_
        refine JT.callD rfl rfl (Up.of (Imp.refl _)) (vRight_fn _ _) ?_
        refine JT.gT rfl (by first | assumption | omega) ?_
        refine JT.y rfl (Ev.int rfl rfl rfl) ?_
        refine JT.y rfl (Ev.pickTp rfl (by first | assumption | omega) rfl) ?_
        refine JT.c rfl ?_
        iterate 5 refine JT.gTs rfl (by first | assumption | omega) ?_
        refine JT.y rfl (Ev.pickFp rfl (by first | assumption | omega) rfl) ?_
        refine JT.c rfl ?_
        iterate 5 refine JT.skip rfl rfl ?_
        refine JT.agF rfl rfl rfl ?_
        refine JT.skip rfl rfl ?_
        refine JT.y rfl (Ev.pickF rfl rfl) ?_
        refine JT.c rfl ?_
        refine JT.done ?_
        refine J.ret ?_
        refine retQD (.t rfl .nil) ?_ (Up.of (.dropT (.dropT (Imp.refl _))))
      simp only [mkRet]; rw [decide_eq_false (fun h => hw h.2.1)]
  · focus
      refine J.so ?_
      refine JT.box rfl (fun b2 => ?_)
      refine JT.box rfl (fun b3 => ?_)
      refine JT.c rfl ?_
      refine JT.done ?_
      refine J.so ?_
      refine JT.y rfl (Ev.Lw rfl rfl) ?_
      refine JT.callD rfl rfl (Up.of (Imp.refl _)) (vRight_fn _ _) ?_
      refine JT.y rfl (Ev.int rfl rfl rfl) ?_
      refine JT.c rfl ?_
      iterate 3 refine JT.gTs rfl (by first | assumption | omega) ?_
      refine JT.y rfl (Ev.pickFp rfl (by first | assumption | omega) rfl) ?_
      refine JT.c rfl ?_
      iterate 5 refine JT.skip rfl rfl ?_
      refine JT.y rfl (Ev.pickF rfl rfl) ?_
      refine JT.c rfl ?_
      iterate 5 refine JT.skip rfl rfl ?_
      refine JT.agF rfl rfl rfl ?_
      refine JT.skip rfl rfl ?_
      refine JT.y rfl (Ev.pickF rfl rfl) ?_
      refine JT.c rfl ?_
      refine JT.done ?_
      refine J.ret ?_
      refine retQD (.t rfl .nil) ?_ (Up.of (.dropT (.dropT (Imp.refl _))))
    simp only [mkRet]; rw [decide_eq_false (fun h => hv h.1)]

theorem kCheck_fn (k : Key) (F : List Assn) : Meets Try.prog 63 [kv k] F (Det (i64 (kCE k)) F) := by
  refine Meets.intro b63 k63 (by simp) ?_
  focus
    refine J.so ?_
    refine JT.box rfl (fun b1 => ?_)
    refine JT.c rfl ?_
    refine JT.done ?_
    refine J.seq ?_
    refine J.so ?_
    refine JT.y rfl (Ev.fa' 0 rfl rfl) ?_
    refine JT.y rfl (Ev.L rfl rfl) ?_
    refine JT.y rfl (Ev.int rfl rfl rfl) ?_
    refine JT.c rfl ?_
    refine JT.yh rfl rfl (fun h1 => Ev.fa' 0 rfl rfl) ?_
    refine JT.yh rfl rfl (fun h1 => by simp only [h1, gd_true, gd_false, Bool.not_false, Bool.not_true, Bool.true_and, Bool.and_true]; exact Ev.L rfl rfl) ?_
    refine JT.yh rfl rfl (fun h1 => by simp only [h1, gd_true, gd_false, Bool.not_false, Bool.not_true, Bool.true_and, Bool.and_true]; exact Ev.int rfl rfl rfl) ?_
    refine JT.yh rfl rfl (fun h1 => by simp only [h1, gd_true, gd_false, Bool.not_false, Bool.not_true, Bool.true_and, Bool.and_true]; exact Ev.calc rfl) ?_
    refine JT.yh2 rfl rfl (fun h1 h1' => Ev.fa' 0 rfl rfl) ?_
    refine JT.yh2 rfl rfl (fun h1 h1' => by simp only [h1, h1', gd_true, gd_false, Bool.not_false, Bool.not_true, Bool.true_and, Bool.and_true]; exact Ev.L rfl rfl) ?_
    refine JT.yh2 rfl rfl (fun h1 h1' => by simp only [h1, h1', gd_true, gd_false, Bool.not_false, Bool.not_true, Bool.true_and, Bool.and_true]; exact Ev.int rfl rfl rfl) ?_
    refine JT.yh rfl rfl (fun h1 => by simp only [h1, gd_true, gd_false, Bool.not_false, Bool.not_true, Bool.true_and, Bool.and_true]; exact Ev.pickO rfl rfl rfl) ?_
    refine JT.yh rfl rfl (fun h1 => by simp only [h1, gd_true, gd_false, Bool.not_false, Bool.not_true, Bool.true_and, Bool.and_true]; exact Ev.calc rfl) ?_
    refine JT.yg2 rfl rfl (fun h1 h1' => Ev.fa' 1 rfl rfl) ?_
    refine JT.yg2 rfl rfl (fun h1 h1' => by simp only [h1, h1', gd_true, gd_false, Bool.not_false, Bool.not_true, Bool.true_and, Bool.and_true]; exact Ev.L rfl rfl) ?_
    refine JT.yg2 rfl rfl (fun h1 h1' => by simp only [h1, h1', gd_true, gd_false, Bool.not_false, Bool.not_true, Bool.true_and, Bool.and_true]; exact Ev.int rfl rfl rfl) ?_
    refine JT.yh rfl rfl (fun h1 => by simp only [h1, gd_true, gd_false, Bool.not_false, Bool.not_true, Bool.true_and, Bool.and_true]; exact Ev.pickA rfl rfl rfl) ?_
    refine JT.y rfl (Ev.pickO rfl rfl rfl) ?_
    refine JT.done ?_
    refine J.c rfl (fun h1 => ?_) (fun h1 => ?_)
    refine J.so ?_
    refine JT.c rfl ?_
    refine JT.done ?_
    refine J.ret ?_
    refine seqQ_r ?_
    refine retQD (.t rfl .nil) ?_ (Up.of (.dropT (Imp.refl _)))
    rotate_left
    refine J.skip ?_
    refine seqQ_n ?_
    refine J.so ?_
    refine JT.c rfl ?_
    refine JT.done ?_
    refine J.ret ?_
    refine retQD (.t rfl .nil) ?_ (Up.of (.dropT (Imp.refl _)))
    rotate_left
  all_goals simp only [mkRet]
  · rw [kCE, if_pos (by unfold keyOk; omega)]
  · rw [kCE, if_neg (by unfold keyOk; omega)]
theorem cmpNanI_fn (n : Int) (F : List Assn) : Meets Try.prog 107 [i64 n] F (Det (.bool false) F) := by
  refine Meets.intro b107 k107 (by simp) ?_
  focus
    refine J.so ?_
    refine JT.c rfl ?_
    refine JT.done ?_
    refine J.so ?_
    iterate 2 refine JT.c rfl ?_
    refine JT.y rfl (Ev.cneF rfl rfl (by omega)) ?_
    refine JT.c rfl ?_
    refine JT.done ?_
    refine J.ret ?_
    refine retQD (.t rfl .nil) rfl (Up.of (Imp.refl _))
theorem cmpNanR_fn (n : Int) (F : List Assn) : Meets Try.prog 126 [i64 n] F (Det (.bool false) F) := by
  refine Meets.intro b126 k126 (by simp) ?_
  focus
    refine J.so ?_
    refine JT.c rfl ?_
    refine JT.done ?_
    refine J.so ?_
    iterate 2 refine JT.c rfl ?_
    refine JT.y rfl (Ev.cneF rfl rfl (by omega)) ?_
    refine JT.c rfl ?_
    refine JT.done ?_
    refine J.ret ?_
    refine retQD (.t rfl .nil) rfl (Up.of (Imp.refl _))
theorem cmpNanU_fn (n : Int) (F : List Assn) : Meets Try.prog 127 [u64 n] F (Det (.bool false) F) := by
  refine Meets.intro b127 k127 (by simp) ?_
  focus
    refine J.so ?_
    refine JT.c rfl ?_
    refine JT.done ?_
    refine J.so ?_
    iterate 2 refine JT.c rfl ?_
    refine JT.y rfl (Ev.cneF rfl rfl (by omega)) ?_
    refine JT.c rfl ?_
    refine JT.done ?_
    refine J.ret ?_
    refine retQD (.t rfl .nil) rfl (Up.of (Imp.refl _))
theorem cmpInt_fn (a b : Int) (F : List Assn) : Meets Try.prog 89 [i64 a, i64 b] F (Det (i64 (icmp a b)) F) := by
  refine Meets.intro b89 k89 (by simp) ?_
  focus
    refine J.so ?_
    refine JT.c rfl ?_
    refine JT.done ?_
    refine J.so ?_
    refine JT.c rfl ?_
    refine JT.callD rfl rfl (Up.of (Imp.refl _)) (cmpNanI_fn _ _) ?_
    refine JT.c rfl ?_
    refine JT.done ?_
    refine J.so ?_
    refine JT.c rfl ?_
    refine JT.callD rfl rfl (Up.of (Imp.refl _)) (cmpNanI_fn _ _) ?_
    refine JT.c rfl ?_
    refine JT.done ?_
    refine J.seq ?_
    refine J.so ?_
    refine JT.c rfl ?_
    refine JT.done ?_
    refine J.condF rfl ?_
    refine J.skip ?_
    refine seqQ_n ?_
    refine J.seq ?_
    refine J.so ?_
    refine JT.c rfl ?_
    refine JT.done ?_
    refine J.condF rfl ?_
    refine J.skip ?_
    refine seqQ_n ?_
    refine J.seq ?_
    refine J.so ?_
    iterate 2 refine JT.c rfl ?_
    refine JT.y rfl (Ev.int rfl rfl rfl) ?_
    refine JT.done ?_
    refine J.c rfl (fun h1 => ?_) (fun h1 => ?_)
    refine J.so ?_
    refine JT.c rfl ?_
    refine JT.done ?_
    refine J.ret ?_
    refine seqQ_r ?_
    refine retQD (.t rfl .nil) ?_ (Up.of (Imp.refl _))
    rotate_left
    refine J.skip ?_
    refine seqQ_n ?_
    refine J.seq ?_
    refine J.so ?_
    iterate 2 refine JT.c rfl ?_
    refine JT.y rfl (Ev.int rfl rfl rfl) ?_
    refine JT.done ?_
    refine J.c rfl (fun h2 => ?_) (fun h2 => ?_)
    refine J.so ?_
    refine JT.c rfl ?_
    refine JT.done ?_
    refine J.ret ?_
    refine seqQ_r ?_
    refine retQD (.t rfl .nil) ?_ (Up.of (Imp.refl _))
    rotate_left
    refine J.skip ?_
    refine seqQ_n ?_
    refine J.so ?_
    refine JT.c rfl ?_
    refine JT.done ?_
    refine J.ret ?_
    refine retQD (.t rfl .nil) ?_ (Up.of (Imp.refl _))
    rotate_left
  all_goals (simp only [mkRet]; unfold icmp; (repeat (first | rw [if_pos (by (first | assumption | omega | grind))] | rw [if_neg (by (first | assumption | omega | grind))])))
theorem cmpRank_fn (a b : Int) (F : List Assn) : Meets Try.prog 116 [i64 a, i64 b] F (Det (i64 (icmp a b)) F) := by
  refine Meets.intro b116 k116 (by simp) ?_
  focus
    refine J.so ?_
    refine JT.c rfl ?_
    refine JT.done ?_
    refine J.so ?_
    refine JT.c rfl ?_
    refine JT.callD rfl rfl (Up.of (Imp.refl _)) (cmpNanR_fn _ _) ?_
    refine JT.c rfl ?_
    refine JT.done ?_
    refine J.so ?_
    refine JT.c rfl ?_
    refine JT.callD rfl rfl (Up.of (Imp.refl _)) (cmpNanR_fn _ _) ?_
    refine JT.c rfl ?_
    refine JT.done ?_
    refine J.seq ?_
    refine J.so ?_
    refine JT.c rfl ?_
    refine JT.done ?_
    refine J.condF rfl ?_
    refine J.skip ?_
    refine seqQ_n ?_
    refine J.seq ?_
    refine J.so ?_
    refine JT.c rfl ?_
    refine JT.done ?_
    refine J.condF rfl ?_
    refine J.skip ?_
    refine seqQ_n ?_
    refine J.seq ?_
    refine J.so ?_
    iterate 2 refine JT.c rfl ?_
    refine JT.y rfl (Ev.int rfl rfl rfl) ?_
    refine JT.done ?_
    refine J.c rfl (fun h1 => ?_) (fun h1 => ?_)
    refine J.so ?_
    refine JT.c rfl ?_
    refine JT.done ?_
    refine J.ret ?_
    refine seqQ_r ?_
    refine retQD (.t rfl .nil) ?_ (Up.of (Imp.refl _))
    rotate_left
    refine J.skip ?_
    refine seqQ_n ?_
    refine J.seq ?_
    refine J.so ?_
    iterate 2 refine JT.c rfl ?_
    refine JT.y rfl (Ev.int rfl rfl rfl) ?_
    refine JT.done ?_
    refine J.c rfl (fun h2 => ?_) (fun h2 => ?_)
    refine J.so ?_
    refine JT.c rfl ?_
    refine JT.done ?_
    refine J.ret ?_
    refine seqQ_r ?_
    refine retQD (.t rfl .nil) ?_ (Up.of (Imp.refl _))
    rotate_left
    refine J.skip ?_
    refine seqQ_n ?_
    refine J.so ?_
    refine JT.c rfl ?_
    refine JT.done ?_
    refine J.ret ?_
    refine retQD (.t rfl .nil) ?_ (Up.of (Imp.refl _))
    rotate_left
  all_goals (simp only [mkRet]; unfold icmp; (repeat (first | rw [if_pos (by (first | assumption | omega | grind))] | rw [if_neg (by (first | assumption | omega | grind))])))
theorem cmpU_fn (a b : Int) (F : List Assn) : Meets Try.prog 117 [u64 a, u64 b] F (Det (i64 (icmp a b)) F) := by
  refine Meets.intro b117 k117 (by simp) ?_
  focus
    refine J.so ?_
    refine JT.c rfl ?_
    refine JT.done ?_
    refine J.so ?_
    refine JT.c rfl ?_
    refine JT.callD rfl rfl (Up.of (Imp.refl _)) (cmpNanU_fn _ _) ?_
    refine JT.c rfl ?_
    refine JT.done ?_
    refine J.so ?_
    refine JT.c rfl ?_
    refine JT.callD rfl rfl (Up.of (Imp.refl _)) (cmpNanU_fn _ _) ?_
    refine JT.c rfl ?_
    refine JT.done ?_
    refine J.seq ?_
    refine J.so ?_
    refine JT.c rfl ?_
    refine JT.done ?_
    refine J.condF rfl ?_
    refine J.skip ?_
    refine seqQ_n ?_
    refine J.seq ?_
    refine J.so ?_
    refine JT.c rfl ?_
    refine JT.done ?_
    refine J.condF rfl ?_
    refine J.skip ?_
    refine seqQ_n ?_
    refine J.seq ?_
    refine J.so ?_
    iterate 2 refine JT.c rfl ?_
    refine JT.y rfl (Ev.int rfl rfl rfl) ?_
    refine JT.done ?_
    refine J.c rfl (fun h1 => ?_) (fun h1 => ?_)
    refine J.so ?_
    refine JT.c rfl ?_
    refine JT.done ?_
    refine J.ret ?_
    refine seqQ_r ?_
    refine retQD (.t rfl .nil) ?_ (Up.of (Imp.refl _))
    rotate_left
    refine J.skip ?_
    refine seqQ_n ?_
    refine J.seq ?_
    refine J.so ?_
    iterate 2 refine JT.c rfl ?_
    refine JT.y rfl (Ev.int rfl rfl rfl) ?_
    refine JT.done ?_
    refine J.c rfl (fun h2 => ?_) (fun h2 => ?_)
    refine J.so ?_
    refine JT.c rfl ?_
    refine JT.done ?_
    refine J.ret ?_
    refine seqQ_r ?_
    refine retQD (.t rfl .nil) ?_ (Up.of (Imp.refl _))
    rotate_left
    refine J.skip ?_
    refine seqQ_n ?_
    refine J.so ?_
    refine JT.c rfl ?_
    refine JT.done ?_
    refine J.ret ?_
    refine retQD (.t rfl .nil) ?_ (Up.of (Imp.refl _))
    rotate_left
  all_goals (simp only [mkRet]; unfold icmp; (repeat (first | rw [if_pos (by (first | assumption | omega | grind))] | rw [if_neg (by (first | assumption | omega | grind))])))
instance : TE 3 Int intE 1 := ⟨intE_one, by decide⟩
theorem cmpOr_fn {a : Option Addr} {c : Nat} {x y : Int} {F : List Assn} [Hs : HS F (.slice a 2 c) Int intE 1 c [x, y]] : Meets Try.prog 88 [.slice a 2 c] F (Det (i64 (if x ≠ 0 then x else y)) F) := by
  refine Meets.intro b88 k88 (by simp) ?_
  have Hs' : HS F (.slice a [x, y].length c) Int intE 1 c [x, y] := Hs
  refine J.sl Hs' (fun hC hL hN => ?_)
  focus
    refine J.so ?_
    refine JT.c rfl ?_
    refine JT.done ?_
    refine J.so ?_
    refine JT.c rfl ?_
    refine JT.done ?_
    refine J.seq ?_
    refine J.so ?_
    iterate 3 refine JT.c rfl ?_
    refine JT.done ?_
    refine J.block ?_
  refine J.lp (ι := Nat) (fun k => k ≤ 2 ∧ ∀ j, j < k → nth [x, y] j = 0) (fun k => [(8, i64 k)]) (fun _ => F) (fun k => 2 - k) 0 ⟨by omega, fun j hj => by omega⟩ (by (repeat (first | exact subx_nil | apply subx_dup rfl | apply subx_cons rfl))) (Up.refl _) (fun k hk => ?_)
  obtain ⟨hk, hn⟩ := hk
  focus
    refine J.so ?_
    refine JT.y rfl (Ev.int rfl rfl rfl) ?_
    refine JT.done ?_
    refine J.seq ?_
    refine J.c rfl (fun h1 => ?_) (fun h1 => ?_)
    refine J.skip ?_
    refine seqQ_n ?_
    refine J.seq ?_
    refine J.block ?_
    refine J.so ?_
    refine JT.y rfl (Ev.iC rfl rfl (by (try simp only [List.length_nil, List.length_cons, List.length_append, List.length_take, List.length_drop, List.length_set]); omega)) ?_
    refine JT.y rfl (Ev.LE0 rfl (by (try simp only [List.length_nil, List.length_cons, List.length_append, List.length_take, List.length_drop, List.length_set]); omega) rfl) ?_
    refine JT.c rfl ?_
    refine JT.done ?_
    refine J.so ?_
    iterate 2 refine JT.c rfl ?_
    refine JT.y rfl (Ev.int rfl rfl rfl) ?_
    refine JT.done ?_
    refine J.c rfl (fun h2 => ?_) (fun h2 => ?_)
    refine J.so ?_
    iterate 2 refine JT.c rfl ?_
    refine JT.done ?_
    refine J.ret ?_
    refine blockQ_r ?_
    iterate 2 refine seqQ_r ?_
    refine blockQ_r ?_
    refine seqQ_r ?_
    refine retQD (.t rfl .nil) ?_ (Up.of (Imp.refl _))
    rotate_left
    refine J.skip ?_
    refine blockQ_n ?_
    refine seqQ_n ?_
    refine J.ops ?_
    refine JT.y rfl (Ev.addN rfl rfl (by omega)) ?_
    refine JT.c rfl ?_
    refine JT.done ?_
    refine seqQ_n ?_
    refine ⟨_, ?_, (by omega), (subx_cons rfl (subx_dup rfl (subx_cons rfl (subx_cons rfl (subx_cons rfl (subx_cons rfl (subx_cons rfl subx_nil))))))), (Up.of (Imp.refl _))⟩
    rotate_left
    refine J.exit ?_
    iterate 2 refine seqQ_x ?_
    refine blockQ_hit ?_
    refine seqQ_n ?_
    refine J.so ?_
    iterate 2 refine JT.c rfl ?_
    refine JT.done ?_
    refine J.ret ?_
    refine retQD (.t rfl .nil) ?_ (Up.of (Imp.refl _))
    rotate_left
  · simp only [mkRet]; congr 2
    have hk' : k = 0 ∨ k = 1 := by omega
    rcases hk' with rfl | rfl
    · have h2' : ¬ x = 0 := h2
      simp [nth, h2']
    · have h0 : x = 0 := hn 0 (by omega)
      simp [nth, h0]
  · exact ⟨by omega, all_lt_succ hn h2⟩
  · simp only [mkRet]; congr 2
    have h0 : x = 0 := hn 0 (by omega)
    have h0' : y = 0 := hn 1 (by omega)
    simp [h0, h0']

theorem kCompare_fn (a b : Key) (F : List Assn) : Meets Try.prog 96 [kv a, kv b] F (Det (i64 (kcmp a b)) F) := by
  refine Meets.intro b96 k96 (by simp) ?_
  focus
    refine J.so ?_
    refine JT.box rfl (fun b2 => ?_)
    refine JT.box rfl (fun b3 => ?_)
    refine JT.c rfl ?_
    refine JT.done ?_
    refine J.so ?_
    refine JT.y rfl (Ev.fa' 0 rfl rfl) ?_
    refine JT.y rfl (Ev.L rfl rfl) ?_
    refine JT.y rfl (Ev.fa' 0 rfl rfl) ?_
    refine JT.y rfl (Ev.L rfl rfl) ?_
    refine JT.y rfl (Ev.fa' 1 rfl rfl) ?_
    refine JT.y rfl (Ev.L rfl rfl) ?_
    refine JT.y rfl (Ev.fa' 1 rfl rfl) ?_
    refine JT.y rfl (Ev.L rfl rfl) ?_
    refine JT.callD rfl rfl (Up.of (Imp.refl _)) (cmpRank_fn _ _ _) ?_
    iterate 2 refine JT.yA rfl (Ev.L rfl rfl) ?_
    refine JT.callD rfl rfl (Up.of (Imp.refl _)) (cmpU_fn _ _ _) ?_
    refine JT.bT [_, _] (by repeat (first | exact Cells.nil | apply Cells.z | (apply Cells.cl; rfl; rfl; rfl))) rfl (by decide) (fun a15 => ?_)
    refine JT.callD rfl rfl (Up.of (Imp.refl _)) cmpOr_fn ?_
    refine JT.c rfl ?_
    refine JT.done ?_
    refine J.ret ?_
    refine retQD (.t rfl .nil) rfl (Up.of (.dropT (.dropT (.dropT (Imp.refl _)))))
theorem kLess_fn (a b : Key) (F : List Assn) : Meets Try.prog 85 [kv a, kv b] F (Det (.bool (decide (keyLt a b))) F) := by
  refine Meets.intro b85 k85 (by simp) ?_
  focus
    refine J.so ?_
    refine JT.box rfl (fun b2 => ?_)
    refine JT.box rfl (fun b3 => ?_)
    refine JT.c rfl ?_
    refine JT.done ?_
    refine J.so ?_
    iterate 2 refine JT.y rfl (Ev.Lw rfl rfl) ?_
    refine JT.callD rfl rfl (Up.of (Imp.refl _)) (kCompare_fn _ _ _) ?_
    refine JT.y rfl (Ev.int rfl rfl rfl) ?_
    refine JT.c rfl ?_
    refine JT.done ?_
    refine J.ret ?_
    refine retQD (.t rfl .nil) ?_ (Up.of (.dropT (.dropT (Imp.refl _))))
  simp only [mkRet, kcmp_lt]
theorem r2At_fn (n : Int) (F : List Assn) : Meets Try.prog 54 [u64 n] F (Det (kv ⟨2, n⟩) F) := by
  refine Meets.intro b54 k54 (by simp) ?_
  focus
    refine J.so ?_
    refine JT.new (fun b2 => ?_)
    refine JT.done ?_
    refine J.so ?_
    refine JT.c rfl ?_
    refine JT.y rfl (Ev.agg (by repeat (first | exact Cells.nil | apply Cells.z | (apply Cells.cl; rfl; rfl; rfl)))) ?_
    refine JT.w rfl rfl rfl rfl rfl ?_
    refine JT.done ?_
    refine J.ret ?_
    refine retQD (.w rfl rfl .nil) rfl (Up.of (.dropT (Imp.refl _)))
end Go.Proofs.Ytojegknfbgflnaa
