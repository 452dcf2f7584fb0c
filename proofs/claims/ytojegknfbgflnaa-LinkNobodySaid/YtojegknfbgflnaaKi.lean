/- Layer 8: records that nobody made. Conditions: none. -/
import Derived.Test.YtojegknfbgflnaaBo
import Derived.Test.YtojegknfbgflnaaKf
set_option linter.unusedSimpArgs false
set_option linter.unusedVariables false
set_option maxRecDepth 100000
set_option maxHeartbeats 2000000
namespace Go.Proofs.Ytojegknfbgflnaa
open Go Go.SL
attribute [local irreducible] pc rc SlT Me Mt It pt ro pur ex sep old Meets
attribute [local irreducible] LockP RecP RecsA LinksP LinksH

def zeroL : List Value := [i64 0, i64 0, u64 0, i64 0, u64 0, .map none]
theorem lnIs_nil (F : List Assn) : Meets Try.prog 59 [.pointer none] F (Det (.bool false) F) := by
  refine Meets.intro b59 k59 (by simp) ?_
  focus
    refine J.so ?_
    refine JT.c rfl ?_
    refine JT.done ?_
    refine J.so ?_
    iterate 3 refine JT.c rfl ?_
    iterate 5 refine JT.skip rfl rfl ?_
    refine JT.y rfl (Ev.pickF rfl rfl) ?_
    refine JT.c rfl ?_
    refine JT.done ?_
    refine J.ret ?_
    refine retQD (.t rfl .nil) rfl (Up.of (Imp.refl _))
theorem lnIs_zero {b T : Nat} {F r : List Assn} [Hs : HP F b T [i64 0, i64 0, u64 0, i64 0, u64 0, .map none] r] : Meets Try.prog 59 [ptr b] F (Det (.bool false) F) := by
  refine Meets.intro b59 k59 (by simp) ?_
  focus
    refine J.so ?_
    refine JT.c rfl ?_
    refine JT.done ?_
    refine J.so ?_
    iterate 3 refine JT.c rfl ?_
    refine JT.yg rfl rfl (fun h1 => Ev.calc rfl) ?_
    refine JT.yg rfl rfl (fun h1 => by simp only [h1, gd_true, gd_false, Bool.not_false, Bool.not_true, Bool.true_and, Bool.and_true]; exact Ev.calc rfl) ?_
    refine JT.yg rfl rfl (fun h1 => by simp only [h1, gd_true, gd_false, Bool.not_false, Bool.not_true, Bool.true_and, Bool.and_true]; exact Ev.fa' 5 rfl rfl) ?_
    refine JT.yg rfl rfl (fun h1 => by simp only [h1, gd_true, gd_false, Bool.not_false, Bool.not_true, Bool.true_and, Bool.and_true]; exact Ev.L rfl rfl) ?_
    refine JT.yg rfl rfl (fun h1 => by simp only [h1, gd_true, gd_false, Bool.not_false, Bool.not_true, Bool.true_and, Bool.and_true]; exact Ev.calc rfl) ?_
    refine JT.y rfl (Ev.pickT rfl rfl) ?_
    refine JT.c rfl ?_
    refine JT.done ?_
    refine J.ret ?_
    refine retQD (.t rfl .nil) rfl (Up.of (Imp.refl _))
theorem lnMay_nil (w : Vec) (F : List Assn) : Meets Try.prog 40 [.pointer none, vv w] F (Det (.bool false) F) := by
  refine Meets.intro b40 k40 (by simp) ?_
  focus
    refine J.so ?_
    refine JT.box rfl (fun b3 => ?_)
    refine JT.c rfl ?_
    refine JT.done ?_
    refine J.seq ?_
    refine J.so ?_
    refine JT.c rfl ?_
    refine JT.callD rfl rfl (Up.of (Imp.refl _)) (lnIs_nil _) ?_
    refine JT.c rfl ?_
    refine JT.done ?_
    refine J.condT rfl ?_
    refine J.so ?_
    refine JT.c rfl ?_
    refine JT.done ?_
    refine J.ret ?_
    refine seqQ_r ?_
    refine retQD (.t rfl .nil) rfl (Up.of (.dropT (Imp.refl _)))
theorem lnMay_zero (w : Vec) {b T : Nat} {F r : List Assn} [Hs : HP F b T [i64 0, i64 0, u64 0, i64 0, u64 0, .map none] r] : Meets Try.prog 40 [ptr b, vv w] F (Det (.bool false) F) := by
  refine Meets.intro b40 k40 (by simp) ?_
  focus
    refine J.so ?_
    refine JT.box rfl (fun b3 => ?_)
    refine JT.c rfl ?_
    refine JT.done ?_
    refine J.seq ?_
    refine J.so ?_
    refine JT.c rfl ?_
    refine JT.callD rfl rfl (Up.of (Imp.refl _)) lnIs_zero ?_
    refine JT.c rfl ?_
    refine JT.done ?_
    refine J.condT rfl ?_
    refine J.so ?_
    refine JT.c rfl ?_
    refine JT.done ?_
    refine J.ret ?_
    refine seqQ_r ?_
    refine retQD (.t rfl .nil) rfl (Up.of (.dropT (Imp.refl _)))
theorem lnGet_nil (w : Vec) (F : List Assn) : Meets Try.prog 30 [.pointer none, vv w] F (Det (.tuple #[rsv RecS.zero none 0, .bool false]) F) := by
  refine Meets.intro b30 k30 (by simp) ?_
  focus
    refine J.so ?_
    refine JT.box rfl (fun b3 => ?_)
    refine JT.new (fun b4 => ?_)
    refine JT.c rfl ?_
    refine JT.done ?_
    refine J.seq ?_
    refine J.so ?_
    refine JT.c rfl ?_
    refine JT.callD rfl rfl (Up.of (Imp.refl _)) (lnIs_nil _) ?_
    refine JT.c rfl ?_
    refine JT.done ?_
    refine J.condT rfl ?_
    refine J.so ?_
    refine JT.y rfl (Ev.agg (by repeat (first | exact Cells.nil | apply Cells.z | (apply Cells.cl; rfl; rfl; rfl)))) ?_
    refine JT.w rfl rfl rfl rfl rfl ?_
    refine JT.c rfl ?_
    refine JT.done ?_
    refine J.ret ?_
    refine seqQ_r ?_
    refine retQD (.w rfl rfl (.t rfl .nil)) rfl (Up.of (.dropT (.dropT (Imp.refl _))))
theorem lnGet_zero (w : Vec) {b T : Nat} {F r : List Assn} [Hs : HP F b T [i64 0, i64 0, u64 0, i64 0, u64 0, .map none] r] : Meets Try.prog 30 [ptr b, vv w] F (Det (.tuple #[rsv RecS.zero none 0, .bool false]) F) := by
  refine Meets.intro b30 k30 (by simp) ?_
  focus
    refine J.so ?_
    refine JT.box rfl (fun b3 => ?_)
    refine JT.new (fun b4 => ?_)
    refine JT.c rfl ?_
    refine JT.done ?_
    refine J.seq ?_
    refine J.so ?_
    refine JT.c rfl ?_
    refine JT.callD rfl rfl (Up.of (Imp.refl _)) lnIs_zero ?_
    refine JT.c rfl ?_
    refine JT.done ?_
    refine J.condT rfl ?_
    refine J.so ?_
    refine JT.y rfl (Ev.agg (by repeat (first | exact Cells.nil | apply Cells.z | (apply Cells.cl; rfl; rfl; rfl)))) ?_
    refine JT.w rfl rfl rfl rfl rfl ?_
    refine JT.c rfl ?_
    refine JT.done ?_
    refine J.ret ?_
    refine seqQ_r ?_
    refine retQD (.w rfl rfl (.t rfl .nil)) rfl (Up.of (.dropT (.dropT (Imp.refl _))))
theorem lnPut_nil (w : Vec) (x y : Ref) (o : Owner) (F : List Assn) : Meets Try.prog 34 [.pointer none, vv w, rv x, rv y, ov o] F (Det (i64 4) F) := by
  refine Meets.intro b34 k34 (by simp) ?_
  focus
    refine J.so ?_
    refine JT.box rfl (fun b6 => ?_)
    refine JT.box rfl (fun b7 => ?_)
    refine JT.box rfl (fun b8 => ?_)
    refine JT.box rfl (fun b9 => ?_)
    refine JT.c rfl ?_
    refine JT.done ?_
    refine J.seq ?_
    refine J.block ?_
    refine J.so ?_
    refine JT.c rfl ?_
    refine JT.callD rfl rfl (Up.of (Imp.refl _)) (lnIs_nil _) ?_
    iterate 2 refine JT.c rfl ?_
    refine JT.done ?_
    refine J.condT rfl ?_
    refine J.so ?_
    refine JT.c rfl ?_
    refine JT.done ?_
    refine J.ret ?_
    refine blockQ_r ?_
    refine seqQ_r ?_
    refine retQD (.t rfl .nil) rfl (Up.of (.dropT (.dropT (.dropT (.dropT (Imp.refl _))))))
theorem lnPut_zero (w : Vec) (x y : Ref) (o : Owner) {b T : Nat} {F r : List Assn} [Hs : HP F b T [i64 0, i64 0, u64 0, i64 0, u64 0, .map none] r] : Meets Try.prog 34 [ptr b, vv w, rv x, rv y, ov o] F (Det (i64 4) F) := by
  refine Meets.intro b34 k34 (by simp) ?_
  focus
    refine J.so ?_
    refine JT.box rfl (fun b6 => ?_)
    refine JT.box rfl (fun b7 => ?_)
    refine JT.box rfl (fun b8 => ?_)
    refine JT.box rfl (fun b9 => ?_)
    refine JT.c rfl ?_
    refine JT.done ?_
    refine J.seq ?_
    refine J.block ?_
    refine J.so ?_
    refine JT.c rfl ?_
    refine JT.callD rfl rfl (Up.of (Imp.refl _)) lnIs_zero ?_
    iterate 2 refine JT.c rfl ?_
    refine JT.done ?_
    refine J.condT rfl ?_
    refine J.so ?_
    refine JT.c rfl ?_
    refine JT.done ?_
    refine J.ret ?_
    refine blockQ_r ?_
    refine seqQ_r ?_
    refine retQD (.t rfl .nil) rfl (Up.of (.dropT (.dropT (.dropT (.dropT (Imp.refl _))))))
theorem lnOwned_nil (w : Vec) (o : Owner) (e : Bool) (F : List Assn) : Meets Try.prog 62 [.pointer none, vv w, ov o, .bool e] F (Det (.tuple #[.pointer none, i64 4]) F) := by
  refine Meets.intro b62 k62 (by simp) ?_
  focus
    refine J.so ?_
    refine JT.box rfl (fun b5 => ?_)
    refine JT.box rfl (fun b6 => ?_)
    iterate 2 refine JT.c rfl ?_
    refine JT.done ?_
    refine J.seq ?_
    refine J.so ?_
    refine JT.c rfl ?_
    refine JT.callD rfl rfl (Up.of (Imp.refl _)) (lnIs_nil _) ?_
    refine JT.c rfl ?_
    refine JT.done ?_
    refine J.condT rfl ?_
    refine J.so ?_
    iterate 2 refine JT.c rfl ?_
    refine JT.done ?_
    refine J.ret ?_
    refine seqQ_r ?_
    refine retQD (.t rfl (.t rfl .nil)) rfl (Up.of (.dropT (.dropT (Imp.refl _))))
theorem lnOwned_zero (w : Vec) (o : Owner) (e : Bool) {b T : Nat} {F r : List Assn} [Hs : HP F b T [i64 0, i64 0, u64 0, i64 0, u64 0, .map none] r] : Meets Try.prog 62 [ptr b, vv w, ov o, .bool e] F (Det (.tuple #[.pointer none, i64 4]) F) := by
  refine Meets.intro b62 k62 (by simp) ?_
  focus
    refine J.so ?_
    refine JT.box rfl (fun b5 => ?_)
    refine JT.box rfl (fun b6 => ?_)
    iterate 2 refine JT.c rfl ?_
    refine JT.done ?_
    refine J.seq ?_
    refine J.so ?_
    refine JT.c rfl ?_
    refine JT.callD rfl rfl (Up.of (Imp.refl _)) lnIs_zero ?_
    refine JT.c rfl ?_
    refine JT.done ?_
    refine J.condT rfl ?_
    refine J.so ?_
    iterate 2 refine JT.c rfl ?_
    refine JT.done ?_
    refine J.ret ?_
    refine seqQ_r ?_
    refine retQD (.t rfl (.t rfl .nil)) rfl (Up.of (.dropT (.dropT (Imp.refl _))))
theorem lnOut_nil (w : Vec) (o : Owner) (F : List Assn) : Meets Try.prog 32 [.pointer none, vv w, ov o] F (Det (.tuple #[.slice none 0 0, i64 4]) F) := by
  refine Meets.intro b32 k32 (by simp) ?_
  focus
    refine J.so ?_
    refine JT.box rfl (fun b4 => ?_)
    refine JT.box rfl (fun b5 => ?_)
    iterate 2 refine JT.c rfl ?_
    refine JT.done ?_
    refine J.so ?_
    refine JT.c rfl ?_
    iterate 2 refine JT.y rfl (Ev.Lw rfl rfl) ?_
    refine JT.callD rfl rfl (Up.of (Imp.refl _)) (lnOwned_nil _ _ _ _) ?_
    iterate 5 refine JT.c rfl ?_
    refine JT.done ?_
    refine J.seq ?_
    refine J.so ?_
    refine JT.c rfl ?_
    refine JT.y rfl (Ev.cneT rfl rfl (by decide)) ?_
    refine JT.done ?_
    refine J.condT rfl ?_
    refine J.so ?_
    iterate 3 refine JT.c rfl ?_
    refine JT.done ?_
    refine J.ret ?_
    refine seqQ_r ?_
    refine retQD (.t rfl (.t rfl .nil)) rfl (Up.of (.dropT (.dropT (Imp.refl _))))
theorem lnOut_zero (w : Vec) (o : Owner) {b T : Nat} {F r : List Assn} [Hs : HP F b T [i64 0, i64 0, u64 0, i64 0, u64 0, .map none] r] : Meets Try.prog 32 [ptr b, vv w, ov o] F (Det (.tuple #[.slice none 0 0, i64 4]) F) := by
  refine Meets.intro b32 k32 (by simp) ?_
  focus
    refine J.so ?_
    refine JT.box rfl (fun b4 => ?_)
    refine JT.box rfl (fun b5 => ?_)
    iterate 2 refine JT.c rfl ?_
    refine JT.done ?_
    refine J.so ?_
    refine JT.c rfl ?_
    iterate 2 refine JT.y rfl (Ev.Lw rfl rfl) ?_
    refine JT.callD rfl rfl (Up.of (Imp.refl _)) (lnOwned_zero _ _ _) ?_
    iterate 5 refine JT.c rfl ?_
    refine JT.done ?_
    refine J.seq ?_
    refine J.so ?_
    refine JT.c rfl ?_
    refine JT.y rfl (Ev.cneT rfl rfl (by decide)) ?_
    refine JT.done ?_
    refine J.condT rfl ?_
    refine J.so ?_
    iterate 3 refine JT.c rfl ?_
    refine JT.done ?_
    refine J.ret ?_
    refine seqQ_r ?_
    refine retQD (.t rfl (.t rfl .nil)) rfl (Up.of (.dropT (.dropT (Imp.refl _))))
theorem lnLeft_nil (w : Vec) (x : Ref) (F : List Assn) : Meets Try.prog 43 [.pointer none, vv w, rv x] F (Det (i64 4) F) := by
  refine Meets.intro b43 k43 (by simp) ?_
  focus
    refine J.so ?_
    refine JT.box rfl (fun b4 => ?_)
    refine JT.box rfl (fun b5 => ?_)
    refine JT.c rfl ?_
    refine JT.done ?_
    refine J.seq ?_
    refine J.so ?_
    refine JT.c rfl ?_
    refine JT.callD rfl rfl (Up.of (Imp.refl _)) (lnIs_nil _) ?_
    refine JT.c rfl ?_
    refine JT.done ?_
    refine J.condT rfl ?_
    refine J.so ?_
    refine JT.c rfl ?_
    refine JT.done ?_
    refine J.ret ?_
    refine seqQ_r ?_
    refine retQD (.t rfl .nil) rfl (Up.of (.dropT (.dropT (Imp.refl _))))
theorem lnLeft_zero (w : Vec) (x : Ref) {b T : Nat} {F r : List Assn} [Hs : HP F b T [i64 0, i64 0, u64 0, i64 0, u64 0, .map none] r] : Meets Try.prog 43 [ptr b, vv w, rv x] F (Det (i64 4) F) := by
  refine Meets.intro b43 k43 (by simp) ?_
  focus
    refine J.so ?_
    refine JT.box rfl (fun b4 => ?_)
    refine JT.box rfl (fun b5 => ?_)
    refine JT.c rfl ?_
    refine JT.done ?_
    refine J.seq ?_
    refine J.so ?_
    refine JT.c rfl ?_
    refine JT.callD rfl rfl (Up.of (Imp.refl _)) lnIs_zero ?_
    refine JT.c rfl ?_
    refine JT.done ?_
    refine J.condT rfl ?_
    refine J.so ?_
    refine JT.c rfl ?_
    refine JT.done ?_
    refine J.ret ?_
    refine seqQ_r ?_
    refine retQD (.t rfl .nil) rfl (Up.of (.dropT (.dropT (Imp.refl _))))
theorem lnRight_nil (w : Vec) (x : Ref) (o : Owner) (F : List Assn) : Meets Try.prog 44 [.pointer none, vv w, rv x, ov o] F (Det (i64 4) F) := by
  refine Meets.intro b44 k44 (by simp) ?_
  focus
    refine J.so ?_
    refine JT.box rfl (fun b5 => ?_)
    refine JT.box rfl (fun b6 => ?_)
    refine JT.box rfl (fun b7 => ?_)
    refine JT.c rfl ?_
    refine JT.done ?_
    refine J.so ?_
    refine JT.c rfl ?_
    iterate 2 refine JT.y rfl (Ev.Lw rfl rfl) ?_
    refine JT.callD rfl rfl (Up.of (Imp.refl _)) (lnOwned_nil _ _ _ _) ?_
    iterate 5 refine JT.c rfl ?_
    refine JT.done ?_
    refine J.seq ?_
    refine J.so ?_
    refine JT.c rfl ?_
    refine JT.y rfl (Ev.cneT rfl rfl (by decide)) ?_
    refine JT.done ?_
    refine J.condT rfl ?_
    refine J.so ?_
    iterate 2 refine JT.c rfl ?_
    refine JT.done ?_
    refine J.ret ?_
    refine seqQ_r ?_
    refine retQD (.t rfl .nil) rfl (Up.of (.dropT (.dropT (.dropT (Imp.refl _)))))
theorem lnRight_zero (w : Vec) (x : Ref) (o : Owner) {b T : Nat} {F r : List Assn} [Hs : HP F b T [i64 0, i64 0, u64 0, i64 0, u64 0, .map none] r] : Meets Try.prog 44 [ptr b, vv w, rv x, ov o] F (Det (i64 4) F) := by
  refine Meets.intro b44 k44 (by simp) ?_
  focus
    refine J.so ?_
    refine JT.box rfl (fun b5 => ?_)
    refine JT.box rfl (fun b6 => ?_)
    refine JT.box rfl (fun b7 => ?_)
    refine JT.c rfl ?_
    refine JT.done ?_
    refine J.so ?_
    refine JT.c rfl ?_
    iterate 2 refine JT.y rfl (Ev.Lw rfl rfl) ?_
    refine JT.callD rfl rfl (Up.of (Imp.refl _)) (lnOwned_zero _ _ _) ?_
    iterate 5 refine JT.c rfl ?_
    refine JT.done ?_
    refine J.seq ?_
    refine J.so ?_
    refine JT.c rfl ?_
    refine JT.y rfl (Ev.cneT rfl rfl (by decide)) ?_
    refine JT.done ?_
    refine J.condT rfl ?_
    refine J.so ?_
    iterate 2 refine JT.c rfl ?_
    refine JT.done ?_
    refine J.ret ?_
    refine seqQ_r ?_
    refine retQD (.t rfl .nil) rfl (Up.of (.dropT (.dropT (.dropT (Imp.refl _)))))
theorem lnLock_nil (w : Vec) (o : Owner) (F : List Assn) : Meets Try.prog 41 [.pointer none, vv w, ov o] F (Det (.tuple #[.bool false, i64 4]) F) := by
  refine Meets.intro b41 k41 (by simp) ?_
  focus
    refine J.so ?_
    refine JT.box rfl (fun b4 => ?_)
    refine JT.box rfl (fun b5 => ?_)
    iterate 2 refine JT.c rfl ?_
    refine JT.done ?_
    refine J.seq ?_
    refine J.so ?_
    refine JT.c rfl ?_
    refine JT.callD rfl rfl (Up.of (Imp.refl _)) (lnIs_nil _) ?_
    refine JT.c rfl ?_
    refine JT.done ?_
    refine J.condT rfl ?_
    refine J.so ?_
    iterate 2 refine JT.c rfl ?_
    refine JT.done ?_
    refine J.ret ?_
    refine seqQ_r ?_
    refine retQD (.t rfl (.t rfl .nil)) rfl (Up.of (.dropT (.dropT (Imp.refl _))))
theorem lnLock_zero (w : Vec) (o : Owner) {b T : Nat} {F r : List Assn} [Hs : HP F b T [i64 0, i64 0, u64 0, i64 0, u64 0, .map none] r] : Meets Try.prog 41 [ptr b, vv w, ov o] F (Det (.tuple #[.bool false, i64 4]) F) := by
  refine Meets.intro b41 k41 (by simp) ?_
  focus
    refine J.so ?_
    refine JT.box rfl (fun b4 => ?_)
    refine JT.box rfl (fun b5 => ?_)
    iterate 2 refine JT.c rfl ?_
    refine JT.done ?_
    refine J.seq ?_
    refine J.so ?_
    refine JT.c rfl ?_
    refine JT.callD rfl rfl (Up.of (Imp.refl _)) lnIs_zero ?_
    refine JT.c rfl ?_
    refine JT.done ?_
    refine J.condT rfl ?_
    refine J.so ?_
    iterate 2 refine JT.c rfl ?_
    refine JT.done ?_
    refine J.ret ?_
    refine seqQ_r ?_
    refine retQD (.t rfl (.t rfl .nil)) rfl (Up.of (.dropT (.dropT (Imp.refl _))))
theorem lnFree_nil (w : Vec) (o : Owner) (F : List Assn) : Meets Try.prog 42 [.pointer none, vv w, ov o] F (Det (.tuple #[ov zO, .bool false, i64 4]) F) := by
  refine Meets.intro b42 k42 (by simp) ?_
  focus
    refine J.so ?_
    refine JT.box rfl (fun b4 => ?_)
    refine JT.box rfl (fun b5 => ?_)
    refine JT.new (fun b6 => ?_)
    iterate 2 refine JT.c rfl ?_
    refine JT.done ?_
    refine J.seq ?_
    refine J.so ?_
    refine JT.c rfl ?_
    refine JT.callD rfl rfl (Up.of (Imp.refl _)) (lnIs_nil _) ?_
    refine JT.c rfl ?_
    refine JT.done ?_
    refine J.condT rfl ?_
    refine J.so ?_
    refine JT.y rfl (Ev.agg (by repeat (first | exact Cells.nil | apply Cells.z | (apply Cells.cl; rfl; rfl; rfl)))) ?_
    refine JT.w rfl rfl rfl rfl rfl ?_
    iterate 2 refine JT.c rfl ?_
    refine JT.done ?_
    refine J.ret ?_
    refine seqQ_r ?_
    refine retQD (.w rfl rfl (.t rfl (.t rfl .nil))) rfl (Up.of (.dropT (.dropT (.dropT (Imp.refl _)))))
theorem lnFree_zero (w : Vec) (o : Owner) {b T : Nat} {F r : List Assn} [Hs : HP F b T [i64 0, i64 0, u64 0, i64 0, u64 0, .map none] r] : Meets Try.prog 42 [ptr b, vv w, ov o] F (Det (.tuple #[ov zO, .bool false, i64 4]) F) := by
  refine Meets.intro b42 k42 (by simp) ?_
  focus
    refine J.so ?_
    refine JT.box rfl (fun b4 => ?_)
    refine JT.box rfl (fun b5 => ?_)
    refine JT.new (fun b6 => ?_)
    iterate 2 refine JT.c rfl ?_
    refine JT.done ?_
    refine J.seq ?_
    refine J.so ?_
    refine JT.c rfl ?_
    refine JT.callD rfl rfl (Up.of (Imp.refl _)) lnIs_zero ?_
    refine JT.c rfl ?_
    refine JT.done ?_
    refine J.condT rfl ?_
    refine J.so ?_
    refine JT.y rfl (Ev.agg (by repeat (first | exact Cells.nil | apply Cells.z | (apply Cells.cl; rfl; rfl; rfl)))) ?_
    refine JT.w rfl rfl rfl rfl rfl ?_
    iterate 2 refine JT.c rfl ?_
    refine JT.done ?_
    refine J.ret ?_
    refine seqQ_r ?_
    refine retQD (.w rfl rfl (.t rfl (.t rfl .nil))) rfl (Up.of (.dropT (.dropT (.dropT (Imp.refl _)))))
theorem lnAll_nil (F : List Assn) : Meets Try.prog 37 [.pointer none] F (Det (.slice none 0 0) F) := by
  refine Meets.intro b37 k37 (by simp) ?_
  focus
    refine J.so ?_
    refine JT.c rfl ?_
    refine JT.done ?_
    refine J.seq ?_
    refine J.so ?_
    refine JT.c rfl ?_
    refine JT.callD rfl rfl (Up.of (Imp.refl _)) (lnIs_nil _) ?_
    refine JT.c rfl ?_
    refine JT.done ?_
    refine J.condT rfl ?_
    refine J.so ?_
    refine JT.c rfl ?_
    refine JT.done ?_
    refine J.ret ?_
    refine seqQ_r ?_
    refine retQD (.t rfl .nil) rfl (Up.of (Imp.refl _))
theorem lnAll_zero {b T : Nat} {F r : List Assn} [Hs : HP F b T [i64 0, i64 0, u64 0, i64 0, u64 0, .map none] r] : Meets Try.prog 37 [ptr b] F (Det (.slice none 0 0) F) := by
  refine Meets.intro b37 k37 (by simp) ?_
  focus
    refine J.so ?_
    refine JT.c rfl ?_
    refine JT.done ?_
    refine J.seq ?_
    refine J.so ?_
    refine JT.c rfl ?_
    refine JT.callD rfl rfl (Up.of (Imp.refl _)) lnIs_zero ?_
    refine JT.c rfl ?_
    refine JT.done ?_
    refine J.condT rfl ?_
    refine J.so ?_
    refine JT.c rfl ?_
    refine JT.done ?_
    refine J.ret ?_
    refine seqQ_r ?_
    refine retQD (.t rfl .nil) rfl (Up.of (Imp.refl _))

theorem r8Same_zero (F : List Assn) : Meets Try.prog 28 [rsv RecS.zero none 0, .agg #[i64 0, u64 0, i64 0, i64 0, u64 0, i64 0, u64 0, i64 0, i64 0, u64 0, i64 0, u64 0, .bool false, i64 0, i64 0, .slice none 0 0]] F (Det (.bool true) F) := by
  letI : HS F (.slice none RecS.zero.waits.length 0) Owner ownerC 2 0 RecS.zero.waits :=
    ⟨fun h hs => Rd.of (m := true) (xs := ([] : List Owner)) (enc := ownerC) (sz := 2) (c := 0) (sv := .slice none 0 0) Has.here h (hs.nilS true (by decide))⟩
  have h := r8Same_fn (a1 := none) (a2 := none) (c1 := 0) (c2 := 0) (s := RecS.zero) (t := RecS.zero) (F := F)
  rw [decide_eq_true rfl] at h
  exact h

theorem LinkNobody_fn (x : KOp) (F : List Assn) : Meets Try.prog 13 [kov x] F (Det (.bool true) F) := by
  refine Meets.intro b13 k13 (by simp) ?_
  focus
    refine J.so ?_
    refine JT.box rfl (fun b1 => ?_)
    refine JT.c rfl ?_
    refine JT.done ?_
    refine J.so ?_
    refine JT.c rfl ?_
    refine JT.done ?_
    refine J.seq ?_
    refine J.so ?_
    refine JT.c rfl ?_
    refine JT.y rfl (Ev.agg (by repeat (first | exact Cells.nil | apply Cells.z | (apply Cells.cl; rfl; rfl; rfl)))) ?_
    refine JT.box rfl (fun b17 => ?_)
  refine JT.bslE pE [none, some b17] (by repeat (first | exact Cells.nil | apply Cells.z | (apply Cells.cl; rfl; rfl; rfl))) rfl (by decide) (by decide) pE_one (fun a18 => ?_)
  focus
    iterate 2 refine JT.c rfl ?_
    refine JT.done ?_
    refine J.block ?_
  refine J.lp (ι := Nat) (fun k => k ≤ 2) (fun k => [(20, i64 (k : Int))]) (fun _ => SlT true pE 1 (.slice a18 [none, some b17].length 2) 2 [none, some b17] :: pc b17 93 [i64 0, i64 0, u64 0, i64 0, u64 0, .map none] :: pc b1 66 (kopC x) :: F) (fun k => 2 - k) 0 (by omega) (by (repeat (first | exact subx_nil | apply subx_dup rfl | apply subx_cons rfl))) (by (first | (refine Up.of ?_; (repeat (first | exact Imp.refl _ | (apply Imp.take; (· (repeat (first | exact Has.here | assumption | apply Has.there)))) | fail | apply Imp.dropT | exact Imp.nil _)); done) | (refine Up.frz (by (repeat (first | exact Has.here | assumption | apply Has.there))) ?_; refine Up.of ?_; (repeat (first | exact Imp.refl _ | (apply Imp.take; (· (repeat (first | exact Has.here | assumption | apply Has.there)))) | fail | apply Imp.dropT | exact Imp.nil _)); done))) (fun k hk => ?_)
  obtain rfl | rfl | rfl : k = 0 ∨ k = 1 ∨ k = 2 := by omega
  focus
    refine J.so ?_
    refine JT.y rfl (Ev.cltT rfl rfl (by (try simp only [List.length_nil, List.length_cons, List.length_append, List.length_take, List.length_drop, List.length_set]); omega)) ?_
    refine JT.done ?_
    refine J.seq ?_
    refine J.condT rfl ?_
    refine J.skip ?_
    refine seqQ_n ?_
    refine J.seq ?_
    refine J.block ?_
    refine J.so ?_
    refine JT.y rfl (Ev.iC rfl rfl (by (try simp only [List.length_nil, List.length_cons, List.length_append, List.length_take, List.length_drop, List.length_set]); omega)) ?_
    refine JT.y rfl (Ev.LE0 rfl (by (try simp only [List.length_nil, List.length_cons, List.length_append, List.length_take, List.length_drop, List.length_set]); omega) rfl) ?_
    refine JT.c rfl ?_
    refine JT.done ?_
    refine J.so ?_
    refine JT.c rfl ?_
    refine JT.y rfl (Ev.fa' 1 rfl rfl) ?_
    refine JT.y rfl (Ev.Lf rfl (Nat.le_of_ble_eq_true rfl)) ?_
    refine JT.callD rfl rfl (Up.of (Imp.refl _)) (lnGet_nil _ _) ?_
    iterate 3 refine JT.c rfl ?_
    refine JT.new (fun b6 => ?_)
    refine JT.w rfl rfl rfl rfl rfl ?_
    refine JT.c rfl ?_
    refine JT.done ?_
    refine J.so ?_
    refine JT.c rfl ?_
    refine JT.y rfl (Ev.fa' 1 rfl rfl) ?_
    refine JT.y rfl (Ev.Lf rfl (Nat.le_of_ble_eq_true rfl)) ?_
    refine JT.y rfl (Ev.fa' 13 rfl rfl) ?_
    refine JT.y rfl (Ev.Lf rfl (Nat.le_of_ble_eq_true rfl)) ?_
    refine JT.callD rfl rfl (Up.of (Imp.refl _)) (lnOut_nil _ _ _) ?_
    iterate 5 refine JT.c rfl ?_
    refine JT.done ?_
    refine J.so ?_
    refine JT.c rfl ?_
    refine JT.y rfl (Ev.fa' 1 rfl rfl) ?_
    refine JT.y rfl (Ev.Lf rfl (Nat.le_of_ble_eq_true rfl)) ?_
    refine JT.y rfl (Ev.fa' 13 rfl rfl) ?_
    refine JT.y rfl (Ev.Lf rfl (Nat.le_of_ble_eq_true rfl)) ?_
    refine JT.callD rfl rfl (Up.of (Imp.refl _)) (lnLock_nil _ _ _) ?_
    iterate 5 refine JT.c rfl ?_
    refine JT.done ?_
    refine J.so ?_
    refine JT.c rfl ?_
    refine JT.y rfl (Ev.fa' 1 rfl rfl) ?_
    refine JT.y rfl (Ev.Lf rfl (Nat.le_of_ble_eq_true rfl)) ?_
    refine JT.y rfl (Ev.fa' 13 rfl rfl) ?_
    refine JT.y rfl (Ev.Lf rfl (Nat.le_of_ble_eq_true rfl)) ?_
    refine JT.callD rfl rfl (Up.of (Imp.refl _)) (lnFree_nil _ _ _) ?_
    iterate 4 refine JT.c rfl ?_
    refine JT.new (fun b12 => ?_)
    refine JT.w rfl rfl rfl rfl rfl ?_
    iterate 2 refine JT.c rfl ?_
    refine JT.done ?_
    refine J.seq ?_
    refine J.so ?_
    refine JT.c rfl ?_
    refine JT.y rfl (Ev.fa' 1 rfl rfl) ?_
    refine JT.y rfl (Ev.Lf rfl (Nat.le_of_ble_eq_true rfl)) ?_
    refine JT.y rfl (Ev.fa' 3 rfl rfl) ?_
    refine JT.y rfl (Ev.Lf rfl (Nat.le_of_ble_eq_true rfl)) ?_
    refine JT.y rfl (Ev.fa' 8 rfl rfl) ?_
    refine JT.y rfl (Ev.Lf rfl (Nat.le_of_ble_eq_true rfl)) ?_
    refine JT.y rfl (Ev.fa' 13 rfl rfl) ?_
    refine JT.y rfl (Ev.Lf rfl (Nat.le_of_ble_eq_true rfl)) ?_
    refine JT.callD rfl rfl (Up.of (Imp.refl _)) (lnPut_nil _ _ _ _ _) ?_
    refine JT.y rfl (Ev.cneF rfl rfl (by decide)) ?_
    refine JT.c rfl ?_
    refine JT.gk rfl ?_
    refine JT.c rfl ?_
    refine JT.gk rfl ?_
    refine JT.y rfl (Ev.fa' 1 rfl rfl) ?_
    refine JT.gk rfl ?_
    refine JT.y rfl (Ev.Lf rfl (Nat.le_of_ble_eq_true rfl)) ?_
    refine JT.gk rfl ?_
    refine JT.y rfl (Ev.fa' 3 rfl rfl) ?_
    refine JT.gk rfl ?_
    refine JT.y rfl (Ev.Lf rfl (Nat.le_of_ble_eq_true rfl)) ?_
    refine JT.gk rfl ?_
    refine JT.callD rfl rfl (Up.of (Imp.refl _)) (lnLeft_nil _ _ _) ?_
    refine JT.gk rfl ?_
    refine JT.y rfl (Ev.cneF rfl rfl (by decide)) ?_
    refine JT.y rfl (Ev.pickF rfl rfl) ?_
    refine JT.c rfl ?_
    refine JT.gk rfl ?_
    refine JT.c rfl ?_
    refine JT.gk rfl ?_
    refine JT.y rfl (Ev.fa' 1 rfl rfl) ?_
    refine JT.gk rfl ?_
    refine JT.y rfl (Ev.Lf rfl (Nat.le_of_ble_eq_true rfl)) ?_
    refine JT.gk rfl ?_
    refine JT.y rfl (Ev.fa' 3 rfl rfl) ?_
    refine JT.gk rfl ?_
    refine JT.y rfl (Ev.Lf rfl (Nat.le_of_ble_eq_true rfl)) ?_
    refine JT.gk rfl ?_
    refine JT.y rfl (Ev.fa' 13 rfl rfl) ?_
    refine JT.gk rfl ?_
    refine JT.y rfl (Ev.Lf rfl (Nat.le_of_ble_eq_true rfl)) ?_
    refine JT.gk rfl ?_
    refine JT.callD rfl rfl (Up.of (Imp.refl _)) (lnRight_nil _ _ _ _) ?_
    refine JT.gk rfl ?_
    refine JT.y rfl (Ev.cneF rfl rfl (by decide)) ?_
    refine JT.y rfl (Ev.pickF rfl rfl) ?_
    refine JT.c rfl ?_
    refine JT.gk rfl ?_
    refine JT.c rfl ?_
    refine JT.gk rfl ?_
    refine JT.y rfl (Ev.cneF rfl rfl (by decide)) ?_
    refine JT.y rfl (Ev.pickF rfl rfl) ?_
    refine JT.c rfl ?_
    refine JT.gk rfl ?_
    refine JT.c rfl ?_
    refine JT.gk rfl ?_
    refine JT.y rfl (Ev.cneF rfl rfl (by decide)) ?_
    refine JT.y rfl (Ev.pickF rfl rfl) ?_
    refine JT.c rfl ?_
    refine JT.gk rfl ?_
    refine JT.c rfl ?_
    refine JT.gk rfl ?_
    refine JT.y rfl (Ev.cneF rfl rfl (by decide)) ?_
    refine JT.y rfl (Ev.pickF rfl rfl) ?_
    refine JT.done ?_
    refine J.condF rfl ?_
    refine J.skip ?_
    refine seqQ_n ?_
    refine J.so ?_
    refine JT.c rfl ?_
    refine JT.y rfl (Ev.fa' 1 rfl rfl) ?_
    refine JT.y rfl (Ev.Lf rfl (Nat.le_of_ble_eq_true rfl)) ?_
    refine JT.callD rfl rfl (Up.of (Imp.refl _)) (lnMay_nil _ _) ?_
    refine JT.c rfl ?_
    refine JT.gk rfl ?_
    refine JT.c rfl ?_
    refine JT.y rfl (Ev.pickF rfl rfl) ?_
    refine JT.c rfl ?_
    refine JT.gk rfl ?_
    refine JT.c rfl ?_
    refine JT.y rfl (Ev.pickF rfl rfl) ?_
    refine JT.c rfl ?_
    refine JT.gk rfl ?_
    refine JT.c rfl ?_
    refine JT.y rfl (Ev.pickF rfl rfl) ?_
    refine JT.c rfl ?_
    refine JT.gk rfl ?_
    refine JT.y rfl (Ev.Lw rfl rfl) ?_
    refine JT.gk rfl ?_
    refine JT.y rfl (Ev.agg (by repeat (first | exact Cells.nil | apply Cells.z | (apply Cells.cl; rfl; rfl; rfl)))) ?_
    refine JT.gk rfl ?_
    refine JT.y rfl (Ev.eqs rfl rfl (by repeat (first | exact EqC.nil | apply EqC.i | apply EqC.b | apply EqC.s))) ?_
    refine JT.y rfl (Ev.pickF rfl rfl) ?_
    refine JT.c rfl ?_
    refine JT.gk rfl ?_
    refine JT.y rfl (Ev.Lw rfl rfl) ?_
    refine JT.gk rfl ?_
    refine JT.y rfl (Ev.agg (by repeat (first | exact Cells.nil | apply Cells.z | (apply Cells.cl; rfl; rfl; rfl)))) ?_
    refine JT.gk rfl ?_
    refine JT.callD rfl rfl (Up.of (Imp.refl _)) (r8Same_zero _) ?_
    refine JT.gk rfl ?_
    refine JT.c rfl ?_
    refine JT.y rfl (Ev.pickF rfl rfl) ?_
    refine JT.c rfl ?_
    refine JT.gk rfl ?_
    refine JT.c rfl ?_
    refine JT.gk rfl ?_
    refine JT.c rfl ?_
    refine JT.gk rfl ?_
    refine JT.c rfl ?_
    refine JT.gk rfl ?_
    refine JT.callD rfl rfl (Up.of (Imp.refl _)) (lnAll_nil _) ?_
    refine JT.gk rfl ?_
    refine JT.c rfl ?_
    refine JT.gk rfl ?_
    refine JT.y rfl (Ev.addN rfl rfl (by omega)) ?_
    refine JT.gk rfl ?_
    refine JT.y rfl (Ev.cneF rfl rfl (by omega)) ?_
    refine JT.y rfl (Ev.pickF rfl rfl) ?_
    refine JT.done ?_
    refine J.condF rfl ?_
    refine J.skip ?_
    refine blockQ_n ?_
    refine seqQ_n ?_
    refine J.ops ?_
    refine JT.y rfl (Ev.addN rfl rfl (by omega)) ?_
    refine JT.c rfl ?_
    refine JT.done ?_
    refine seqQ_n ?_
    refine ⟨_, ?_, (by omega), (subx_cons rfl (subx_dup rfl (subx_cons rfl (subx_cons rfl (subx_cons rfl (subx_cons rfl (subx_cons rfl (subx_cons rfl (subx_cons rfl (subx_cons rfl (subx_cons rfl subx_nil))))))))))), (Up.of (.take (.there (.there .here)) (.take (.there (.there .here)) (.take (.there (.there .here)) (.dropT (.dropT (Imp.refl _)))))))⟩
    omega
  focus
    refine J.so ?_
    refine JT.y rfl (Ev.cltT rfl rfl (by (try simp only [List.length_nil, List.length_cons, List.length_append, List.length_take, List.length_drop, List.length_set]); omega)) ?_
    refine JT.done ?_
    refine J.seq ?_
    refine J.condT rfl ?_
    refine J.skip ?_
    refine seqQ_n ?_
    refine J.seq ?_
    refine J.block ?_
    refine J.so ?_
    refine JT.y rfl (Ev.iC rfl rfl (by (try simp only [List.length_nil, List.length_cons, List.length_append, List.length_take, List.length_drop, List.length_set]); omega)) ?_
    refine JT.y rfl (Ev.LE0 rfl (by (try simp only [List.length_nil, List.length_cons, List.length_append, List.length_take, List.length_drop, List.length_set]); omega) rfl) ?_
    refine JT.c rfl ?_
    refine JT.done ?_
    refine J.so ?_
    refine JT.c rfl ?_
    refine JT.y rfl (Ev.fa' 1 rfl rfl) ?_
    refine JT.y rfl (Ev.Lf rfl (Nat.le_of_ble_eq_true rfl)) ?_
    refine JT.callD rfl rfl (Up.of (Imp.refl _)) (lnGet_zero _) ?_
    iterate 3 refine JT.c rfl ?_
    refine JT.new (fun b6 => ?_)
    refine JT.w rfl rfl rfl rfl rfl ?_
    refine JT.c rfl ?_
    refine JT.done ?_
    refine J.so ?_
    refine JT.c rfl ?_
    refine JT.y rfl (Ev.fa' 1 rfl rfl) ?_
    refine JT.y rfl (Ev.Lf rfl (Nat.le_of_ble_eq_true rfl)) ?_
    refine JT.y rfl (Ev.fa' 13 rfl rfl) ?_
    refine JT.y rfl (Ev.Lf rfl (Nat.le_of_ble_eq_true rfl)) ?_
    refine JT.callD rfl rfl (Up.of (Imp.refl _)) (lnOut_zero _ _) ?_
    iterate 5 refine JT.c rfl ?_
    refine JT.done ?_
    refine J.so ?_
    refine JT.c rfl ?_
    refine JT.y rfl (Ev.fa' 1 rfl rfl) ?_
    refine JT.y rfl (Ev.Lf rfl (Nat.le_of_ble_eq_true rfl)) ?_
    refine JT.y rfl (Ev.fa' 13 rfl rfl) ?_
    refine JT.y rfl (Ev.Lf rfl (Nat.le_of_ble_eq_true rfl)) ?_
    refine JT.callD rfl rfl (Up.of (Imp.refl _)) (lnLock_zero _ _) ?_
    iterate 5 refine JT.c rfl ?_
    refine JT.done ?_
    refine J.so ?_
    refine JT.c rfl ?_
    refine JT.y rfl (Ev.fa' 1 rfl rfl) ?_
    refine JT.y rfl (Ev.Lf rfl (Nat.le_of_ble_eq_true rfl)) ?_
    refine JT.y rfl (Ev.fa' 13 rfl rfl) ?_
    refine JT.y rfl (Ev.Lf rfl (Nat.le_of_ble_eq_true rfl)) ?_
    refine JT.callD rfl rfl (Up.of (Imp.refl _)) (lnFree_zero _ _) ?_
    iterate 4 refine JT.c rfl ?_
    refine JT.new (fun b12 => ?_)
    refine JT.w rfl rfl rfl rfl rfl ?_
    iterate 2 refine JT.c rfl ?_
    refine JT.done ?_
    refine J.seq ?_
    refine J.so ?_
    refine JT.c rfl ?_
    refine JT.y rfl (Ev.fa' 1 rfl rfl) ?_
    refine JT.y rfl (Ev.Lf rfl (Nat.le_of_ble_eq_true rfl)) ?_
    refine JT.y rfl (Ev.fa' 3 rfl rfl) ?_
    refine JT.y rfl (Ev.Lf rfl (Nat.le_of_ble_eq_true rfl)) ?_
    refine JT.y rfl (Ev.fa' 8 rfl rfl) ?_
    refine JT.y rfl (Ev.Lf rfl (Nat.le_of_ble_eq_true rfl)) ?_
    refine JT.y rfl (Ev.fa' 13 rfl rfl) ?_
    refine JT.y rfl (Ev.Lf rfl (Nat.le_of_ble_eq_true rfl)) ?_
    refine JT.callD rfl rfl (Up.of (Imp.refl _)) (lnPut_zero _ _ _ _) ?_
    refine JT.y rfl (Ev.cneF rfl rfl (by decide)) ?_
    refine JT.c rfl ?_
    refine JT.gk rfl ?_
    refine JT.c rfl ?_
    refine JT.gk rfl ?_
    refine JT.y rfl (Ev.fa' 1 rfl rfl) ?_
    refine JT.gk rfl ?_
    refine JT.y rfl (Ev.Lf rfl (Nat.le_of_ble_eq_true rfl)) ?_
    refine JT.gk rfl ?_
    refine JT.y rfl (Ev.fa' 3 rfl rfl) ?_
    refine JT.gk rfl ?_
    refine JT.y rfl (Ev.Lf rfl (Nat.le_of_ble_eq_true rfl)) ?_
    refine JT.gk rfl ?_
    refine JT.callD rfl rfl (Up.of (Imp.refl _)) (lnLeft_zero _ _) ?_
    refine JT.gk rfl ?_
    refine JT.y rfl (Ev.cneF rfl rfl (by decide)) ?_
    refine JT.y rfl (Ev.pickF rfl rfl) ?_
    refine JT.c rfl ?_
    refine JT.gk rfl ?_
    refine JT.c rfl ?_
    refine JT.gk rfl ?_
    refine JT.y rfl (Ev.fa' 1 rfl rfl) ?_
    refine JT.gk rfl ?_
    refine JT.y rfl (Ev.Lf rfl (Nat.le_of_ble_eq_true rfl)) ?_
    refine JT.gk rfl ?_
    refine JT.y rfl (Ev.fa' 3 rfl rfl) ?_
    refine JT.gk rfl ?_
    refine JT.y rfl (Ev.Lf rfl (Nat.le_of_ble_eq_true rfl)) ?_
    refine JT.gk rfl ?_
    refine JT.y rfl (Ev.fa' 13 rfl rfl) ?_
    refine JT.gk rfl ?_
    refine JT.y rfl (Ev.Lf rfl (Nat.le_of_ble_eq_true rfl)) ?_
    refine JT.gk rfl ?_
    refine JT.callD rfl rfl (Up.of (Imp.refl _)) (lnRight_zero _ _ _) ?_
    refine JT.gk rfl ?_
    refine JT.y rfl (Ev.cneF rfl rfl (by decide)) ?_
    refine JT.y rfl (Ev.pickF rfl rfl) ?_
    refine JT.c rfl ?_
    refine JT.gk rfl ?_
    refine JT.c rfl ?_
    refine JT.gk rfl ?_
    refine JT.y rfl (Ev.cneF rfl rfl (by decide)) ?_
    refine JT.y rfl (Ev.pickF rfl rfl) ?_
    refine JT.c rfl ?_
    refine JT.gk rfl ?_
    refine JT.c rfl ?_
    refine JT.gk rfl ?_
    refine JT.y rfl (Ev.cneF rfl rfl (by decide)) ?_
    refine JT.y rfl (Ev.pickF rfl rfl) ?_
    refine JT.c rfl ?_
    refine JT.gk rfl ?_
    refine JT.c rfl ?_
    refine JT.gk rfl ?_
    refine JT.y rfl (Ev.cneF rfl rfl (by decide)) ?_
    refine JT.y rfl (Ev.pickF rfl rfl) ?_
    refine JT.done ?_
    refine J.condF rfl ?_
    refine J.skip ?_
    refine seqQ_n ?_
    refine J.so ?_
    refine JT.c rfl ?_
    refine JT.y rfl (Ev.fa' 1 rfl rfl) ?_
    refine JT.y rfl (Ev.Lf rfl (Nat.le_of_ble_eq_true rfl)) ?_
    refine JT.callD rfl rfl (Up.of (Imp.refl _)) (lnMay_zero _) ?_
    refine JT.c rfl ?_
    refine JT.gk rfl ?_
    refine JT.c rfl ?_
    refine JT.y rfl (Ev.pickF rfl rfl) ?_
    refine JT.c rfl ?_
    refine JT.gk rfl ?_
    refine JT.c rfl ?_
    refine JT.y rfl (Ev.pickF rfl rfl) ?_
    refine JT.c rfl ?_
    refine JT.gk rfl ?_
    refine JT.c rfl ?_
    refine JT.y rfl (Ev.pickF rfl rfl) ?_
    refine JT.c rfl ?_
    refine JT.gk rfl ?_
    refine JT.y rfl (Ev.Lw rfl rfl) ?_
    refine JT.gk rfl ?_
    refine JT.y rfl (Ev.agg (by repeat (first | exact Cells.nil | apply Cells.z | (apply Cells.cl; rfl; rfl; rfl)))) ?_
    refine JT.gk rfl ?_
    refine JT.y rfl (Ev.eqs rfl rfl (by repeat (first | exact EqC.nil | apply EqC.i | apply EqC.b | apply EqC.s))) ?_
    refine JT.y rfl (Ev.pickF rfl rfl) ?_
    refine JT.c rfl ?_
    refine JT.gk rfl ?_
    refine JT.y rfl (Ev.Lw rfl rfl) ?_
    refine JT.gk rfl ?_
    refine JT.y rfl (Ev.agg (by repeat (first | exact Cells.nil | apply Cells.z | (apply Cells.cl; rfl; rfl; rfl)))) ?_
    refine JT.gk rfl ?_
    refine JT.callD rfl rfl (Up.of (Imp.refl _)) (r8Same_zero _) ?_
    refine JT.gk rfl ?_
    refine JT.c rfl ?_
    refine JT.y rfl (Ev.pickF rfl rfl) ?_
    refine JT.c rfl ?_
    refine JT.gk rfl ?_
    refine JT.c rfl ?_
    refine JT.gk rfl ?_
    refine JT.c rfl ?_
    refine JT.gk rfl ?_
    refine JT.c rfl ?_
    refine JT.gk rfl ?_
    refine JT.callD rfl rfl (Up.of (Imp.refl _)) lnAll_zero ?_
    refine JT.gk rfl ?_
    refine JT.c rfl ?_
    refine JT.gk rfl ?_
    refine JT.y rfl (Ev.addN rfl rfl (by omega)) ?_
    refine JT.gk rfl ?_
    refine JT.y rfl (Ev.cneF rfl rfl (by omega)) ?_
    refine JT.y rfl (Ev.pickF rfl rfl) ?_
    refine JT.done ?_
    refine J.condF rfl ?_
    refine J.skip ?_
    refine blockQ_n ?_
    refine seqQ_n ?_
    refine J.ops ?_
    refine JT.y rfl (Ev.addN rfl rfl (by omega)) ?_
    refine JT.c rfl ?_
    refine JT.done ?_
    refine seqQ_n ?_
    refine ⟨_, ?_, (by omega), (subx_cons rfl (subx_dup rfl (subx_cons rfl (subx_cons rfl (subx_cons rfl (subx_cons rfl (subx_cons rfl (subx_cons rfl (subx_cons rfl (subx_cons rfl (subx_cons rfl subx_nil))))))))))), (Up.of (.take (.there (.there .here)) (.take (.there (.there .here)) (.take (.there (.there .here)) (.dropT (.dropT (Imp.refl _)))))))⟩
    omega
  focus
    refine J.so ?_
    refine JT.y rfl (Ev.cltF rfl rfl (by (try simp only [List.length_nil, List.length_cons, List.length_append, List.length_take, List.length_drop, List.length_set]); omega)) ?_
    refine JT.done ?_
    refine J.seq ?_
    refine J.condF rfl ?_
    refine J.exit ?_
    iterate 2 refine seqQ_x ?_
    refine blockQ_hit ?_
    refine seqQ_n ?_
    refine J.so ?_
    refine JT.callD rfl rfl (Up.of (Imp.refl _)) (l08awake_fn _) ?_
    refine JT.c rfl ?_
    refine JT.done ?_
    refine J.ret ?_
    refine retQD (.t rfl .nil) rfl (Up.of (.dropT (.dropT (.dropT (Imp.refl _)))))
end Go.Proofs.Ytojegknfbgflnaa
