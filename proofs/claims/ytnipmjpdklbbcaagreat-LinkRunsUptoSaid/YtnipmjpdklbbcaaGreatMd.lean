/- The law LinkSorted: what its function does. Conditions: none. -/
import Derived.Test.YtnipmjpdklbbcaaGreatMb
import Derived.Test.YtnipmjpdklbbcaaGreatMc
import Derived.Test.YtnipmjpdklbbcaaGreatKf
set_option linter.unusedSimpArgs false
set_option linter.unusedVariables false
set_option maxRecDepth 100000
set_option maxHeartbeats 4000000
namespace Go.Proofs.YtnipmjpdklbbcaaGreat
open Go Go.SL
attribute [local irreducible] pc rc SlT Me Mt It pt ro pur ex sep old Meets
attribute [local irreducible] LockP RecP RecsA LinksP LinksH WaitsA

instance : FS recEC 2 5 refC (fun x => x.s.left) := ⟨fun _ => rfl⟩
instance : FS recEC 7 5 refC (fun x => x.s.right) := ⟨fun _ => rfl⟩
instance : FS recEC 0 2 vecC (fun x => x.s.w) := ⟨fun _ => rfl⟩
theorem r2Check_fn (k : Key) (F : List Assn) : Meets Tryz.prog 77 [kv k] F (Det (i64 (kCE k)) F) := by
  refine Meets.intro b77 k77 (by simp) ?_
  focus
   refine zs <| yB rfl fun b1 => zc rfl <| zfl rfl rfl rfl <| zj rfl rfl rfl <| zh rfl rfl (fun h1 => .fa' 0 rfl rfl) <| zh rfl rfl (fun h1 => by rw [h1]; exact .L rfl rfl) <| zh rfl rfl (fun h1 => by rw [h1]; exact .int rfl rfl rfl) <| zh rfl rfl (fun h1 => by rw [h1]; exact .calc rfl) <| JT.yh2 rfl rfl (fun h1 h1' => Ev.fa' 0 rfl rfl) <| JT.yh2 rfl rfl (fun h1 h1' => by rw [h1, h1']; exact .L rfl rfl) <| JT.yh2 rfl rfl (fun h1 h1' => by rw [h1, h1']; exact .int rfl rfl rfl) ?_
   refine zh rfl rfl (fun h1 => by rw [h1]; exact .pickO rfl rfl rfl) <| zh rfl rfl (fun h1 => by rw [h1]; exact .calc rfl) <| JT.yg2 rfl rfl (fun h1 h1' => Ev.fa' 1 rfl rfl) <| JT.yg2 rfl rfl (fun h1 h1' => by rw [h1, h1']; exact .L rfl rfl) <| JT.yg2 rfl rfl (fun h1 h1' => by rw [h1, h1']; exact .int rfl rfl rfl) <| zh rfl rfl (fun h1 => by rw [h1]; exact .pickA rfl rfl rfl) <| zy (.pickO rfl rfl rfl) <| zd <| zq <| zi rfl (fun h1 => ?_) (fun h1 => ?_)
   refine zs <| zc rfl <| zd <| zr <| yR (.t rfl .nil) ?_ (.of (.d .rf))
   rotate_left
   refine zk <| zs <| zc rfl <| zd <| zr <| yR (.t rfl .nil) ?_ (.of (.d .rf))
   rotate_left
  all_goals simp only [mkRet]
  · rw [kCE, if_pos (by unfold keyOk; omega)]
  · rw [kCE, if_neg (by unfold keyOk; omega)]
theorem zR_cells (x : Ref) : x = zR ↔ x.id = 0 ∧ x.key.rank = 0 ∧ x.key.n = 0 ∧ x.vec.len = 0 ∧ x.vec.bits = 0 := by
  obtain ⟨i, ⟨k, n⟩, ⟨l, m⟩⟩ := x
  simp only [zR, zK, zV, Ref.mk.injEq, Key.mk.injEq, Vec.mk.injEq, and_assoc]
theorem not_cells {x : Ref} (h : keyOk x.key) : ¬ x.id = 0 ∨ ¬ x.key.rank = 0 ∨ ¬ x.key.n = 0 ∨ ¬ x.vec.len = 0 ∨ ¬ x.vec.bits = 0 := by unfold keyOk at h; omega
def rcmp (a b : Key) : Int := if keyLt a b then -1 else if a = b then 0 else 1
instance {a b : Key} : BP (decide (rcmp a b < 0)) (keyLt a b) (¬ keyLt a b) := .mk' (by unfold rcmp; split <;> (try split) <;> simp_all) .rfl
theorem r2Compare_fn (a b : Key) (F : List Assn) : Meets Tryz.prog 237 [kv a, kv b] F (Det (i64 (rcmp a b)) F) := by
  refine Meets.intro b237 k237 (by simp) ?_
  focus
   refine zs <| yB rfl fun b2 => yB rfl fun b3 => zc rfl <| zd <| zq <| zb <| zs <| zfl rfl rfl rfl <| zfl rfl rfl rfl <| zj rfl rfl rfl <| zh rfl rfl (fun h1 => .fa' 0 rfl rfl) ?_
   refine zh rfl rfl (fun h1 => by rw [h1]; exact .L rfl rfl) <| zh rfl rfl (fun h1 => .fa' 0 rfl rfl) <| zh rfl rfl (fun h1 => by rw [h1]; exact .L rfl rfl) <| zh rfl rfl (fun h1 => by rw [h1]; exact .int rfl rfl rfl) <| zh rfl rfl (fun h1 => by rw [h1]; exact .calc rfl) <| JT.yg2 rfl rfl (fun h1 h1' => Ev.fa' 1 rfl rfl) <| JT.yg2 rfl rfl (fun h1 h1' => by rw [h1, h1']; exact .L rfl rfl) <| JT.yg2 rfl rfl (fun h1 h1' => Ev.fa' 1 rfl rfl) <| JT.yg2 rfl rfl (fun h1 h1' => by rw [h1, h1']; exact .L rfl rfl) <| JT.yg2 rfl rfl (fun h1 h1' => by rw [h1, h1']; exact .int rfl rfl rfl) <| zh rfl rfl (fun h1 => by rw [h1]; exact .pickA rfl rfl rfl) <| zy (.pickO rfl rfl rfl) ?_
   refine zd <| zi rfl (fun h1 => ?_) (fun h1 => ?_)
   refine zs <| zc rfl <| zd <| zr <| yR (.t rfl .nil) ?_ (.of (.d (.d .rf)))
   rotate_left
   refine zs <| zw rfl rfl <| zw rfl rfl <| zy (.eqT rfl rfl) <| zd <| zi rfl (fun h2 => ?_) (fun h2 => ?_)
   refine zs <| zc rfl <| zd <| zr <| yR (.t rfl .nil) ?_ (.of (.d (.d .rf)))
   rotate_left
   refine zk <| zs <| zc rfl <| zd <| zr <| yR (.t rfl .nil) ?_ (.of (.d (.d .rf)))
   rotate_left
  all_goals (simp only [mkRet]; unfold rcmp)
  · rw [if_pos (show keyLt a b from h1)]
  · rw [if_neg (by unfold keyLt; omega), if_pos h2]
  · rw [if_neg (by unfold keyLt; omega), if_neg h2]
theorem r2Less_fn (a b : Key) (F : List Assn) : Meets Tryz.prog 202 [kv a, kv b] F (Det (.bool (decide (keyLt a b))) F) := by
  refine Meets.intro b202 k202 (by simp) ?_
  focus
   refine zs <| yB rfl fun b2 => yB rfl fun b3 => zc rfl <| zw rfl rfl <| zw rfl rfl <| yD rfl rfl (.of .rf) (r2Compare_fn _ _ _) <| zj rfl rfl rfl <| zd <| zr <| yR (.t rfl .nil) ?_ (.of (.d (.d .rf)))
  simp only [mkRet]; congr 1; rw [Bool.eq_iff_iff]; simp only [decide_eq_true_eq]; unfold rcmp; split <;> (try split) <;> simp_all















































































end Go.Proofs.YtnipmjpdklbbcaaGreat
