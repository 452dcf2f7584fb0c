/- Layer 9: the ends of a height, for seats without a peer. Conditions: none. -/
import Derived.Test.YtgcmglieciaifaaBj
import Derived.Test.YtgcmglieciaifaaKb
import Derived.Test.YtgcmglieciaifaaKa
set_option linter.unusedSimpArgs false
set_option linter.unusedVariables false
set_option maxRecDepth 100000
set_option maxHeartbeats 4000000
namespace Go.SL
open Go
def hOk (h : Int) : Prop := 0 ≤ h ∧ h ≤ 32
instance (h : Int) : Decidable (hOk h) := by unfold hOk; infer_instance
def endR (high : Bool) (h : Int) : Ref := if high then ⟨1, ⟨3, 0⟩, ⟨h, 0⟩⟩ else ⟨0, ⟨1, 0⟩, ⟨h, 0⟩⟩
end Go.SL
namespace Go.Proofs.Ytgcmglieciaifaa
open Go Go.SL
attribute [local irreducible] pc rc SlT Me Mt It pt ro pur ex sep old Meets
theorem peEnd_fn (high : Bool) (h : Int) (F : List Assn) : Meets Try.prog 73 [.bool high, i64 h] F (Det (.tuple #[rv (if hOk h then endR high h else zR), i64 (if hOk h then 0 else 90)]) F) := by
  refine Meets.intro b73 k73 (by simp) ?_
  by_cases hh : hOk h
  · rw [if_pos hh, if_pos hh]
    obtain ⟨h0, h1⟩ := hh
    cases high
    · focus
       refine zs <| yN fun b4 => zc rfl <| zy (.cltF rfl rfl (by omega)) <| yG rfl <| zy (.cgtF rfl rfl (by omega)) <| zy (.pickF rfl rfl) <| zd <| zq <| zu rfl <| zk <| zs ?_
       refine zg rfl <| zg rfl <| zg rfl <| yN fun b6 => yW rfl rfl rfl rfl rfl <| zc rfl <| zd <| zq <| zu rfl <| zk <| zs <| zw rfl rfl ?_
       refine yW rfl rfl rfl rfl rfl <| zc rfl <| zd <| zr <| yR (.w rfl rfl (.t rfl .nil)) rfl (.of (.d (.d .rf)))
    · focus
       refine zs <| yN fun b4 => zc rfl <| zy (.cltF rfl rfl (by omega)) <| yG rfl <| zy (.cgtF rfl rfl (by omega)) <| zy (.pickF rfl rfl) <| zd <| zq <| zu rfl <| zk <| zs ?_
       refine zg rfl <| zg rfl <| zg rfl <| yN fun b6 => yW rfl rfl rfl rfl rfl <| zc rfl <| zd <| zq <| zt rfl <| zo <| zf 0 rfl rfl <| yS (us := [_]) rfl rfl rfl rfl rfl (Nat.le_of_ble_eq_true rfl) (by simp only [lput]; rfl) ?_
       refine zf 1 rfl rfl <| zf 1 rfl rfl <| yS (us := [_]) rfl rfl rfl rfl rfl (Nat.le_of_ble_eq_true rfl) (by simp only [lput]; rfl) <| zd <| zs <| zw rfl rfl <| yW rfl rfl rfl rfl rfl <| zc rfl <| zd <| zr <| yR (.w rfl rfl (.t rfl .nil)) rfl (.of (.d (.d .rf)))
  · rw [if_neg hh, if_neg hh]
    unfold hOk at hh
    focus
     refine zs <| yN fun b4 => zc rfl <| zj rfl rfl rfl <| zh rfl rfl (fun h1 => .int rfl rfl rfl) <| zy (.pickO rfl rfl rfl) <| zd <| zq <| zi rfl (fun h1 => ?_) (fun h1 => ?_)
     refine zs <| zg rfl <| yW rfl rfl rfl rfl rfl <| zc rfl <| zd <| zr <| yR (.w rfl rfl (.t rfl .nil)) rfl (.of (.d .rf))
     (exfalso; omega)
theorem peHead_fn (h : Int) (F : List Assn) : Meets Try.prog 59 [i64 h] F (Det (.tuple #[rv (if hOk h then endR false h else zR), i64 (if hOk h then 0 else 90)]) F) := by
  refine Meets.intro b59 k59 (by simp) ?_
  focus
   refine zs <| yN fun b2 => zc rfl <| yD rfl rfl (.of .rf) (peEnd_fn _ _ _) <| zc rfl <| zc rfl <| yW rfl rfl rfl rfl rfl <| zc rfl <| zd <| zr <| yR (.w rfl rfl (.t rfl .nil)) rfl (.of (.d .rf))
theorem peTail_fn (h : Int) (F : List Assn) : Meets Try.prog 60 [i64 h] F (Det (.tuple #[rv (if hOk h then endR true h else zR), i64 (if hOk h then 0 else 90)]) F) := by
  refine Meets.intro b60 k60 (by simp) ?_
  focus
   refine zs <| yN fun b2 => zc rfl <| yD rfl rfl (.of .rf) (peEnd_fn _ _ _) <| zc rfl <| zc rfl <| yW rfl rfl rfl rfl rfl <| zc rfl <| zd <| zr <| yR (.w rfl rfl (.t rfl .nil)) rfl (.of (.d .rf))
theorem r9Head_fn (h : Int) (F : List Assn) : Meets Try.prog 56 [i64 h] F (Det (.tuple #[rv (if hOk h then endR false h else zR), i64 (if hOk h then 0 else 90)]) F) := by
  refine Meets.intro b56 k56 (by simp) ?_
  by_cases hh : hOk h
  · rw [if_pos hh, if_pos hh]
    obtain ⟨h0, h1⟩ := hh
    focus
     refine zs <| yN fun b2 => zc rfl <| zy (.cltF rfl rfl (by omega)) <| yG rfl <| zy (.cgtF rfl rfl (by omega)) <| zy (.pickF rfl rfl) <| zd <| zq <| zu rfl <| zk <| zs ?_
     refine zg rfl <| zg rfl <| zg rfl <| yW rfl rfl rfl rfl rfl <| zc rfl <| zd <| zr <| yR (.w rfl rfl (.t rfl .nil)) rfl (.of (.d .rf))
  · rw [if_neg hh, if_neg hh]
    unfold hOk at hh
    focus
     refine zs <| yN fun b2 => zc rfl <| zj rfl rfl rfl <| zh rfl rfl (fun h1 => .int rfl rfl rfl) <| zy (.pickO rfl rfl rfl) <| zd <| zq <| zi rfl (fun h1 => ?_) (fun h1 => ?_)
     refine zs <| zg rfl <| yW rfl rfl rfl rfl rfl <| zc rfl <| zd <| zr <| yR (.w rfl rfl (.t rfl .nil)) rfl (.of (.d .rf))
     (exfalso; omega)
theorem r9Tail_fn (h : Int) (F : List Assn) : Meets Try.prog 57 [i64 h] F (Det (.tuple #[rv (if hOk h then endR true h else zR), i64 (if hOk h then 0 else 90)]) F) := by
  refine Meets.intro b57 k57 (by simp) ?_
  by_cases hh : hOk h
  · rw [if_pos hh, if_pos hh]
    obtain ⟨h0, h1⟩ := hh
    focus
     refine zs <| yN fun b2 => zc rfl <| zy (.cltF rfl rfl (by omega)) <| yG rfl <| zy (.cgtF rfl rfl (by omega)) <| zy (.pickF rfl rfl) <| zd <| zq <| zu rfl <| zk <| zs ?_
     refine zg rfl <| zg rfl <| zg rfl <| yW rfl rfl rfl rfl rfl <| zc rfl <| zd <| zr <| yR (.w rfl rfl (.t rfl .nil)) rfl (.of (.d .rf))
  · rw [if_neg hh, if_neg hh]
    unfold hOk at hh
    focus
     refine zs <| yN fun b2 => zc rfl <| zj rfl rfl rfl <| zh rfl rfl (fun h1 => .int rfl rfl rfl) <| zy (.pickO rfl rfl rfl) <| zd <| zq <| zi rfl (fun h1 => ?_) (fun h1 => ?_)
     refine zs <| zg rfl <| yW rfl rfl rfl rfl rfl <| zc rfl <| zd <| zr <| yR (.w rfl rfl (.t rfl .nil)) rfl (.of (.d .rf))
     (exfalso; omega)
theorem r9Less_fn (a b : SL.Key) (F : List Assn) : Meets Try.prog 19 [kv a, kv b] F (Det (.bool (decide (keyLt a b))) F) := by
  refine Meets.intro b19 k19 (by simp) ?_
  unfold keyLt
  focus
   refine zs <| yB rfl fun b2 => yB rfl fun b3 => zc rfl <| zfl rfl rfl rfl <| zfl rfl rfl rfl <| zj rfl rfl rfl <| zn rfl (fun h1 => ?_) (fun h1 => ?_)
   refine zf 0 rfl rfl <| yF rfl (by assumption) <| zl rfl rfl <| yF rfl (by assumption) <| zf 0 rfl rfl <| yF rfl (by assumption) <| zl rfl rfl <| yF rfl (by assumption) <| zj rfl rfl rfl <| yF rfl (by assumption) <| zc rfl <| zp rfl (fun h2 => ?_) (fun h2 => ?_)
   refine zf 1 rfl rfl <| yT rfl (by assumption) <| zl rfl rfl <| yT rfl (by assumption) <| zf 1 rfl rfl <| yT rfl (by assumption) <| zl rfl rfl <| yT rfl (by assumption) <| zj rfl rfl rfl <| yF rfl (by assumption) <| zy (.pickTp rfl (by assumption) rfl) <| zy (.pickFp rfl (by assumption) rfl) ?_
   refine zd <| zr <| yR (.t rfl .nil) ?_ (.of (.d (.d .rf)))
   rotate_left
   refine yTs rfl (by assumption) <| yTs rfl (by assumption) <| yTs rfl (by assumption) <| yTs rfl (by assumption) <| yF rfl (by assumption) <| zy (.pickFp rfl (by assumption) rfl) <| zy (.pickFp rfl (by assumption) rfl) <| zd <| zr <| yR (.t rfl .nil) ?_ (.of (.d (.d .rf)))
   rotate_left
   refine yFs rfl (by assumption) <| yFs rfl (by assumption) <| yFs rfl (by assumption) <| yFs rfl (by assumption) <| yFs rfl (by assumption) <| JT.skipU rfl <| JT.skipU rfl <| JT.skipU rfl <| JT.skipU rfl <| JT.skipU rfl <| yFs rfl (by assumption) <| zy (.pickTp rfl (by assumption) rfl) ?_
   refine zd <| zr <| yR (.t rfl .nil) ?_ (.of (.d (.d .rf)))
   rotate_left
  all_goals (simp only [mkRet]; congr 1; grind)
end Go.Proofs.Ytgcmglieciaifaa
