/- Layer 11: the example of the laws. Conditions: none. -/
import Derived.Test.YtgcmglieciaifaaGm
set_option linter.unusedSimpArgs false
set_option linter.unusedVariables false
set_option maxRecDepth 100000
set_option maxHeartbeats 4000000
namespace Go.SL
open Go
def g3a : Ref := ⟨2, ⟨2, 3⟩, ⟨1, 0⟩⟩
def g3b : Ref := ⟨3, ⟨2, 5⟩, ⟨1, 1⟩⟩
def g3c : Ref := ⟨4, ⟨2, 9⟩, ⟨1, 0⟩⟩
def g3 : List Ref := [g3a, g3b, g3c]
theorem g3_ok : grOk 1 g3 := by decide
theorem g3_pos : ∀ r ∈ g3, 0 ≤ r.vec.bits := by decide
theorem g3_may : gmay 1 ⟨1, 0⟩ := by decide
theorem g3_mem : gmem g3 ⟨1, 0⟩ = [g3a, g3c] := by decide
theorem g3_at : gat 1 g3 4 = some g3c := by decide
theorem g3_way : gwayE 1 g3 4 ⟨2, 5⟩ = ([⟨1, g3c⟩, ⟨0, g3b⟩, ⟨0, g3a⟩], g3a, g3b, 0) := by decide +kernel
end Go.SL
namespace Go.Proofs.Ytgcmglieciaifaa
open Go Go.SL
attribute [local irreducible] pc rc SlT Me Mt It pt ro pur ex sep old Meets
theorem l11at_fn (n : Int) (F : List Assn) : Meets Try.prog 43 [u64 n] F (Det (kv ⟨2, n⟩) F) := by
  refine Meets.intro b43 k43 (by simp) ?_
  focus
   refine zs <| yN fun b2 => zg rfl <| yW rfl rfl rfl rfl rfl <| zd <| zr <| yR (.w rfl rfl .nil) rfl (.of (.d .rf))
theorem l11three_fn (F : List Assn) : Meets Try.prog 42 [] F (Some' (fun _ : Option Addr => True) (fun x => .slice x g3.length 3) (fun x => SlT true refC 5 (.slice x g3.length 3) 3 g3 :: F)) := by
  refine Meets.intro b42 k42 (by simp) ?_
  focus
   refine zs <| zc rfl <| yD rfl rfl (.of .rf) (l11at_fn _ _) <| zg rfl <| zg rfl <| yD rfl rfl (.of .rf) (l11at_fn _ _) <| zg rfl <| zg rfl <| yD rfl rfl (.of .rf) (l11at_fn _ _) <| zg rfl <| zg rfl ?_
  refine JT.bslE refC g3 (by show Cells _ _ [i64 2, i64 2, u64 3, i64 1, u64 0, i64 3, i64 2, u64 5, i64 1, u64 1, i64 4, i64 2, u64 9, i64 1, u64 0]; (repeat (first | exact Cells.nil | apply Cells.z | (apply Cells.cl; rfl; rfl; rfl)))) rfl (by decide) (by decide) refC_one (fun a0 => ?_)
  focus
   refine zd <| zr <| yQ _ (.t rfl .nil) trivial rfl (.of (.t0 .rf))
theorem l11few_fn {a : Option Addr} {c : Nat} {xs : List SL.Ref} (F : List Assn) : Meets Try.prog 10 [.slice a xs.length c] (SlT false refC 5 (.slice a xs.length c) c xs :: F)
    (Some' (fun _ : Option Addr × Nat => True) (fun x => .slice x.1 (xs.take 12).length x.2) (fun x => SlT false refC 5 (.slice x.1 (xs.take 12).length x.2) x.2 (xs.take 12) :: SlT false refC 5 (.slice a xs.length c) c xs :: F)) := by
  refine Meets.intro b10 k10 (by simp) ?_
  refine J.slF Has.here (fun hC hL _ => ?_)
  by_cases h : xs.length ≤ 12
  · rw [List.take_of_length_le h]
    focus
     refine zs <| zc rfl <| zc rfl <| zy (.cgtF rfl rfl (by omega)) <| zd <| zq <| zu rfl <| zk <| zs <| zc rfl <| zd <| zr ?_
    exact retQS (a, c) (.t rfl .nil) trivial rfl (Up.of (Has.dup (SlT_pers _ _ _ _ _) Has.here))
  · focus
     refine zs <| zc rfl <| zc rfl <| zy (.cgtT rfl rfl (by omega)) <| zd <| zq <| zt rfl <| zs ?_
     ((refine JT.G rfl .no (.si rfl (by omega)) .no (by decide) (by omega) (by omega) (by omega) (by omega) (fun a2 => ?_)); (try simp only [List.take_length, List.drop_zero, Nat.sub_zero]))
     refine zd <| zr <| yQ ⟨_, _⟩ (.t rfl .nil) trivial rfl (.of (.t0 (.t0 .rf)))
theorem l11alive_fn (F : List Assn) : Meets Try.prog 14 [] F (Det (.bool true) F) := by
  refine Meets.intro b14 k14 (by simp) ?_
  have hM : ∀ {a : Option Addr} {F : List Assn} [HS F (.slice a g3.length 3) SL.Ref refC 5 3 g3], Meets Try.prog 18 [i64 1, vv ⟨1, 0⟩, .slice a g3.length 3] F _ := fun {a} {F} _ => gMembers_ok 1 ⟨1, 0⟩ (F := F) g3_ok g3_pos g3_may
  have hW : ∀ {a : Option Addr} {F : List Assn} [HS F (.slice a g3.length 3) SL.Ref refC 5 3 g3], Meets Try.prog 11 [i64 1, i64 4, kv ⟨2, 5⟩, .slice a g3.length 3] F _ := fun {a} {F} _ => gWay_ok 1 4 ⟨2, 5⟩ (F := F) g3_ok g3_pos g3_at (by decide)
  simp only [g3_mem, g3_way] at hM hW
  have hg3 : g3.length = 3 := rfl
  have hn0 : nth g3 0 = g3a := rfl
  have hn1 : nth g3 1 = g3b := rfl
  have hn2 : nth g3 2 = g3c := rfl
  focus
   refine zs <| zc rfl <| yE rfl rfl (.of .rf) (l11three_fn _) fun x8 _ => zg rfl <| yE rfl rfl (.of .rf) hM fun ⟨a12, c12⟩ _ => zc rfl <| zc rfl <| yD rfl rfl (.of .rf) (l11at_fn _ _) <| yE rfl rfl (.of .rf) hW fun ⟨a18, c18⟩ _ => zc rfl <| zc rfl <| zc rfl ?_
   refine zc rfl <| yN fun b5 => yN fun b6 => yW rfl rfl rfl rfl rfl <| yW rfl rfl rfl rfl rfl <| zy (.ceqT rfl rfl (by decide)) <| yG rfl <| zy (.ceqT rfl rfl (by decide)) <| zy (.pickT rfl rfl) <| yG rfl <| zy (.iC rfl rfl (by omega)) <| yG rfl ?_
   refine zy (.LE rfl (by omega)) <| yG rfl <| zy (.iC rfl rfl (by omega)) <| yG rfl <| zy (.LE rfl (by omega)) <| yG rfl <| JT.bT [_, _] (by repeat (first | exact Cells.nil | apply Cells.z | (apply Cells.cl; rfl; rfl; rfl))) rfl (by decide) fun a37 => ?_
   refine yG rfl <| yD rfl rfl (.of .rf) r11Same_fn <| zy (.pickT rfl rfl) <| yG rfl <| zc rfl <| yG rfl <| zy (.ceqT rfl rfl (by (try simp only [List.length_nil, List.length_cons, List.length_append, List.length_take, List.length_drop, List.length_set]); omega)) <| zy (.pickT rfl rfl) <| yG rfl <| zw rfl rfl <| yG rfl <| zy (.iC rfl rfl (by omega)) ?_
   refine yG rfl <| zy (.LE rfl (by omega)) <| yG rfl ?_
   refine zy (.eqTt rfl rfl (by assumption)) <| zy (.pickT rfl rfl) <| yG rfl <| zw rfl rfl <| yG rfl <| zy (.iC rfl rfl (by omega)) <| yG rfl <| zy (.LE rfl (by omega)) <| yG rfl ?_
   refine zy (.eqTt rfl rfl (by assumption)) <| zy (.pickT rfl rfl) <| zd <| zr <| yR (.t rfl .nil) rfl (.of (.d (.d (.d (.d (.d (.d .rf)))))))
end Go.Proofs.Ytgcmglieciaifaa
