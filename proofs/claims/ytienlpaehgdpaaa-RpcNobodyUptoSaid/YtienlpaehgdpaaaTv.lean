/- The law RpcNobody: callers and answerers that nobody made: the functions. Conditions: none. -/
import Derived.Test.YtienlpaehgdpaaaTq
import Derived.Test.YtienlpaehgdpaaaTt
set_option linter.unusedSimpArgs false
set_option linter.unusedVariables false
set_option maxRecDepth 100000
set_option maxHeartbeats 4000000
namespace Go.Proofs.Ytienlpaehgdpaaa
open Go Go.SL
attribute [local irreducible] pc rc SlT Me Mt It pt ro pur ex sep old Meets
theorem rcIs_nil (F : List Assn) : Meets Try.prog 52 [.pointer none] F (Det (.bool false) F) := by
  refine Meets.intro b52 k52 (by simp) ?_
  focus
   refine zs <| zc rfl <| zc rfl <| zv rfl rfl <| zv rfl rfl <| zv rfl rfl <| zy (.pickF rfl rfl) <| zd <| zr <| yR (.t rfl .nil) rfl (.of .rf)
theorem rcIs_zero {b T : Nat} {F r : List Assn} [Hs : HP F b T [.bool false, i64 0, i64 0, i64 0, .map none] r] : Meets Try.prog 52 [ptr b] F (Det (.bool false) F) := by
  refine Meets.intro b52 k52 (by simp) ?_
  focus
   refine zs <| zc rfl <| zc rfl <| zm rfl rfl (fun h1 => .fa' 4 rfl rfl) <| zm rfl rfl (fun h1 => by rw [h1]; exact .L rfl rfl) <| zm rfl rfl (fun h1 => by rw [h1]; exact .calc rfl) <| zy (.pickT rfl rfl) <| zd <| zr <| yR (.t rfl .nil) rfl (.of .rf)
theorem rcAsk_nil (d : Ad) (a : SL.Ask) (F : List Assn) : Meets Try.prog 25 [.pointer none, adv d, askv a] F (Det (.tuple #[pkv (p0 zPkt), i64 4]) F) := by
  refine Meets.intro b25 k25 (by simp) ?_
  focus
   refine zs <| yB rfl fun b4 => yB rfl fun b5 => yN fun b6 => zc rfl <| zd <| zq <| zb <| zs <| yD rfl rfl (.of .rf) (rcIs_nil _) <| zc rfl <| zd ?_
   refine zt rfl <| zs <| zg rfl <| yW rfl rfl rfl rfl rfl <| zc rfl <| zd <| zr <| yR (.w rfl rfl (.t rfl .nil)) rfl (.of (.d (.d (.d .rf))))
theorem rcAsk_zero (d : Ad) (a : SL.Ask) {b T : Nat} {F r : List Assn} [Hs : HP F b T [.bool false, i64 0, i64 0, i64 0, .map none] r] : Meets Try.prog 25 [ptr b, adv d, askv a] F (Det (.tuple #[pkv (p0 zPkt), i64 4]) F) := by
  refine Meets.intro b25 k25 (by simp) ?_
  focus
   refine zs <| yB rfl fun b4 => yB rfl fun b5 => yN fun b6 => zc rfl <| zd <| zq <| zb <| zs <| yD rfl rfl (.of .rf) rcIs_zero <| zc rfl <| zd ?_
   refine zt rfl <| zs <| zg rfl <| yW rfl rfl rfl rfl rfl <| zc rfl <| zd <| zr <| yR (.w rfl rfl (.t rfl .nil)) rfl (.of (.d (.d (.d .rf))))
theorem rcTake_nil (x : PktE) (F : List Assn) : Meets Try.prog 41 [.pointer none, pkv x] F (Det (.tuple #[pkv (p0 zPkt), .bool false]) F) := by
  refine Meets.intro b41 k41 (by simp) ?_
  focus
   refine zs <| yB rfl fun b3 => yN fun b4 => zc rfl <| yD rfl rfl (.of .rf) (rcIs_nil _) <| zc rfl <| zv rfl rfl <| zv rfl rfl <| zv rfl rfl <| zy (.pickT rfl rfl) <| zv rfl rfl <| zv rfl rfl ?_
   refine zv rfl rfl <| zy (.pickT rfl rfl) <| zv rfl rfl <| zv rfl rfl <| zv rfl rfl <| zv rfl rfl <| zv rfl rfl <| zy (.pickT rfl rfl) <| zd <| zq <| zt rfl <| zs ?_
   refine zg rfl <| yW rfl rfl rfl rfl rfl <| zc rfl <| zd <| zr <| yR (.w rfl rfl (.t rfl .nil)) rfl (.of (.d (.d .rf)))
theorem rcTake_zero (x : PktE) {b T : Nat} {F r : List Assn} [Hs : HP F b T [.bool false, i64 0, i64 0, i64 0, .map none] r] : Meets Try.prog 41 [ptr b, pkv x] F (Det (.tuple #[pkv (p0 zPkt), .bool false]) F) := by
  refine Meets.intro b41 k41 (by simp) ?_
  focus
   refine zs <| yB rfl fun b3 => yN fun b4 => zc rfl <| yD rfl rfl (.of .rf) rcIs_zero <| zc rfl <| zv rfl rfl <| zv rfl rfl <| zv rfl rfl <| zy (.pickT rfl rfl) <| zv rfl rfl <| zv rfl rfl ?_
   refine zv rfl rfl <| zy (.pickT rfl rfl) <| zv rfl rfl <| zv rfl rfl <| zv rfl rfl <| zv rfl rfl <| zv rfl rfl <| zy (.pickT rfl rfl) <| zd <| zq <| zt rfl <| zs ?_
   refine zg rfl <| yW rfl rfl rfl rfl rfl <| zc rfl <| zd <| zr <| yR (.w rfl rfl (.t rfl .nil)) rfl (.of (.d (.d .rf)))
theorem rcEnd_nil (n : Int) (F : List Assn) : Meets Try.prog 27 [.pointer none, i64 n] F (Det (.tuple #[pkv (p0 zPkt), .bool false]) F) := by
  refine Meets.intro b27 k27 (by simp) ?_
  focus
   refine zs <| yN fun b4 => zc rfl <| yD rfl rfl (.of .rf) (rcIs_nil _) <| zc rfl <| zd <| zq <| zt rfl <| zs <| zg rfl <| yW rfl rfl rfl rfl rfl <| zc rfl ?_
   refine zd <| zr <| yR (.w rfl rfl (.t rfl .nil)) rfl (.of (.d .rf))
theorem rcEnd_zero (n : Int) {b T : Nat} {F r : List Assn} [Hs : HP F b T [.bool false, i64 0, i64 0, i64 0, .map none] r] : Meets Try.prog 27 [ptr b, i64 n] F (Det (.tuple #[pkv (p0 zPkt), .bool false]) F) := by
  refine Meets.intro b27 k27 (by simp) ?_
  focus
   refine zs <| yN fun b4 => zc rfl <| yD rfl rfl (.of .rf) rcIs_zero <| zc rfl <| zd <| zq <| zt rfl <| zs <| zg rfl <| yW rfl rfl rfl rfl rfl <| zc rfl ?_
   refine zd <| zr <| yR (.w rfl rfl (.t rfl .nil)) rfl (.of (.d .rf))
theorem rcTick_nil (F : List Assn) : Meets Try.prog 30 [.pointer none] F (Det (.slice none 0 0) F) := by
  refine Meets.intro b30 k30 (by simp) ?_
  focus
   refine zs <| zc rfl <| yD rfl rfl (.of .rf) (rcIs_nil _) <| zc rfl <| zd <| zq <| zt rfl <| zs <| zc rfl <| zd <| zr <| yR (.t rfl .nil) rfl (.of .rf)
theorem rcTick_zero {b T : Nat} {F r : List Assn} [Hs : HP F b T [.bool false, i64 0, i64 0, i64 0, .map none] r] : Meets Try.prog 30 [ptr b] F (Det (.slice none 0 0) F) := by
  refine Meets.intro b30 k30 (by simp) ?_
  focus
   refine zs <| zc rfl <| yD rfl rfl (.of .rf) rcIs_zero <| zc rfl <| zd <| zq <| zt rfl <| zs <| zc rfl <| zd <| zr <| yR (.t rfl .nil) rfl (.of .rf)
theorem rcOpen_nil (F : List Assn) : Meets Try.prog 22 [.pointer none] F (Det (.slice none 0 0) F) := by
  refine Meets.intro b22 k22 (by simp) ?_
  focus
   refine zs <| zc rfl <| yD rfl rfl (.of .rf) (rcIs_nil _) <| zc rfl <| zd <| zq <| zt rfl <| zs <| zc rfl <| zd <| zr <| yR (.t rfl .nil) rfl (.of .rf)
theorem rcOpen_zero {b T : Nat} {F r : List Assn} [Hs : HP F b T [.bool false, i64 0, i64 0, i64 0, .map none] r] : Meets Try.prog 22 [ptr b] F (Det (.slice none 0 0) F) := by
  refine Meets.intro b22 k22 (by simp) ?_
  focus
   refine zs <| zc rfl <| yD rfl rfl (.of .rf) rcIs_zero <| zc rfl <| zd <| zq <| zt rfl <| zs <| zc rfl <| zd <| zr <| yR (.t rfl .nil) rfl (.of .rf)
theorem raIs_nil (F : List Assn) : Meets Try.prog 56 [.pointer none] F (Det (.bool false) F) := by
  refine Meets.intro b56 k56 (by simp) ?_
  focus
   refine zs <| zc rfl <| zc rfl <| zv rfl rfl <| zv rfl rfl <| zv rfl rfl <| zy (.pickF rfl rfl) <| zd <| zr <| yR (.t rfl .nil) rfl (.of .rf)
theorem raIs_zero {b T : Nat} {F r : List Assn} [Hs : HP F b T [.bool false, i64 0, .map none, .slice none 0 0] r] : Meets Try.prog 56 [ptr b] F (Det (.bool false) F) := by
  refine Meets.intro b56 k56 (by simp) ?_
  focus
   refine zs <| zc rfl <| zc rfl <| zm rfl rfl (fun h1 => .fa' 2 rfl rfl) <| zm rfl rfl (fun h1 => by rw [h1]; exact .L rfl rfl) <| zm rfl rfl (fun h1 => by rw [h1]; exact .calc rfl) <| zy (.pickT rfl rfl) <| zd <| zr <| yR (.t rfl .nil) rfl (.of .rf)
theorem raTake_nil (x : PktE) (F : List Assn) : Meets Try.prog 33 [.pointer none, pkv x] F (Det (.tuple #[pkv (p0 zPkt), i64 0]) F) := by
  refine Meets.intro b33 k33 (by simp) ?_
  focus
   refine zs <| yB rfl fun b3 => yN fun b4 => zc rfl <| yD rfl rfl (.of .rf) (raIs_nil _) <| zc rfl <| zv rfl rfl <| zv rfl rfl <| zv rfl rfl <| zy (.pickT rfl rfl) <| zv rfl rfl <| zv rfl rfl ?_
   refine zy (.pickT rfl rfl) <| zv rfl rfl <| zv rfl rfl <| zv rfl rfl <| zv rfl rfl <| zv rfl rfl <| zy (.pickT rfl rfl) <| zd <| zq <| zt rfl <| zs <| zg rfl ?_
   refine yW rfl rfl rfl rfl rfl <| zc rfl <| zd <| zr <| yR (.w rfl rfl (.t rfl .nil)) rfl (.of (.d (.d .rf)))
theorem raTake_zero (x : PktE) {b T : Nat} {F r : List Assn} [Hs : HP F b T [.bool false, i64 0, .map none, .slice none 0 0] r] : Meets Try.prog 33 [ptr b, pkv x] F (Det (.tuple #[pkv (p0 zPkt), i64 0]) F) := by
  refine Meets.intro b33 k33 (by simp) ?_
  focus
   refine zs <| yB rfl fun b3 => yN fun b4 => zc rfl <| yD rfl rfl (.of .rf) raIs_zero <| zc rfl <| zv rfl rfl <| zv rfl rfl <| zv rfl rfl <| zy (.pickT rfl rfl) <| zv rfl rfl <| zv rfl rfl ?_
   refine zy (.pickT rfl rfl) <| zv rfl rfl <| zv rfl rfl <| zv rfl rfl <| zv rfl rfl <| zv rfl rfl <| zy (.pickT rfl rfl) <| zd <| zq <| zt rfl <| zs <| zg rfl ?_
   refine yW rfl rfl rfl rfl rfl <| zc rfl <| zd <| zr <| yR (.w rfl rfl (.t rfl .nil)) rfl (.of (.d (.d .rf)))
theorem raReply_nil (d : Ad) (n : Int) (y : AnsE) (F : List Assn) : Meets Try.prog 36 [.pointer none, adv d, i64 n, anv y] F (Det (.tuple #[pkv (p0 zPkt), i64 4]) F) := by
  refine Meets.intro b36 k36 (by simp) ?_
  focus
   refine zs <| yB rfl fun b5 => yB rfl fun b7 => yN fun b8 => zc rfl <| yD rfl rfl (.of .rf) (raIs_nil _) <| zc rfl <| zd <| zq <| zt rfl <| zs <| zg rfl ?_
   refine yW rfl rfl rfl rfl rfl <| zc rfl <| zd <| zr <| yR (.w rfl rfl (.t rfl .nil)) rfl (.of (.d (.d (.d .rf))))
theorem raReply_zero (d : Ad) (n : Int) (y : AnsE) {b T : Nat} {F r : List Assn} [Hs : HP F b T [.bool false, i64 0, .map none, .slice none 0 0] r] : Meets Try.prog 36 [ptr b, adv d, i64 n, anv y] F (Det (.tuple #[pkv (p0 zPkt), i64 4]) F) := by
  refine Meets.intro b36 k36 (by simp) ?_
  focus
   refine zs <| yB rfl fun b5 => yB rfl fun b7 => yN fun b8 => zc rfl <| yD rfl rfl (.of .rf) raIs_zero <| zc rfl <| zd <| zq <| zt rfl <| zs <| zg rfl ?_
   refine yW rfl rfl rfl rfl rfl <| zc rfl <| zd <| zr <| yR (.w rfl rfl (.t rfl .nil)) rfl (.of (.d (.d (.d .rf))))
theorem raWaits_nil (F : List Assn) : Meets Try.prog 38 [.pointer none] F (Det (.slice none 0 0) F) := by
  refine Meets.intro b38 k38 (by simp) ?_
  focus
   refine zs <| zc rfl <| yD rfl rfl (.of .rf) (raIs_nil _) <| zc rfl <| zd <| zq <| zt rfl <| zs <| zc rfl <| zd <| zr <| yR (.t rfl .nil) rfl (.of .rf)
theorem raWaits_zero {b T : Nat} {F r : List Assn} [Hs : HP F b T [.bool false, i64 0, .map none, .slice none 0 0] r] : Meets Try.prog 38 [ptr b] F (Det (.slice none 0 0) F) := by
  refine Meets.intro b38 k38 (by simp) ?_
  focus
   refine zs <| zc rfl <| yD rfl rfl (.of .rf) raIs_zero <| zc rfl <| zd <| zq <| zt rfl <| zs <| zc rfl <| zd <| zr <| yR (.t rfl .nil) rfl (.of .rf)
theorem raHeard_nil (F : List Assn) : Meets Try.prog 40 [.pointer none] F (Det (i64 0) F) := by
  refine Meets.intro b40 k40 (by simp) ?_
  focus
   refine zs <| zc rfl <| yD rfl rfl (.of .rf) (raIs_nil _) <| zc rfl <| zd <| zq <| zt rfl <| zs <| zc rfl <| zd <| zr <| yR (.t rfl .nil) rfl (.of .rf)
theorem raHeard_zero {b T : Nat} {F r : List Assn} [Hs : HP F b T [.bool false, i64 0, .map none, .slice none 0 0] r] : Meets Try.prog 40 [ptr b] F (Det (i64 0) F) := by
  refine Meets.intro b40 k40 (by simp) ?_
  focus
   refine zs <| zc rfl <| yD rfl rfl (.of .rf) raIs_zero <| zc rfl <| zd <| zq <| zt rfl <| zs <| zc rfl <| zd <| zr <| yR (.t rfl .nil) rfl (.of .rf)
theorem r4Same_zero (F : List Assn) : Meets Try.prog 35 [pkv (p0 zPkt), pkv (p0 zPkt)] F (Det (.bool true) F) := by
  letI : HS F (.slice none zPkt.ans.value.length 0) UInt8 byteC 1 0 zPkt.ans.value :=
    ⟨fun h hs => Rd.of (m := true) (xs := ([] : List UInt8)) (enc := byteC) (sz := 1) (c := 0) (sv := .slice none 0 0) Has.here h (hs.nilS true (by decide))⟩
  have h := r4Same_fn (p0 zPkt) (p0 zPkt) (F := F)
  rw [decide_eq_true rfl] at h
  exact h
theorem RpcNobody_fn (x : OpE) (F : List Assn) : Meets Try.prog 9 [.agg (opEC x).toArray] F (Det (.bool true) F) := by
  refine Meets.intro b9 k9 (by simp) ?_
  focus
   refine zs <| yB rfl fun b1 => zc rfl <| zg rfl <| yB rfl fun b21 => ?_
  refine JT.bslE pE [none, some b21] (by repeat (first | exact Cells.nil | apply Cells.z | (apply Cells.cl; rfl; rfl; rfl))) rfl (by decide) (by decide) pE_one (fun a22 => ?_)
  focus
   refine zc rfl <| zc rfl <| zd <| zq <| zb ?_
  refine J.lp (ι := Nat) (fun k => k ≤ 2) (fun k => [(24, i64 (k : Int))]) (fun _ => SlT true pE 1 (.slice a22 [none, some b21].length 2) 2 [none, some b21] :: pc b21 104 [.bool false, i64 0, i64 0, i64 0, .map none] :: pc b1 65 (opEC x) :: F) (fun k => 2 - k) 0 (by omega) (by exact subxR rfl) (.of (.t0 (.t0 (.t0 .rf)))) (fun k hk => ?_)
  obtain rfl | rfl | rfl : k = 0 ∨ k = 1 ∨ k = 2 := by omega
  focus
   refine zs <| zy (.cltT rfl rfl (by (try simp only [List.length_nil, List.length_cons, List.length_append, List.length_take, List.length_drop, List.length_set]); omega)) <| zd <| zq <| zt rfl <| zk <| zq <| zb <| zs <| zy (.iC rfl rfl (by (try simp only [List.length_nil, List.length_cons, List.length_append, List.length_take, List.length_drop, List.length_set]); omega)) <| zy (.LE0 rfl (by (try simp only [List.length_nil, List.length_cons, List.length_append, List.length_take, List.length_drop, List.length_set]); omega) rfl) <| zfw [_, _] rfl rfl rfl rfl ?_
   refine zfw [_, _, _, _, _, _, _, _, _, _, _, _, _, _, _] rfl rfl rfl rfl <| yD rfl rfl (.of .rf) (rcAsk_nil _ _ _) <| zc rfl <| zc rfl <| yN fun b6 => yW rfl rfl rfl rfl rfl <| zfw [_, _, _, _, _, _, _, _, _, _, _, _, _, _, _, _, _, _, _, _, _, _, _, _, _, _, _, _, _, _, _, _, _, _] rfl rfl rfl rfl <| yD rfl rfl (.of .rf) (rcTake_nil _ _) <| zc rfl <| zc rfl <| yN fun b8 => yW rfl rfl rfl rfl rfl ?_
   refine zfl rfl rfl rfl <| yD rfl rfl (.of .rf) (rcEnd_nil _ _) <| zc rfl <| zc rfl <| yN fun b10 => yW rfl rfl rfl rfl rfl <| zy (.cneF rfl rfl (by decide)) <| yG rfl <| zc rfl <| zy (.pickF rfl rfl) <| yG rfl <| zc rfl ?_
   refine zy (.pickF rfl rfl) <| yG rfl <| zw rfl rfl <| yG rfl <| zg rfl <| yG rfl <| yD rfl rfl (.of .rf) (r4Same_zero _) <| yG rfl <| zc rfl <| zy (.pickF rfl rfl) <| yG rfl <| zw rfl rfl ?_
   refine yG rfl <| zg rfl <| yG rfl <| yD rfl rfl (.of .rf) (r4Same_zero _) <| yG rfl <| zc rfl <| zy (.pickF rfl rfl) <| yG rfl <| zw rfl rfl <| yG rfl <| zg rfl <| yG rfl ?_
   refine yD rfl rfl (.of .rf) (r4Same_zero _) <| yG rfl <| zc rfl <| zy (.pickF rfl rfl) <| yG rfl <| yD rfl rfl (.of .rf) (rcTick_nil _) <| yG rfl <| zc rfl <| yG rfl <| yD rfl rfl (.of .rf) (rcOpen_nil _) <| yG rfl <| zc rfl ?_
   refine yG rfl <| zy (.addN rfl rfl (by omega)) <| yG rfl <| zy (.cneF rfl rfl (by omega)) <| zy (.pickF rfl rfl) <| zd <| zu rfl <| zk <| zo <| zy (.addN rfl rfl (by omega)) <| zd <| ⟨_, ?_, (by omega), (subxR rfl), (.of (.t3 (.t3 (.t3 (.d (.d (.d .rf)))))))⟩
   omega
  focus
   refine zs <| zy (.cltT rfl rfl (by (try simp only [List.length_nil, List.length_cons, List.length_append, List.length_take, List.length_drop, List.length_set]); omega)) <| zd <| zq <| zt rfl <| zk <| zq <| zb <| zs <| zy (.iC rfl rfl (by (try simp only [List.length_nil, List.length_cons, List.length_append, List.length_take, List.length_drop, List.length_set]); omega)) <| zy (.LE0 rfl (by (try simp only [List.length_nil, List.length_cons, List.length_append, List.length_take, List.length_drop, List.length_set]); omega) rfl) <| zfw [_, _] rfl rfl rfl rfl ?_
   refine zfw [_, _, _, _, _, _, _, _, _, _, _, _, _, _, _] rfl rfl rfl rfl <| yD rfl rfl (.of .rf) (rcAsk_zero _ _) <| zc rfl <| zc rfl <| yN fun b6 => yW rfl rfl rfl rfl rfl <| zfw [_, _, _, _, _, _, _, _, _, _, _, _, _, _, _, _, _, _, _, _, _, _, _, _, _, _, _, _, _, _, _, _, _, _] rfl rfl rfl rfl <| yD rfl rfl (.of .rf) (rcTake_zero _) <| zc rfl <| zc rfl <| yN fun b8 => yW rfl rfl rfl rfl rfl ?_
   refine zfl rfl rfl rfl <| yD rfl rfl (.of .rf) (rcEnd_zero _) <| zc rfl <| zc rfl <| yN fun b10 => yW rfl rfl rfl rfl rfl <| zy (.cneF rfl rfl (by decide)) <| yG rfl <| zc rfl <| zy (.pickF rfl rfl) <| yG rfl <| zc rfl ?_
   refine zy (.pickF rfl rfl) <| yG rfl <| zw rfl rfl <| yG rfl <| zg rfl <| yG rfl <| yD rfl rfl (.of .rf) (r4Same_zero _) <| yG rfl <| zc rfl <| zy (.pickF rfl rfl) <| yG rfl <| zw rfl rfl ?_
   refine yG rfl <| zg rfl <| yG rfl <| yD rfl rfl (.of .rf) (r4Same_zero _) <| yG rfl <| zc rfl <| zy (.pickF rfl rfl) <| yG rfl <| zw rfl rfl <| yG rfl <| zg rfl <| yG rfl ?_
   refine yD rfl rfl (.of .rf) (r4Same_zero _) <| yG rfl <| zc rfl <| zy (.pickF rfl rfl) <| yG rfl <| yD rfl rfl (.of .rf) rcTick_zero <| yG rfl <| zc rfl <| yG rfl <| yD rfl rfl (.of .rf) rcOpen_zero <| yG rfl <| zc rfl ?_
   refine yG rfl <| zy (.addN rfl rfl (by omega)) <| yG rfl <| zy (.cneF rfl rfl (by omega)) <| zy (.pickF rfl rfl) <| zd <| zu rfl <| zk <| zo <| zy (.addN rfl rfl (by omega)) <| zd <| ⟨_, ?_, (by omega), (subxR rfl), (.of (.t3 (.t3 (.t3 (.d (.d (.d .rf)))))))⟩
   omega
  focus
   refine zs <| zy (.cltF rfl rfl (by (try simp only [List.length_nil, List.length_cons, List.length_append, List.length_take, List.length_drop, List.length_set]); omega)) <| zd <| zq <| zu rfl <| zx <| zs <| zg rfl <| yB rfl fun b90 => ?_
   rotate_left
  rotate_left 1
  refine JT.bslE pE [none, some b90] (by repeat (first | exact Cells.nil | apply Cells.z | (apply Cells.cl; rfl; rfl; rfl))) rfl (by decide) (by decide) pE_one (fun a91 => ?_)
  focus
   refine zc rfl <| zc rfl <| zd <| zq <| zb ?_
  refine J.lp (ι := Nat) (fun k => k ≤ 2) (fun k => [(93, i64 (k : Int))]) (fun _ => SlT true pE 1 (.slice a91 [none, some b90].length 2) 2 [none, some b90] :: pc b90 110 [.bool false, i64 0, .map none, .slice none 0 0] :: pc b1 65 (opEC x) :: F) (fun k => 2 - k) 0 (by omega) (by exact subxR rfl) (.of (.t0 (.t0 (.t2 (.d (.d .rf)))))) (fun k hk => ?_)
  obtain rfl | rfl | rfl : k = 0 ∨ k = 1 ∨ k = 2 := by omega
  focus
   refine zs <| zy (.cltT rfl rfl (by (try simp only [List.length_nil, List.length_cons, List.length_append, List.length_take, List.length_drop, List.length_set]); omega)) <| zd <| zq <| zt rfl <| zk <| zq <| zb <| zs <| zy (.iC rfl rfl (by (try simp only [List.length_nil, List.length_cons, List.length_append, List.length_take, List.length_drop, List.length_set]); omega)) <| zy (.LE0 rfl (by (try simp only [List.length_nil, List.length_cons, List.length_append, List.length_take, List.length_drop, List.length_set]); omega) rfl) <| zfw [_, _, _, _, _, _, _, _, _, _, _, _, _, _, _, _, _, _, _, _, _, _, _, _, _, _, _, _, _, _, _, _, _, _] rfl rfl rfl rfl ?_
   refine yD rfl rfl (.of .rf) (raTake_nil _ _) <| zc rfl <| zc rfl <| yN fun b15 => yW rfl rfl rfl rfl rfl <| zfw [_, _] rfl rfl rfl rfl <| zfl rfl rfl rfl <| zfw [_, _, _, _, _, _, _, _, _, _, _, _, _] rfl rfl rfl rfl <| yD rfl rfl (.of .rf) (raReply_nil _ _ _ _) <| zc rfl <| zc rfl <| yN fun b17 => ?_
   refine yW rfl rfl rfl rfl rfl <| zy (.cneF rfl rfl (by decide)) <| yG rfl <| zy (.cneF rfl rfl (by decide)) <| zy (.pickF rfl rfl) <| yG rfl <| zw rfl rfl <| yG rfl <| zg rfl <| yG rfl <| yD rfl rfl (.of .rf) (r4Same_zero _) <| yG rfl ?_
   refine zc rfl <| zy (.pickF rfl rfl) <| yG rfl <| zw rfl rfl <| yG rfl <| zg rfl <| yG rfl <| yD rfl rfl (.of .rf) (r4Same_zero _) <| yG rfl <| zc rfl <| zy (.pickF rfl rfl) <| yG rfl ?_
   refine yD rfl rfl (.of .rf) (raWaits_nil _) <| yG rfl <| zc rfl <| yG rfl <| yD rfl rfl (.of .rf) (raHeard_nil _) <| yG rfl <| zy (.addN rfl rfl (by omega)) <| yG rfl <| zy (.cneF rfl rfl (by omega)) <| zy (.pickF rfl rfl) <| zd <| zu rfl ?_
   refine zk <| zo <| zy (.addN rfl rfl (by omega)) <| zd <| ⟨_, ?_, (by omega), (subxR rfl), (.of (.t2 (.t2 (.t2 (.d (.d .rf))))))⟩
   omega
  focus
   refine zs <| zy (.cltT rfl rfl (by (try simp only [List.length_nil, List.length_cons, List.length_append, List.length_take, List.length_drop, List.length_set]); omega)) <| zd <| zq <| zt rfl <| zk <| zq <| zb <| zs <| zy (.iC rfl rfl (by (try simp only [List.length_nil, List.length_cons, List.length_append, List.length_take, List.length_drop, List.length_set]); omega)) <| zy (.LE0 rfl (by (try simp only [List.length_nil, List.length_cons, List.length_append, List.length_take, List.length_drop, List.length_set]); omega) rfl) <| zfw [_, _, _, _, _, _, _, _, _, _, _, _, _, _, _, _, _, _, _, _, _, _, _, _, _, _, _, _, _, _, _, _, _, _] rfl rfl rfl rfl ?_
   refine yD rfl rfl (.of .rf) (raTake_zero _) <| zc rfl <| zc rfl <| yN fun b15 => yW rfl rfl rfl rfl rfl <| zfw [_, _] rfl rfl rfl rfl <| zfl rfl rfl rfl <| zfw [_, _, _, _, _, _, _, _, _, _, _, _, _] rfl rfl rfl rfl <| yD rfl rfl (.of .rf) (raReply_zero _ _ _) <| zc rfl <| zc rfl <| yN fun b17 => ?_
   refine yW rfl rfl rfl rfl rfl <| zy (.cneF rfl rfl (by decide)) <| yG rfl <| zy (.cneF rfl rfl (by decide)) <| zy (.pickF rfl rfl) <| yG rfl <| zw rfl rfl <| yG rfl <| zg rfl <| yG rfl <| yD rfl rfl (.of .rf) (r4Same_zero _) <| yG rfl ?_
   refine zc rfl <| zy (.pickF rfl rfl) <| yG rfl <| zw rfl rfl <| yG rfl <| zg rfl <| yG rfl <| yD rfl rfl (.of .rf) (r4Same_zero _) <| yG rfl <| zc rfl <| zy (.pickF rfl rfl) <| yG rfl ?_
   refine yD rfl rfl (.of .rf) raWaits_zero <| yG rfl <| zc rfl <| yG rfl <| yD rfl rfl (.of .rf) raHeard_zero <| yG rfl <| zy (.addN rfl rfl (by omega)) <| yG rfl <| zy (.cneF rfl rfl (by omega)) <| zy (.pickF rfl rfl) <| zd <| zu rfl ?_
   refine zk <| zo <| zy (.addN rfl rfl (by omega)) <| zd <| ⟨_, ?_, (by omega), (subxR rfl), (.of (.t2 (.t2 (.t2 (.d (.d .rf))))))⟩
   omega
  focus
   refine zs <| zy (.cltF rfl rfl (by (try simp only [List.length_nil, List.length_cons, List.length_append, List.length_take, List.length_drop, List.length_set]); omega)) <| zd <| zq <| zu rfl <| zx <| zs <| yD rfl rfl (.of .rf) (l06awake_fn _) <| zd <| zr <| yR (.t rfl .nil) rfl (.of (.d (.d (.d .rf))))
end Go.Proofs.Ytienlpaehgdpaaa
