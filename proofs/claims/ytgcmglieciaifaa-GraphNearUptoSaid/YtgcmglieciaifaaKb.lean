/- Layers 1 and 2 (what layer 8 calls of them): what the functions do. Conditions: none. -/
import Derived.Test.YtgcmglieciaifaaBj
import Derived.Test.YtgcmglieciaifaaKa
import Derived.Test.YtgcmglieciaifaaLp
set_option linter.unusedSimpArgs false
set_option linter.unusedVariables false
set_option maxRecDepth 100000
set_option maxHeartbeats 2000000
namespace Go.Proofs.Ytgcmglieciaifaa
open Go Go.SL
attribute [local irreducible] pc rc SlT Me Mt It pt ro pur ex sep old Meets

theorem two_pos (n : Nat) : (1 : Int) ≤ 2 ^ n := by
  have : 0 < (2 : Int) ^ n := Int.pow_pos (by decide)
  omega
theorem two_le {n m : Nat} (h : n ≤ m) : (2 : Int) ^ n ≤ 2 ^ m := by
  have h := Nat.pow_le_pow_right (n := 2) (by decide) h
  have e : ∀ k : Nat, ((2 ^ k : Nat) : Int) = (2 : Int) ^ k := fun k => by simp
  rw [← e, ← e]; exact Int.ofNat_le.2 h
theorem vLow_fn (n : Int) (F : List Assn) (h0 : 0 ≤ n) (h1 : n ≤ 63) : Meets Try.prog 72 [i64 n] F (Det (u64 (2 ^ n.toNat - 1)) F) := by
  refine Meets.intro b72 k72 (by simp) ?_
  have hp := two_pos n.toNat
  have hq : (2 : Int) ^ n.toNat ≤ 2 ^ 63 := two_le (by omega)
  have hw : Wr .u64 (1 * 2 ^ (min n.toNat IntKind.u64.bits)) (2 ^ n.toNat) := by
    have : min n.toNat IntKind.u64.bits = n.toNat := by simp [IntKind.bits]; omega
    rw [this, Int.one_mul]
    exact Wr.u64 (by omega) (by omega)
  focus
   refine zs <| zc rfl <| zy (.cv rfl (Wr.u64 (by omega) (by omega))) <| zy (.shl rfl rfl (by omega) (by assumption)) ?_
   refine zy (.sub rfl rfl (Wr.u64 (by omega) (by omega))) <| zd <| zr <| yR (.t rfl .nil) rfl (.of .rf)

theorem vRight_fn (v : Vec) (F : List Assn) : Meets Try.prog 55 [vv v] F (Det (i64 (vRE v)) F) := by
  refine Meets.intro b55 k55 (by simp) ?_
  focus
   refine zs <| yB rfl fun b1 => zc rfl <| zfl rfl rfl rfl <| zj rfl rfl rfl <| zn rfl (fun h1 => ?_) (fun h1 => ?_)
   refine zf 0 rfl rfl <| yF rfl (by assumption) <| zl rfl rfl <| yF rfl (by assumption) <| zj rfl rfl rfl <| zy (.pickFp rfl (by assumption) rfl) <| zn rfl (fun h2 => ?_) (fun h2 => ?_)
   refine zf 1 rfl rfl <| yF rfl (by assumption) <| zl rfl rfl <| yF rfl (by assumption) <| zf 0 rfl rfl <| yF rfl (by assumption) <| zl rfl rfl <| yF rfl (by assumption) <| yD rfl rfl (.of .rf) (vLow_fn _ _ (by omega) (by omega)) <| JT.gaF rfl (by assumption) rfl (Ev.L rfl rfl) ?_
   refine yF rfl (by assumption) <| zj rfl rfl rfl <| zy (.pickFp rfl (by assumption) rfl) <| zd <| zq <| zi rfl (fun h3 => ?_) (fun h3 => ?_)
   refine zs <| zc rfl <| zd <| zr <| yR (.t rfl .nil) ?_ (.of (.d .rf))
   rotate_left
   refine zk <| zs <| zc rfl <| zd <| zr <| yR (.t rfl .nil) ?_ (.of (.d .rf))
   rotate_left
   refine yFs rfl (by assumption) <| yFs rfl (by assumption) <| yFs rfl (by assumption) <| yFs rfl (by assumption) <| JT.gaFs rfl (by assumption) rfl ?_
   refine yFs rfl (by assumption) <| zy (.pickTp rfl (by assumption) rfl) <| zd <| zq <| zt rfl <| zs <| zc rfl <| zd <| zr <| yR (.t rfl .nil) ?_ (.of (.d .rf))
   rotate_left
   refine yFs rfl (by assumption) <| yFs rfl (by assumption) <| zy (.pickTp rfl (by assumption) rfl) <| zv rfl rfl <| zv rfl rfl <| zv rfl rfl <| zv rfl rfl <| zv rfl rfl <| JT.agF rfl rfl rfl <| zv rfl rfl <| zy (.pickT rfl rfl) <| zd ?_
   refine zq <| zt rfl <| zs <| zc rfl <| zd <| zr <| yR (.t rfl .nil) ?_ (.of (.d .rf))
   rotate_left
  all_goals simp only [mkRet]
  all_goals first
    | (rw [vRE, if_neg (by unfold vecOk; omega)])
    | (rw [vRE, if_pos (by unfold vecOk; omega)])

theorem vprefix_fn (v : Vec) (n : Int) (F : List Assn) (h0 : 0 ≤ n) (h1 : n ≤ v.len) (h2 : v.len ≤ 32) : Meets Try.prog 78 [vv v, i64 n] F (Det (vv (vpre v n)) F) := by
  refine Meets.intro b78 k78 (by simp) ?_
  have hs : v.bits.fdiv (2 ^ (min (v.len - n).toNat IntKind.u64.bits)) = v.bits.fdiv (2 ^ (v.len - n).toNat) := by
    have : min (v.len - n).toNat IntKind.u64.bits = (v.len - n).toNat := by simp [IntKind.bits]; omega
    rw [this]
  focus
   refine zs <| yB rfl fun b2 => yN fun b4 => zfl rfl rfl rfl <| zfl rfl rfl rfl <| zy (.sub rfl rfl (Wr.i64 (by omega) (by omega))) <| zy (.cv rfl (Wr.u64 (by omega) (by omega))) <| zy (.shr rfl rfl (by omega) (by assumption)) ?_
   refine zg rfl <| yW rfl rfl rfl rfl rfl <| zd <| zr <| yR (.w rfl rfl .nil) rfl (.of (.d (.d .rf)))















theorem kCheck_fn (k : Key) (F : List Assn) : Meets Try.prog 34 [kv k] F (Det (i64 (kCE k)) F) := by
  refine Meets.intro b34 k34 (by simp) ?_
  focus
   refine zs <| yB rfl fun b1 => zc rfl <| zfl rfl rfl rfl <| zj rfl rfl rfl <| zh rfl rfl (fun h1 => .fa' 0 rfl rfl) <| zh rfl rfl (fun h1 => by rw [h1]; exact .L rfl rfl) <| zh rfl rfl (fun h1 => by rw [h1]; exact .int rfl rfl rfl) <| zh rfl rfl (fun h1 => by rw [h1]; exact .calc rfl) <| JT.yh2 rfl rfl (fun h1 h1' => Ev.fa' 0 rfl rfl) <| JT.yh2 rfl rfl (fun h1 h1' => by rw [h1, h1']; exact .L rfl rfl) <| JT.yh2 rfl rfl (fun h1 h1' => by rw [h1, h1']; exact .int rfl rfl rfl) ?_
   refine zh rfl rfl (fun h1 => by rw [h1]; exact .pickO rfl rfl rfl) <| zh rfl rfl (fun h1 => by rw [h1]; exact .calc rfl) <| JT.yg2 rfl rfl (fun h1 h1' => Ev.fa' 1 rfl rfl) <| JT.yg2 rfl rfl (fun h1 h1' => by rw [h1, h1']; exact .L rfl rfl) <| JT.yg2 rfl rfl (fun h1 h1' => by rw [h1, h1']; exact .int rfl rfl rfl) <| zh rfl rfl (fun h1 => by rw [h1]; exact .pickA rfl rfl rfl) <| zy (.pickO rfl rfl rfl) <| zd <| zq <| zi rfl (fun h1 => ?_) (fun h1 => ?_)
   refine zs <| zc rfl <| zd <| zr <| yR (.t rfl .nil) ?_ (.of (.d .rf))
   rotate_left
   refine zk <| zs <| zc rfl <| zd <| zr <| yR (.t rfl .nil) ?_ (.of (.d .rf))
   rotate_left
  all_goals simp only [mkRet]
  · rw [kCE, if_pos (by unfold keyOk; omega)]
  · rw [kCE, if_neg (by unfold keyOk; omega)]
theorem cmpNanI_fn (n : Int) (F : List Assn) : Meets Try.prog 106 [i64 n] F (Det (.bool false) F) := by
  refine Meets.intro b106 k106 (by simp) ?_
  focus
   refine zs <| zc rfl <| zy (.cneF rfl rfl (by omega)) <| zd <| zr <| yR (.t rfl .nil) rfl (.of .rf)
theorem cmpNanR_fn (n : Int) (F : List Assn) : Meets Try.prog 98 [i64 n] F (Det (.bool false) F) := by
  refine Meets.intro b98 k98 (by simp) ?_
  focus
   refine zs <| zc rfl <| zy (.cneF rfl rfl (by omega)) <| zd <| zr <| yR (.t rfl .nil) rfl (.of .rf)
theorem cmpNanU_fn (n : Int) (F : List Assn) : Meets Try.prog 99 [u64 n] F (Det (.bool false) F) := by
  refine Meets.intro b99 k99 (by simp) ?_
  focus
   refine zs <| zc rfl <| zy (.cneF rfl rfl (by omega)) <| zd <| zr <| yR (.t rfl .nil) rfl (.of .rf)
theorem cmpInt_fn (a b : Int) (F : List Assn) : Meets Try.prog 95 [i64 a, i64 b] F (Det (i64 (icmp a b)) F) := by
  refine Meets.intro b95 k95 (by simp) ?_
  focus
   refine zs <| zc rfl <| yD rfl rfl (.of .rf) (cmpNanI_fn _ _) <| yD rfl rfl (.of .rf) (cmpNanI_fn _ _) <| zc rfl <| zd <| zq <| zu rfl <| zk <| zs <| zc rfl <| zd ?_
   refine zq <| zu rfl <| zk <| zs <| zj rfl rfl rfl <| zd <| zq <| zi rfl (fun h1 => ?_) (fun h1 => ?_)
   refine zs <| zc rfl <| zd <| zr <| yR (.t rfl .nil) ?_ (.of .rf)
   rotate_left
   refine zk <| zs <| zj rfl rfl rfl <| zd <| zq <| zi rfl (fun h2 => ?_) (fun h2 => ?_)
   refine zs <| zc rfl <| zd <| zr <| yR (.t rfl .nil) ?_ (.of .rf)
   rotate_left
   refine zk <| zs <| zc rfl <| zd <| zr <| yR (.t rfl .nil) ?_ (.of .rf)
   rotate_left
  all_goals (simp only [mkRet]; unfold icmp; (repeat (first | rw [if_pos (by (first | assumption | omega | grind))] | rw [if_neg (by (first | assumption | omega | grind))])))
theorem cmpRank_fn (a b : Int) (F : List Assn) : Meets Try.prog 80 [i64 a, i64 b] F (Det (i64 (icmp a b)) F) := by
  refine Meets.intro b80 k80 (by simp) ?_
  focus
   refine zs <| zc rfl <| yD rfl rfl (.of .rf) (cmpNanR_fn _ _) <| yD rfl rfl (.of .rf) (cmpNanR_fn _ _) <| zc rfl <| zd <| zq <| zu rfl <| zk <| zs <| zc rfl <| zd ?_
   refine zq <| zu rfl <| zk <| zs <| zj rfl rfl rfl <| zd <| zq <| zi rfl (fun h1 => ?_) (fun h1 => ?_)
   refine zs <| zc rfl <| zd <| zr <| yR (.t rfl .nil) ?_ (.of .rf)
   rotate_left
   refine zk <| zs <| zj rfl rfl rfl <| zd <| zq <| zi rfl (fun h2 => ?_) (fun h2 => ?_)
   refine zs <| zc rfl <| zd <| zr <| yR (.t rfl .nil) ?_ (.of .rf)
   rotate_left
   refine zk <| zs <| zc rfl <| zd <| zr <| yR (.t rfl .nil) ?_ (.of .rf)
   rotate_left
  all_goals (simp only [mkRet]; unfold icmp; (repeat (first | rw [if_pos (by (first | assumption | omega | grind))] | rw [if_neg (by (first | assumption | omega | grind))])))
theorem cmpU_fn (a b : Int) (F : List Assn) : Meets Try.prog 81 [u64 a, u64 b] F (Det (i64 (icmp a b)) F) := by
  refine Meets.intro b81 k81 (by simp) ?_
  focus
   refine zs <| zc rfl <| yD rfl rfl (.of .rf) (cmpNanU_fn _ _) <| yD rfl rfl (.of .rf) (cmpNanU_fn _ _) <| zc rfl <| zd <| zq <| zu rfl <| zk <| zs <| zc rfl <| zd ?_
   refine zq <| zu rfl <| zk <| zs <| zj rfl rfl rfl <| zd <| zq <| zi rfl (fun h1 => ?_) (fun h1 => ?_)
   refine zs <| zc rfl <| zd <| zr <| yR (.t rfl .nil) ?_ (.of .rf)
   rotate_left
   refine zk <| zs <| zj rfl rfl rfl <| zd <| zq <| zi rfl (fun h2 => ?_) (fun h2 => ?_)
   refine zs <| zc rfl <| zd <| zr <| yR (.t rfl .nil) ?_ (.of .rf)
   rotate_left
   refine zk <| zs <| zc rfl <| zd <| zr <| yR (.t rfl .nil) ?_ (.of .rf)
   rotate_left
  all_goals (simp only [mkRet]; unfold icmp; (repeat (first | rw [if_pos (by (first | assumption | omega | grind))] | rw [if_neg (by (first | assumption | omega | grind))])))
instance : TE 3 Int intE 1 := ⟨intE_one, by decide⟩
theorem cmpOr_fn {a : Option Addr} {c : Nat} {x y : Int} {F : List Assn} [Hs : HS F (.slice a 2 c) Int intE 1 c [x, y]] : Meets Try.prog 79 [.slice a 2 c] F (Det (i64 (if x ≠ 0 then x else y)) F) := by
  refine Meets.intro b79 k79 (by simp) ?_
  have Hs' : HS F (.slice a [x, y].length c) Int intE 1 c [x, y] := Hs
  refine J.sl Hs' (fun hC hL hN => ?_)
  focus
   refine zs <| zc rfl <| zc rfl <| zc rfl <| zc rfl <| zc rfl <| zd <| zq <| zb ?_
  refine J.lp (ι := Nat) (fun k => k ≤ 2 ∧ ∀ j, j < k → nth [x, y] j = 0) (fun k => [(8, i64 k)]) (fun _ => F) (fun k => 2 - k) 0 ⟨by omega, fun j hj => by omega⟩ (by exact subxR rfl) (Up.refl _) (fun k hk => ?_)
  obtain ⟨hk, hn⟩ := hk
  focus
   refine zs <| zj rfl rfl rfl <| zd <| zq <| zi rfl (fun h1 => ?_) (fun h1 => ?_)
   refine zk <| zq <| zb <| zs <| zy (.iC rfl rfl (by simp; omega)) <| zy (.LE0 rfl (by simp; omega) rfl) <| zj rfl rfl rfl <| zd <| zi rfl (fun h2 => ?_) (fun h2 => ?_)
   refine zs <| zc rfl <| zd <| zr <| yR (.t rfl .nil) ?_ (.of .rf)
   rotate_left
   refine zk <| zo <| zy (.addN rfl rfl (by omega)) <| zd <| ⟨_, ?_, (by omega), (subxR rfl), (.of .rf)⟩
   rotate_left
   refine zx <| zs <| zc rfl <| zd <| zr <| yR (.t rfl .nil) ?_ (.of .rf)
   rotate_left
  · simp only [mkRet]; congr 2
    have hk' : k = 0 ∨ k = 1 := by omega
    rcases hk' with rfl | rfl
    · have h2' : ¬ x = 0 := h2
      simp [nth, h2']
    · have h0 : x = 0 := hn 0 (by omega)
      simp [nth, h0]
  · exact ⟨by omega, all_lt_succ hn h2⟩
  · simp only [mkRet]; congr 2
    have h0 : x = 0 := hn 0 (by omega)
    have h0' : y = 0 := hn 1 (by omega)
    simp [h0, h0']

theorem kCompare_fn (a b : Key) (F : List Assn) : Meets Try.prog 63 [kv a, kv b] F (Det (i64 (kcmp a b)) F) := by
  refine Meets.intro b63 k63 (by simp) ?_
  focus
   refine zs <| yB rfl fun b2 => yB rfl fun b3 => zc rfl <| zfl rfl rfl rfl <| zfl rfl rfl rfl <| zf 1 rfl rfl <| zl rfl rfl <| zf 1 rfl rfl <| zl rfl rfl <| yD rfl rfl (.of .rf) (cmpRank_fn _ _ _) <| JT.yA rfl (Ev.L rfl rfl) ?_
   refine JT.yA rfl (Ev.L rfl rfl) <| yD rfl rfl (.of .rf) (cmpU_fn _ _ _) <| JT.bT [_, _] (by repeat (first | exact Cells.nil | apply Cells.z | (apply Cells.cl; rfl; rfl; rfl))) rfl (by decide) fun a15 => ?_
   refine yD rfl rfl (.of .rf) cmpOr_fn <| zd <| zr <| yR (.t rfl .nil) rfl (.of (.d (.d (.d .rf))))
theorem kLess_fn (a b : Key) (F : List Assn) : Meets Try.prog 36 [kv a, kv b] F (Det (.bool (decide (keyLt a b))) F) := by
  refine Meets.intro b36 k36 (by simp) ?_
  focus
   refine zs <| yB rfl fun b2 => yB rfl fun b3 => zc rfl <| zw rfl rfl <| zw rfl rfl <| yD rfl rfl (.of .rf) (kCompare_fn _ _ _) <| zj rfl rfl rfl <| zd <| zr <| yR (.t rfl .nil) ?_ (.of (.d (.d .rf)))
  simp only [mkRet, kcmp_lt]



end Go.Proofs.Ytgcmglieciaifaa
