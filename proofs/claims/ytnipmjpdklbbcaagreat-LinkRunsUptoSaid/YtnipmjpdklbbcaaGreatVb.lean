/- Layer 1 (vectors): what more of its functions do. Conditions: none. -/
import Derived.Test.YtnipmjpdklbbcaaGreatBw
import Derived.Test.YtnipmjpdklbbcaaGreatVa
import Derived.Test.YtnipmjpdklbbcaaGreatKb
set_option linter.unusedSimpArgs false
set_option linter.unusedVariables false
set_option maxRecDepth 100000
set_option maxHeartbeats 2000000
namespace Go.Proofs.YtnipmjpdklbbcaaGreat
open Go Go.SL
attribute [local irreducible] pc rc SlT Me Mt It pt ro pur ex sep old Meets

theorem vBoth_fn (v w : Vec) (F : List Assn) : Meets Tryz.prog 161 [vv v, vv w] F (Det (i64 (if vecOk v then vRE w else vRE v)) F) := by
  refine Meets.intro b161 k161 (by simp) ?_
  focus
   refine zs <| yB rfl fun b2 => yB rfl fun b3 => zc rfl <| zw rfl rfl <| yD rfl rfl (.of .rf) (vRight_fn _ _) <| zj rfl rfl rfl <| zd <| zq <| zi rfl (fun h1 => ?_) (fun h1 => ?_)
   refine zs <| zc rfl <| zd <| zr <| yR (.t rfl .nil) ?_ (.of (.d (.d .rf)))
   rotate_left
   refine zk <| zs <| zw rfl rfl <| yD rfl rfl (.of .rf) (vRight_fn _ _) <| zd <| zr <| yR (.t rfl .nil) ?_ (.of (.d (.d .rf)))
   rotate_left
  all_goals (simp only [mkRet]; (repeat (first | rw [if_pos (by (first | assumption | omega | grind))] | rw [if_neg (by (first | assumption | omega | grind))])))
theorem vUpTo_fn (v : Vec) (n : Int) (F : List Assn) : Meets Tryz.prog 245 [vv v, i64 n] F (Det (i64 (if vecOk v then (if 0 ≤ n ∧ n ≤ v.len then 0 else 5) else 10)) F) := by
  refine Meets.intro b245 k245 (by simp) ?_
  focus
   refine zs <| yB rfl fun b2 => zc rfl <| zw rfl rfl <| yD rfl rfl (.of .rf) (vRight_fn _ _) <| zj rfl rfl rfl <| zd <| zq <| zi rfl (fun h1 => ?_) (fun h1 => ?_)
   refine zs <| zc rfl <| zd <| zr <| yR (.t rfl .nil) ?_ (.of (.d .rf))
   rotate_left
   refine zk <| zs <| zj rfl rfl rfl <| zh rfl rfl (fun h2 => .fa' 0 rfl rfl) <| zh rfl rfl (fun h2 => by rw [h2]; exact .L rfl rfl) <| zh rfl rfl (fun h2 => by rw [h2]; exact .int rfl rfl rfl) <| zy (.pickO rfl rfl rfl) <| zd <| zq <| zi rfl (fun h2 => ?_) (fun h2 => ?_)
   refine zs <| zc rfl <| zd <| zr <| yR (.t rfl .nil) ?_ (.of (.d .rf))
   rotate_left
   refine zk <| zs <| zc rfl <| zd <| zr <| yR (.t rfl .nil) ?_ (.of (.d .rf))
   rotate_left
  all_goals (simp only [mkRet]; (repeat (first | rw [if_pos (by (first | assumption | omega | grind))] | rw [if_neg (by (first | assumption | omega | grind))])))
  all_goals try rw [vRE, if_neg (by assumption)]
theorem vUpTo_ok (v : Vec) (n : Int) (F : List Assn) (hv : vecOk v) (h0 : 0 ≤ n) (h1 : n ≤ v.len) : Meets Tryz.prog 245 [vv v, i64 n] F (Det (i64 0) F) := by
  have := vUpTo_fn v n F
  rw [if_pos hv, if_pos ⟨h0, h1⟩] at this; exact this
theorem vPrefix_fn (v : Vec) (n : Int) (F : List Assn) (hv : vecOk v) (h0 : 0 ≤ n) (h1 : n ≤ v.len) : Meets Tryz.prog 227 [vv v, i64 n] F (Det (.tuple #[vv (vpre v n), i64 0]) F) := by
  refine Meets.intro b227 k227 (by simp) ?_
  have := hv.2.1
  focus
   refine zs <| yB rfl fun b2 => yN fun b4 => zc rfl <| zw rfl rfl <| yD rfl rfl (.of .rf) (vUpTo_ok _ _ _ (by assumption) (by assumption) (by assumption)) <| zy (.cneF rfl rfl (by decide)) <| zd <| zq <| zu rfl <| zk <| zs ?_
   refine zw rfl rfl <| yD rfl rfl (.of .rf) (vprefix_fn _ _ _ (by assumption) (by assumption) (by assumption)) <| yW rfl rfl rfl rfl rfl <| zc rfl <| zd <| zr <| yR (.w rfl rfl (.t rfl .nil)) rfl (.of (.d (.d .rf)))
theorem vbit_fn (v : Vec) (i : Int) (F : List Assn) (hv : vecG v) (h0 : 0 ≤ i) (h1 : i < v.len) : Meets Tryz.prog 163 [vv v, i64 i] F (Det (i64 (((vbits v).getD i.toNat 0 : Nat) : Int)) F) := by
  refine Meets.intro b163 k163 (by simp) ?_
  have := hv.1.2.1
  have hs : v.bits.fdiv (2 ^ (min (v.len - 1 - i).toNat IntKind.u64.bits)) = ((v.b / 2 ^ (v.n - 1 - i.toNat) : Nat) : Int) := by
    have e1 := hv.len.1
    have : min (v.len - 1 - i).toNat IntKind.u64.bits = v.n - 1 - i.toNat := by simp [IntKind.bits]; omega
    rw [this, hv.bits, fdiv_nat]
  focus
   refine zs <| yB rfl fun b2 => zc rfl <| zfl rfl rfl rfl <| zfl rfl rfl rfl <| zy (.sub rfl rfl (Wr.i64 (by omega) (by omega))) <| zy (.sub rfl rfl (Wr.i64 (by omega) (by omega))) <| zy (.cv rfl (Wr.u64 (by omega) (by omega))) <| zy (.shr rfl rfl (by omega) (by assumption)) ?_
   refine zj rfl rfl rfl <| zy (.cv rfl (Wr.self _ _)) <| zd <| zr <| yR (.t rfl .nil) ?_ (.of (.d .rf))
  simp only [mkRet]
  have e1 := hv.len.1
  unfold vbits
  rw [show IntKind.u64.bits = 64 from rfl, and_one, getD_of (bits_get v.n v.b i.toNat (by omega))]
  have hm : v.b / 2 ^ (v.n - 1 - i.toNat) % 2 < 2 := Nat.mod_lt _ (by decide)
  generalize v.b / 2 ^ (v.n - 1 - i.toNat) % 2 = m at hm ⊢
  rw [show IntKind.u64.wrap (m : Int) = m from Wr.u64 (by omega) (by omega), show IntKind.i64.wrap (m : Int) = m from Wr.i64 (by omega) (by omega)]
theorem len8_cut {x n y k : Nat} (I : blen x = n + blen y) (h : 2 ^ k ≤ y) : blen x = (n + k) + blen (y / 2 ^ k) := by have := blen_shift h; omega
theorem bLen64_fn (x : Nat) (F : List Assn) (h : x < 2 ^ 64) : Meets Tryz.prog 177 [u64 (x : Int)] F (Det (i64 ((blen x : Nat) : Int)) F) := by
  refine Meets.intro b177 k177 (by simp) ?_
  have hs1 : ((x : Int)).fdiv (2 ^ (min (Int.toNat 32) IntKind.u64.bits)) = ((x / 2 ^ 32 : Nat) : Int) := fdiv_nat x 32
  refine zs <| zc rfl <| zj rfl rfl rfl <| zd ?_
  refine J.cutD (ι := Nat × Nat) (fun i => blen x = i.2 + blen i.1 ∧ i.1 < 2 ^ 32 ∧ i.2 ≤ 32) (fun i => [(0, u64 (i.1 : Int)), (2, i64 (i.2 : Int))]) (fun _ => F) ?_ (fun i hi => ?_)
  · focus
     refine zi rfl (fun h1 => ?_) (fun h1 => ?_)
     refine zo <| zy (.shr rfl rfl (by omega) (by assumption)) ?_
     refine zc rfl <| zd <| ⟨⟨_, _⟩, ?_, (subxR rfl), (.of .rf)⟩
     rotate_left
     refine zk <| ⟨⟨_, _⟩, ?_, (subxR rfl), (.of .rf)⟩
     rotate_left
    · exact ⟨by have := blen_shift (x := x) (k := 32) (by omega); simp only; omega, by simp only; omega, by simp⟩
    · exact ⟨by simp, by simp only; omega, by simp⟩
  obtain ⟨y, n⟩ := i
  obtain ⟨I, hy, hn⟩ := hi
  simp only at I hy hn ⊢
  have hs2 : ((y : Int)).fdiv (2 ^ (min (Int.toNat 16) IntKind.u64.bits)) = ((y / 2 ^ 16 : Nat) : Int) := fdiv_nat y 16
  refine zs <| zj rfl rfl rfl <| zd ?_
  refine J.cutD (ι := Nat × Nat) (fun i => blen x = i.2 + blen i.1 ∧ i.1 < 2 ^ 16 ∧ i.2 ≤ 48) (fun i => [(0, u64 (i.1 : Int)), (2, i64 (i.2 : Int))]) (fun _ => F) ?_ (fun i hi => ?_)
  · focus
     refine zi rfl (fun h1 => ?_) (fun h1 => ?_)
     refine zo <| zy (.shr rfl rfl (by omega) (by assumption)) ?_
     refine zy (.add rfl rfl (Wr.i64 (by omega) (by omega))) <| zd <| ⟨⟨_, _⟩, ?_, (subxR rfl), (.of .rf)⟩
     rotate_left
     refine zk <| ⟨⟨_, _⟩, ?_, (subxR rfl), (.of .rf)⟩
     rotate_left
    · exact ⟨by simp only; exact len8_cut I (by omega), by simp only; omega, by simp only; omega⟩
    · exact ⟨I, by simp only; omega, by simp only; omega⟩
  refine J.keep [(0, u64 (i.1 : Int)), (2, i64 (i.2 : Int))] (by exact subxR rfl) ?_
  clear I hy hn hs1 hs2 y n
  obtain ⟨y, n⟩ := i
  obtain ⟨I, hy, hn⟩ := hi
  simp only at I hy hn ⊢
  have hs2 : ((y : Int)).fdiv (2 ^ (min (Int.toNat 8) IntKind.u64.bits)) = ((y / 2 ^ 8 : Nat) : Int) := fdiv_nat y 8
  refine zs <| zj rfl rfl rfl <| zd ?_
  refine J.cutD (ι := Nat × Nat) (fun i => blen x = i.2 + blen i.1 ∧ i.1 < 2 ^ 8 ∧ i.2 ≤ 56) (fun i => [(0, u64 (i.1 : Int)), (2, i64 (i.2 : Int))]) (fun _ => F) ?_ (fun i hi => ?_)
  · focus
     refine zi rfl (fun h1 => ?_) (fun h1 => ?_)
     refine zo <| zy (.shr rfl rfl (by omega) (by assumption)) ?_
     refine zy (.add rfl rfl (Wr.i64 (by omega) (by omega))) <| zd <| ⟨⟨_, _⟩, ?_, (subxR rfl), (.of .rf)⟩
     rotate_left
     refine zk <| ⟨⟨_, _⟩, ?_, (subxR rfl), (.of .rf)⟩
     rotate_left
    · exact ⟨by simp only; exact len8_cut I (by omega), by simp only; omega, by simp only; omega⟩
    · exact ⟨I, by simp only; omega, by simp only; omega⟩
  refine J.keep [(0, u64 (i.1 : Int)), (2, i64 (i.2 : Int))] (by exact subxR rfl) ?_
  clear I hy hn hs2 y n
  obtain ⟨y, n⟩ := i
  obtain ⟨I, hy, hn⟩ := hi
  simp only at I hy hn ⊢
  have hb8 := blen_small hy
  refine zs <| zy (.cv rfl (Wr.u8 (by omega) (by omega))) ?_
  refine zy (.idx (s := len8) (n := y) rfl rfl (len8_get hy)) ?_
  have hv : (UInt8.ofNat (blen y)).toNat = blen y := by simp; omega
  rw [hv]
  focus
   refine zy (.cv rfl (Wr.i64 (by omega) (by omega))) <| zy (.addN rfl rfl (by omega)) <| zd <| zr <| yR (.t rfl .nil) ?_ (.of .rf)
  simp only [mkRet]; rw [I]
theorem vCommon_fn (v w : Vec) (F : List Assn) (hv : vecG v) (hw : vecG w) : Meets Tryz.prog 162 [vv v, vv w] F (Det (i64 ((commonL (vbits v) (vbits w) : Nat) : Int)) F) := by
  refine Meets.intro b162 k162 (by simp) ?_
  have e1 := hv.len; have e2 := hw.len
  have hN : (if w.len < v.len then w.len else v.len) = ((min v.n w.n : Nat) : Int) := by split <;> omega
  have h0 : 0 ≤ (if w.len < v.len then w.len else v.len) := by omega
  have h1 : (if w.len < v.len then w.len else v.len) ≤ v.len := by omega
  have h2 : (if w.len < v.len then w.len else v.len) ≤ w.len := by omega
  obtain ⟨hc, l1, l2⟩ := vcommon_xor hv hw (m := min v.n w.n) rfl
  have g1 := vpre_G hv (n := min v.n w.n) (by omega)
  have g2 := vpre_G hw (n := min v.n w.n) (by omega)
  have p64 : 2 ^ min v.n w.n ≤ 2 ^ 64 := Nat.pow_le_pow_right (by decide) (by omega)
  have hxl := Nat.xor_lt_two_pow l1 l2
  have hx : IntKind.u64.wrap ((BitVec.ofInt IntKind.u64.bits (vpre v (if w.len < v.len then w.len else v.len)).bits ^^^ BitVec.ofInt IntKind.u64.bits (vpre w (if w.len < v.len then w.len else v.len)).bits).toNat : Int) = (((vpre v (min v.n w.n : Nat)).b ^^^ (vpre w (min v.n w.n : Nat)).b : Nat) : Int) := by
    rw [hN, g1.bits, g2.bits, show IntKind.u64.bits = 64 from rfl, xor_nat _ _ (by omega) (by omega)]
    exact Wr.u64 (by omega) (by omega)
  have hbl := blen_le_of hxl
  focus
   refine zs <| yB rfl fun b2 => yB rfl fun b3 => zc rfl <| zfl rfl rfl rfl <| zfl rfl rfl rfl <| zy (.mn rfl rfl) <| zw rfl rfl <| zw rfl rfl <| yD rfl rfl (.of .rf) (vprefix_fn _ _ _ (by assumption) (by assumption) (by omega)) <| JT.yA rfl (Ev.Lw rfl rfl) <| zc rfl ?_
   refine yD rfl rfl (.of .rf) (vprefix_fn _ _ _ (by assumption) (by assumption) (by omega)) <| zc rfl <| zj rfl rfl rfl ?_
  rw [hx]
  have hxx : (vpre v (min v.n w.n : Nat)).b ^^^ (vpre w (min v.n w.n : Nat)).b < 2 ^ 64 := by omega
  focus
   refine yD rfl rfl (.of .rf) (bLen64_fn _ _ (by assumption)) <| zy (.sub rfl rfl (Wr.i64 (by omega) (by omega))) <| zd <| zr <| yR (.t rfl .nil) ?_ (.of (.d (.d .rf)))
  simp only [mkRet]; rw [hc, hN]; congr 1; omega
theorem vCompare_fn (v w : Vec) (F : List Assn) (hv : vecG v) (hw : vecG w) : Meets Tryz.prog 100 [vv v, vv w] F (Det (.tuple #[i64 (vcmp v w), i64 0]) F) := by
  refine Meets.intro b100 k100 (by simp) ?_
  have e1 := hv.len; have e2 := hw.len
  have hv1 := hv.1; have hw1 := hw.1
  have hN : (if w.len < v.len then w.len else v.len) = ((min v.n w.n : Nat) : Int) := by split <;> omega
  have q1 := vbits_len v; have q2 := vbits_len w
  focus
   refine zs <| yB rfl fun b2 => yB rfl fun b3 => zc rfl <| zc rfl <| zw rfl rfl <| zw rfl rfl <| yD rfl rfl (.of .rf) (vBoth_fn _ _ _) <| zj rfl rfl rfl <| zd <| zq <| zi rfl (fun h1 => ?_) (fun h1 => ?_)
   refine zs <| zc rfl <| zc rfl <| zd <| zr <| yR (.t rfl (.t rfl .nil)) ?_ (.of (.d (.d .rf)))
   rotate_left
   refine zk <| zs <| zw rfl rfl <| zw rfl rfl <| yD rfl rfl (.of .rf) (vCommon_fn _ _ _ (by assumption) (by assumption)) <| zfl rfl rfl rfl <| zfl rfl rfl rfl <| zy (.mn rfl rfl) <| zj rfl rfl rfl <| zd <| zq <| zi rfl (fun h2 => ?_) (fun h2 => ?_)
   refine zs <| zw rfl rfl <| zw rfl rfl <| yD rfl rfl (.of .rf) (vbit_fn _ _ _ (by assumption) (by omega) (by omega)) <| JT.yA rfl (Ev.Lw rfl rfl) <| yD rfl rfl (.of .rf) (vbit_fn _ _ _ (by assumption) (by omega) (by omega)) <| yD rfl rfl (.of .rf) (cmpInt_fn _ _ _) <| zc rfl <| zd <| zr <| yR (.t rfl (.t rfl .nil)) ?_ (.of (.d (.d .rf)))
   rotate_left
   refine zk <| zs <| zfl rfl rfl rfl <| zfl rfl rfl rfl <| yD rfl rfl (.of .rf) (cmpInt_fn _ _ _) <| zc rfl <| zd <| zr <| yR (.t rfl (.t rfl .nil)) ?_ (.of (.d (.d .rf)))
   rotate_left
  · rw [if_pos hv1, vRE, if_pos hw1] at h1; exact absurd rfl h1
  · simp only [mkRet, Int.toNat_natCast]; unfold vcmp
    rw [lexCmp_in (by omega) (by omega)]
  · simp only [mkRet]; unfold vcmp
    rw [lexCmp_end (by omega), q1, q2, e1.1, e2.1]
theorem vCompare_no (v w : Vec) (F : List Assn) (hv : ¬ (vecOk v ∧ vecOk w)) : Meets Tryz.prog 100 [vv v, vv w] F (Det (.tuple #[i64 0, i64 10]) F) := by
  have hb : (if vecOk v then vRE w else vRE v) = 10 := by
    unfold vRE; split
    · rw [if_neg (fun h => hv ⟨by assumption, h⟩)]
    · rfl
  have hB : ∀ F, Meets Tryz.prog 161 [vv v, vv w] F (Det (i64 10) F) := fun F => by rw [← hb]; exact vBoth_fn v w F
  refine Meets.intro b100 k100 (by simp) ?_
  focus
   refine zs <| yB rfl fun b2 => yB rfl fun b3 => zc rfl <| zc rfl <| zw rfl rfl <| zw rfl rfl <| yD rfl rfl (.of .rf) (hB _) <| zy (.cneT rfl rfl (by decide)) <| zd <| zq <| zt rfl ?_
   refine zs <| zc rfl <| zc rfl <| zd <| zr <| yR (.t rfl (.t rfl .nil)) rfl (.of (.d (.d .rf)))
end Go.Proofs.YtnipmjpdklbbcaaGreat
