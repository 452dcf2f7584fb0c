/- Layer 1 (vectors): what more of its functions do. Conditions: none. -/
import Derived.Test.YtgcmglieciaifaaBj
import Derived.Test.YtgcmglieciaifaaVa
import Derived.Test.YtgcmglieciaifaaKb
set_option linter.unusedSimpArgs false
set_option linter.unusedVariables false
set_option maxRecDepth 100000
set_option maxHeartbeats 2000000
namespace Go.Proofs.Ytgcmglieciaifaa
open Go Go.SL
attribute [local irreducible] pc rc SlT Me Mt It pt ro pur ex sep old Meets

theorem vBoth_fn (v w : Vec) (F : List Assn) : Meets Try.prog 93 [vv v, vv w] F (Det (i64 (if vecOk v then vRE w else vRE v)) F) := by
  refine Meets.intro b93 k93 (by simp) ?_
  focus
   refine zs <| yB rfl fun b2 => yB rfl fun b3 => zc rfl <| zw rfl rfl <| yD rfl rfl (.of .rf) (vRight_fn _ _) <| zj rfl rfl rfl <| zd <| zq <| zi rfl (fun h1 => ?_) (fun h1 => ?_)
   refine zs <| zc rfl <| zd <| zr <| yR (.t rfl .nil) ?_ (.of (.d (.d .rf)))
   rotate_left
   refine zk <| zs <| zw rfl rfl <| yD rfl rfl (.of .rf) (vRight_fn _ _) <| zd <| zr <| yR (.t rfl .nil) ?_ (.of (.d (.d .rf)))
   rotate_left
  all_goals (simp only [mkRet]; (repeat (first | rw [if_pos (by (first | assumption | omega | grind))] | rw [if_neg (by (first | assumption | omega | grind))])))
theorem vUpTo_fn (v : Vec) (n : Int) (F : List Assn) : Meets Try.prog 100 [vv v, i64 n] F (Det (i64 (if vecOk v then (if 0 ≤ n ∧ n ≤ v.len then 0 else 5) else 10)) F) := by
  refine Meets.intro b100 k100 (by simp) ?_
  focus
   refine zs <| yB rfl fun b2 => zc rfl <| zw rfl rfl <| yD rfl rfl (.of .rf) (vRight_fn _ _) <| zj rfl rfl rfl <| zd <| zq <| zi rfl (fun h1 => ?_) (fun h1 => ?_)
   refine zs <| zc rfl <| zd <| zr <| yR (.t rfl .nil) ?_ (.of (.d .rf))
   rotate_left
   refine zk <| zs <| zj rfl rfl rfl <| zh rfl rfl (fun h2 => .fa' 0 rfl rfl) <| zh rfl rfl (fun h2 => by rw [h2]; exact .L rfl rfl) <| zh rfl rfl (fun h2 => by rw [h2]; exact .int rfl rfl rfl) <| zy (.pickO rfl rfl rfl) <| zd <| zq <| zi rfl (fun h2 => ?_) (fun h2 => ?_)
   refine zs <| zc rfl <| zd <| zr <| yR (.t rfl .nil) ?_ (.of (.d .rf))
   rotate_left
   refine zk <| zs <| zc rfl <| zd <| zr <| yR (.t rfl .nil) ?_ (.of (.d .rf))
   rotate_left
  all_goals (simp only [mkRet]; (repeat (first | rw [if_pos (by (first | assumption | omega | grind))] | rw [if_neg (by (first | assumption | omega | grind))])))
  all_goals try rw [vRE, if_neg (by assumption)]
theorem vUpTo_ok (v : Vec) (n : Int) (F : List Assn) (hv : vecOk v) (h0 : 0 ≤ n) (h1 : n ≤ v.len) : Meets Try.prog 100 [vv v, i64 n] F (Det (i64 0) F) := by
  have := vUpTo_fn v n F
  rw [if_pos hv, if_pos ⟨h0, h1⟩] at this; exact this
theorem vPrefix_fn (v : Vec) (n : Int) (F : List Assn) (hv : vecOk v) (h0 : 0 ≤ n) (h1 : n ≤ v.len) : Meets Try.prog 82 [vv v, i64 n] F (Det (.tuple #[vv (vpre v n), i64 0]) F) := by
  refine Meets.intro b82 k82 (by simp) ?_
  have := hv.2.1
  focus
   refine zs <| yB rfl fun b2 => yN fun b4 => zc rfl <| zw rfl rfl <| yD rfl rfl (.of .rf) (vUpTo_ok _ _ _ (by assumption) (by assumption) (by assumption)) <| zy (.cneF rfl rfl (by decide)) <| zd <| zq <| zu rfl <| zk <| zs ?_
   refine zw rfl rfl <| yD rfl rfl (.of .rf) (vprefix_fn _ _ _ (by assumption) (by assumption) (by assumption)) <| yW rfl rfl rfl rfl rfl <| zc rfl <| zd <| zr <| yR (.w rfl rfl (.t rfl .nil)) rfl (.of (.d (.d .rf)))
theorem vbit_fn (v : Vec) (i : Int) (F : List Assn) (hv : vecG v) (h0 : 0 ≤ i) (h1 : i < v.len) : Meets Try.prog 96 [vv v, i64 i] F (Det (i64 (((vbits v).getD i.toNat 0 : Nat) : Int)) F) := by
  refine Meets.intro b96 k96 (by simp) ?_
  have := hv.1.2.1
  have hs : v.bits.fdiv (2 ^ (min (v.len - 1 - i).toNat IntKind.u64.bits)) = ((v.b / 2 ^ (v.n - 1 - i.toNat) : Nat) : Int) := by
    have e1 := hv.len.1
    have : min (v.len - 1 - i).toNat IntKind.u64.bits = v.n - 1 - i.toNat := by simp [IntKind.bits]; omega
    rw [this, hv.bits, fdiv_nat]
  focus
   refine zs <| yB rfl fun b2 => zc rfl <| zfl rfl rfl rfl <| zfl rfl rfl rfl <| zy (.sub rfl rfl (Wr.i64 (by omega) (by omega))) <| zy (.sub rfl rfl (Wr.i64 (by omega) (by omega))) <| zy (.cv rfl (Wr.u64 (by omega) (by omega))) <| zy (.shr rfl rfl (by omega) (by assumption)) ?_
   refine zj rfl rfl rfl <| zy (.cv rfl (Wr.self _ _)) <| zd <| zr <| yR (.t rfl .nil) ?_ (.of (.d .rf))
  simp only [mkRet]
  have e1 := hv.len.1
  unfold vbits
  rw [show IntKind.u64.bits = 64 from rfl, and_one, getD_of (bits_get v.n v.b i.toNat (by omega))]
  have hm : v.b / 2 ^ (v.n - 1 - i.toNat) % 2 < 2 := Nat.mod_lt _ (by decide)
  generalize v.b / 2 ^ (v.n - 1 - i.toNat) % 2 = m at hm ⊢
  rw [show IntKind.u64.wrap (m : Int) = m from Wr.u64 (by omega) (by omega), show IntKind.i64.wrap (m : Int) = m from Wr.i64 (by omega) (by omega)]
theorem len8_cut {x n y k : Nat} (I : blen x = n + blen y) (h : 2 ^ k ≤ y) : blen x = (n + k) + blen (y / 2 ^ k) := by have := blen_shift h; omega
theorem bLen64_fn (x : Nat) (F : List Assn) (h : x < 2 ^ 64) : Meets Try.prog 92 [u64 (x : Int)] F (Det (i64 ((blen x : Nat) : Int)) F) := by
  refine Meets.intro b92 k92 (by simp) ?_
  have hs1 : ((x : Int)).fdiv (2 ^ (min (Int.toNat 32) IntKind.u64.bits)) = ((x / 2 ^ 32 : Nat) : Int) := fdiv_nat x 32
  refine zs <| zc rfl <| zj rfl rfl rfl <| zd ?_
  refine J.cutD (ι := Nat × Nat) (fun i => blen x = i.2 + blen i.1 ∧ i.1 < 2 ^ 32 ∧ i.2 ≤ 32) (fun i => [(0, u64 (i.1 : Int)), (2, i64 (i.2 : Int))]) (fun _ => F) ?_ (fun i hi => ?_)
  · focus
     refine zi rfl (fun h1 => ?_) (fun h1 => ?_)
     refine zo <| zy (.shr rfl rfl (by omega) (by assumption)) ?_
     refine zc rfl <| zd <| ⟨⟨_, _⟩, ?_, (subxR rfl), (.of .rf)⟩
     rotate_left
     refine zk <| ⟨⟨_, _⟩, ?_, (subxR rfl), (.of .rf)⟩
     rotate_left
    · exact ⟨by have := blen_shift (x := x) (k := 32) (by omega); simp only; omega, by simp only; omega, by simp⟩
    · exact ⟨by simp, by simp only; omega, by simp⟩
  obtain ⟨y, n⟩ := i
  obtain ⟨I, hy, hn⟩ := hi
  simp only at I hy hn ⊢
  have hs2 : ((y : Int)).fdiv (2 ^ (min (Int.toNat 16) IntKind.u64.bits)) = ((y / 2 ^ 16 : Nat) : Int) := fdiv_nat y 16
  refine zs <| zj rfl rfl rfl <| zd ?_
  refine J.cutD (ι := Nat × Nat) (fun i => blen x = i.2 + blen i.1 ∧ i.1 < 2 ^ 16 ∧ i.2 ≤ 48) (fun i => [(0, u64 (i.1 : Int)), (2, i64 (i.2 : Int))]) (fun _ => F) ?_ (fun i hi => ?_)
  · focus
     refine zi rfl (fun h1 => ?_) (fun h1 => ?_)
     refine zo <| zy (.shr rfl rfl (by omega) (by assumption)) ?_
     refine zy (.add rfl rfl (Wr.i64 (by omega) (by omega))) <| zd <| ⟨⟨_, _⟩, ?_, (subxR rfl), (.of .rf)⟩
     rotate_left
     refine zk <| ⟨⟨_, _⟩, ?_, (subxR rfl), (.of .rf)⟩
     rotate_left
    · exact ⟨by simp only; exact len8_cut I (by omega), by simp only; omega, by simp only; omega⟩
    · exact ⟨I, by simp only; omega, by simp only; omega⟩
  refine J.keep [(0, u64 (i.1 : Int)), (2, i64 (i.2 : Int))] (by exact subxR rfl) ?_
  clear I hy hn hs1 hs2 y n
  obtain ⟨y, n⟩ := i
  obtain ⟨I, hy, hn⟩ := hi
  simp only at I hy hn ⊢
  have hs2 : ((y : Int)).fdiv (2 ^ (min (Int.toNat 8) IntKind.u64.bits)) = ((y / 2 ^ 8 : Nat) : Int) := fdiv_nat y 8
  refine zs <| zj rfl rfl rfl <| zd ?_
  refine J.cutD (ι := Nat × Nat) (fun i => blen x = i.2 + blen i.1 ∧ i.1 < 2 ^ 8 ∧ i.2 ≤ 56) (fun i => [(0, u64 (i.1 : Int)), (2, i64 (i.2 : Int))]) (fun _ => F) ?_ (fun i hi => ?_)
  · focus
     refine zi rfl (fun h1 => ?_) (fun h1 => ?_)
     refine zo <| zy (.shr rfl rfl (by omega) (by assumption)) ?_
     refine zy (.add rfl rfl (Wr.i64 (by omega) (by omega))) <| zd <| ⟨⟨_, _⟩, ?_, (subxR rfl), (.of .rf)⟩
     rotate_left
     refine zk <| ⟨⟨_, _⟩, ?_, (subxR rfl), (.of .rf)⟩
     rotate_left
    · exact ⟨by simp only; exact len8_cut I (by omega), by simp only; omega, by simp only; omega⟩
    · exact ⟨I, by simp only; omega, by simp only; omega⟩
  refine J.keep [(0, u64 (i.1 : Int)), (2, i64 (i.2 : Int))] (by exact subxR rfl) ?_
  clear I hy hn hs2 y n
  obtain ⟨y, n⟩ := i
  obtain ⟨I, hy, hn⟩ := hi
  simp only at I hy hn ⊢
  have hb8 := blen_small hy
  refine zs <| zy (.cv rfl (Wr.u8 (by omega) (by omega))) ?_
  refine zy (.idx (s := len8) (n := y) rfl rfl (len8_get hy)) ?_
  have hv : (UInt8.ofNat (blen y)).toNat = blen y := by simp; omega
  rw [hv]
  focus
   refine zy (.cv rfl (Wr.i64 (by omega) (by omega))) <| zy (.addN rfl rfl (by omega)) <| zd <| zr <| yR (.t rfl .nil) ?_ (.of .rf)
  simp only [mkRet]; rw [I]
theorem vCommon_fn (v w : Vec) (F : List Assn) (hv : vecG v) (hw : vecG w) : Meets Try.prog 94 [vv v, vv w] F (Det (i64 ((commonL (vbits v) (vbits w) : Nat) : Int)) F) := by
  refine Meets.intro b94 k94 (by simp) ?_
  have e1 := hv.len; have e2 := hw.len
  have hN : (if w.len < v.len then w.len else v.len) = ((min v.n w.n : Nat) : Int) := by split <;> omega
  have h0 : 0 ≤ (if w.len < v.len then w.len else v.len) := by omega
  have h1 : (if w.len < v.len then w.len else v.len) ≤ v.len := by omega
  have h2 : (if w.len < v.len then w.len else v.len) ≤ w.len := by omega
  obtain ⟨hc, l1, l2⟩ := vcommon_xor hv hw (m := min v.n w.n) rfl
  have g1 := vpre_G hv (n := min v.n w.n) (by omega)
  have g2 := vpre_G hw (n := min v.n w.n) (by omega)
  have p64 : 2 ^ min v.n w.n ≤ 2 ^ 64 := Nat.pow_le_pow_right (by decide) (by omega)
  have hxl := Nat.xor_lt_two_pow l1 l2
  have hx : IntKind.u64.wrap ((BitVec.ofInt IntKind.u64.bits (vpre v (if w.len < v.len then w.len else v.len)).bits ^^^ BitVec.ofInt IntKind.u64.bits (vpre w (if w.len < v.len then w.len else v.len)).bits).toNat : Int) = (((vpre v (min v.n w.n : Nat)).b ^^^ (vpre w (min v.n w.n : Nat)).b : Nat) : Int) := by
    rw [hN, g1.bits, g2.bits, show IntKind.u64.bits = 64 from rfl, xor_nat _ _ (by omega) (by omega)]
    exact Wr.u64 (by omega) (by omega)
  have hbl := blen_le_of hxl
  focus
   refine zs <| yB rfl fun b2 => yB rfl fun b3 => zc rfl <| zfl rfl rfl rfl <| zfl rfl rfl rfl <| zy (.mn rfl rfl) <| zw rfl rfl <| zw rfl rfl <| yD rfl rfl (.of .rf) (vprefix_fn _ _ _ (by assumption) (by assumption) (by omega)) <| JT.yA rfl (Ev.Lw rfl rfl) <| zc rfl ?_
   refine yD rfl rfl (.of .rf) (vprefix_fn _ _ _ (by assumption) (by assumption) (by omega)) <| zc rfl <| zj rfl rfl rfl ?_
  rw [hx]
  have hxx : (vpre v (min v.n w.n : Nat)).b ^^^ (vpre w (min v.n w.n : Nat)).b < 2 ^ 64 := by omega
  focus
   refine yD rfl rfl (.of .rf) (bLen64_fn _ _ (by assumption)) <| zy (.sub rfl rfl (Wr.i64 (by omega) (by omega))) <| zd <| zr <| yR (.t rfl .nil) ?_ (.of (.d (.d .rf)))
  simp only [mkRet]; rw [hc, hN]; congr 1; omega
theorem vCompare_fn (v w : Vec) (F : List Assn) (hv : vecG v) (hw : vecG w) : Meets Try.prog 70 [vv v, vv w] F (Det (.tuple #[i64 (vcmp v w), i64 0]) F) := by
  refine Meets.intro b70 k70 (by simp) ?_
  have e1 := hv.len; have e2 := hw.len
  have hv1 := hv.1; have hw1 := hw.1
  have hN : (if w.len < v.len then w.len else v.len) = ((min v.n w.n : Nat) : Int) := by split <;> omega
  have q1 := vbits_len v; have q2 := vbits_len w
  focus
   refine zs <| yB rfl fun b2 => yB rfl fun b3 => zc rfl <| zc rfl <| zw rfl rfl <| zw rfl rfl <| yD rfl rfl (.of .rf) (vBoth_fn _ _ _) <| zj rfl rfl rfl <| zd <| zq <| zi rfl (fun h1 => ?_) (fun h1 => ?_)
   refine zs <| zc rfl <| zc rfl <| zd <| zr <| yR (.t rfl (.t rfl .nil)) ?_ (.of (.d (.d .rf)))
   rotate_left
   refine zk <| zs <| zw rfl rfl <| zw rfl rfl <| yD rfl rfl (.of .rf) (vCommon_fn _ _ _ (by assumption) (by assumption)) <| zfl rfl rfl rfl <| zfl rfl rfl rfl <| zy (.mn rfl rfl) <| zj rfl rfl rfl <| zd <| zq <| zi rfl (fun h2 => ?_) (fun h2 => ?_)
   refine zs <| zw rfl rfl <| zw rfl rfl <| yD rfl rfl (.of .rf) (vbit_fn _ _ _ (by assumption) (by omega) (by omega)) <| JT.yA rfl (Ev.Lw rfl rfl) <| yD rfl rfl (.of .rf) (vbit_fn _ _ _ (by assumption) (by omega) (by omega)) <| yD rfl rfl (.of .rf) (cmpInt_fn _ _ _) <| zc rfl <| zd <| zr <| yR (.t rfl (.t rfl .nil)) ?_ (.of (.d (.d .rf)))
   rotate_left
   refine zk <| zs <| zfl rfl rfl rfl <| zfl rfl rfl rfl <| yD rfl rfl (.of .rf) (cmpInt_fn _ _ _) <| zc rfl <| zd <| zr <| yR (.t rfl (.t rfl .nil)) ?_ (.of (.d (.d .rf)))
   rotate_left
  · rw [if_pos hv1, vRE, if_pos hw1] at h1; exact absurd rfl h1
  · simp only [mkRet, Int.toNat_natCast]; unfold vcmp
    rw [lexCmp_in (by omega) (by omega)]
  · simp only [mkRet]; unfold vcmp
    rw [lexCmp_end (by omega), q1, q2, e1.1, e2.1]
theorem vCompare_no (v w : Vec) (F : List Assn) (hv : ¬ (vecOk v ∧ vecOk w)) : Meets Try.prog 70 [vv v, vv w] F (Det (.tuple #[i64 0, i64 10]) F) := by
  have hb : (if vecOk v then vRE w else vRE v) = 10 := by
    unfold vRE; split
    · rw [if_neg (fun h => hv ⟨by assumption, h⟩)]
    · rfl
  have hB : ∀ F, Meets Try.prog 93 [vv v, vv w] F (Det (i64 10) F) := fun F => by rw [← hb]; exact vBoth_fn v w F
  refine Meets.intro b70 k70 (by simp) ?_
  focus
   refine zs <| yB rfl fun b2 => yB rfl fun b3 => zc rfl <| zc rfl <| zw rfl rfl <| zw rfl rfl <| yD rfl rfl (.of .rf) (hB _) <| zy (.cneT rfl rfl (by decide)) <| zd <| zq <| zt rfl ?_
   refine zs <| zc rfl <| zc rfl <| zd <| zr <| yR (.t rfl (.t rfl .nil)) rfl (.of (.d (.d .rf)))
end Go.Proofs.Ytgcmglieciaifaa

set_option linter.unusedSimpArgs false
set_option linter.unusedVariables false
set_option maxRecDepth 100000
set_option maxHeartbeats 2000000
namespace Go.SL
open Go
section
variable {P : Program} {ρ : Env} {cs r : List Assn} {t : Tr} {K : Env → List Assn → Prop}
theorem zeroCells_one (z : Value) (n : Nat) : Builtin.zeroCells #[z] n = (List.replicate n z).toArray := by
  unfold Builtin.zeroCells
  apply Array.ext_getElem?
  intro i
  simp only [List.size_toArray, List.length_cons, List.length_nil, Nat.zero_add, Nat.mul_one, Nat.mod_one, Array.getElem?_map, List.getElem?_toArray]
  by_cases h : i < n
  · rw [Array.getElem?_range, if_pos h, List.getElem?_replicate, if_pos h]; rfl
  · rw [Array.getElem?_range, if_neg h, List.getElem?_replicate, if_neg h]; rfl
/-- A row of zeros. -/
theorem JT.mks1 {α : Type} {enc : α → List Value} {d T bytes n : Nat} {zv : Value} {l c : Operand} (z : α) (hx : ρ.ev l = some (.int .i64 (n : Int))) (hy : ρ.ev c = some (.int .i64 (n : Int))) (hz : enc z = [zv]) (ho : isOne zv = true) (hb : n * bytes ≤ 2 ^ 47) (hn : n ≤ 140737488355328)
    (h : ∀ a, JT P t ((d, .slice a (List.replicate n z).length n) :: ρ) (SlT true enc 1 (.slice a (List.replicate n z).length n) n (List.replicate n z) :: cs) K) : JT P (.st ⟨some d, .mks T 1 bytes #[zv] l c, none⟩ t) ρ cs K := ⟨by
  intro w hs
  simp only [runT, semG, Kd.sem]
  refine ⟨n, n, hx, hy, Nat.le_refl _, hb, hn, ?_⟩
  rw [zeroCells_one]
  have := (JT.form (xs := List.replicate n z) (enc := enc) (sz := 1) h (.slice (some ⟨w.size, 0, none⟩) n n)).run
  refine this _ ?_
  refine SlT.mk (l := List.replicate n zv) (hs.push _) ?_ (by simp) (by decide) hn ?_
  · rw [List.map_replicate, hz]
    clear this h hn hb hx hy
    induction n with
    | zero => rfl
    | succ n ih => rw [List.replicate_succ, List.replicate_succ, List.flatten_cons, ← ih]; rfl
  · intro x hx
    rw [List.eq_of_mem_replicate hx, hz]
    exact ⟨rfl, by simpa using ho⟩⟩
end
end Go.SL
namespace Go.Proofs.Ytgcmglieciaifaa
open Go Go.SL
attribute [local irreducible] pc rc SlT Me Mt It pt ro pur ex sep old Meets

theorem r1Power_fn (n : Nat) (F : List Assn) (h : n ≤ 63) : Meets Try.prog 44 [i64 (n : Int)] F (Det (u64 ((2 ^ n : Nat) : Int)) F) := by
  refine Meets.intro b44 k44 (by simp) ?_
  focus
   refine zs <| zc rfl <| zc rfl <| zd <| zq <| zb ?_
  refine J.lp (ι := Nat × Int) (fun i => i.1 ≤ n ∧ i.2 = ((2 ^ (n - i.1) : Nat) : Int)) (fun i => [(0, i64 (i.1 : Int)), (3, u64 i.2)]) (fun _ => F) (fun i => i.1) (n, 1) ⟨by simp, by simp⟩ (by exact subxR rfl) (Up.refl _) (fun i hi => ?_)
  obtain ⟨m, x⟩ := i
  obtain ⟨hm, hx⟩ := hi
  simp only at hm hx ⊢
  have hq : m ≠ 0 → x ≤ 4611686018427387904 := fun h0 => by
    have := Nat.pow_le_pow_right (n := 2) (by decide) (show n - m ≤ 62 by omega)
    rw [hx]; omega
  have hq0 : 0 ≤ x := by rw [hx]; exact Int.natCast_nonneg _
  by_cases h0 : m = 0
  · focus
     refine zs <| zy (.cgtF rfl rfl (by omega)) <| zd <| zq <| zu rfl <| zx <| zs <| zc rfl <| zd <| zr <| yR (.t rfl .nil) ?_ (.of .rf)
    simp only [mkRet]; rw [hx, h0]; rfl
  · have := hq h0
    focus
     refine zs <| zy (.cgtT rfl rfl (by omega)) <| zd <| zq <| zt rfl <| zk <| zq <| zb <| zo <| zy (.mul rfl rfl (Wr.u64 (by omega) (by omega))) <| zd <| zo ?_
     refine zy (.subN rfl rfl (by omega) (by omega)) <| zd <| ⟨⟨_, _⟩, ?_, (by omega), (subxR rfl), (.of .rf)⟩
    refine ⟨by simp only; omega, ?_⟩
    simp only
    rw [hx, show n - (m - 1) = (n - m) + 1 by omega, Nat.pow_succ]; omega
theorem r1Right_fn (v : Vec) (F : List Assn) : Meets Try.prog 16 [vv v] F (Det (.bool (decide (vecOk v))) F) := by
  refine Meets.intro b16 k16 (by simp) ?_
  by_cases h0 : 0 ≤ v.len ∧ v.len ≤ 32
  · obtain ⟨n, hn⟩ : ∃ n : Nat, v.len = n := ⟨v.len.toNat, by omega⟩
    have hP := fun F => r1Power_fn n F (by omega)
    rw [← hn] at hP
    focus
     refine zs <| yB rfl fun b1 => zc rfl <| zfl rfl rfl rfl <| zy (.cgeT rfl rfl (by omega)) <| yG rfl <| zf 0 rfl rfl <| yG rfl <| zl rfl rfl <| yG rfl <| zy (.cleT rfl rfl (by omega)) <| zy (.pickT rfl rfl) ?_
     refine yG rfl <| zf 1 rfl rfl <| yG rfl <| zl rfl rfl <| yG rfl <| zf 0 rfl rfl <| yG rfl <| zl rfl rfl <| yG rfl <| yD rfl rfl (.of .rf) (hP _) <| JT.yB rfl rfl (Ev.L rfl rfl) <| yG rfl ?_
     refine zj rfl rfl rfl <| zy (.pickT rfl rfl) <| zd <| zr <| yR (.t rfl .nil) ?_ (.of (.d .rf))
    simp only [mkRet]; congr 1; rw [Bool.eq_iff_iff]; simp only [decide_eq_true_eq]
    unfold vecOk
    rw [hn, Int.toNat_natCast, show (2 : Int) ^ n = ((2 ^ n : Nat) : Int) by simp]
    omega
  · focus
     refine zs <| yB rfl fun b1 => zc rfl <| zfl rfl rfl rfl <| zj rfl rfl rfl <| zp rfl (fun h1 => ?_) (fun h1 => ?_)
     refine zf 0 rfl rfl <| yT rfl (by assumption) <| zl rfl rfl <| yT rfl (by assumption) <| zy (.cleF rfl rfl (by omega)) <| zy (.pickTp rfl (by assumption) rfl) <| zv rfl rfl <| zv rfl rfl <| zv rfl rfl <| zv rfl rfl <| zv rfl rfl <| JT.agF rfl rfl rfl ?_
     refine zv rfl rfl <| zy (.pickF rfl rfl) <| zd <| zr <| yR (.t rfl .nil) ?_ (.of (.d .rf))
     rotate_left
     refine yTs rfl (by assumption) <| yTs rfl (by assumption) <| zy (.pickFp rfl (by assumption) rfl) <| zv rfl rfl <| zv rfl rfl <| zv rfl rfl <| zv rfl rfl <| zv rfl rfl <| JT.agF rfl rfl rfl <| zv rfl rfl <| zy (.pickF rfl rfl) <| zd ?_
     refine zr <| yR (.t rfl .nil) ?_ (.of (.d .rf))
     rotate_left
    all_goals (simp only [mkRet]; rw [decide_eq_false (fun h => h0 ⟨h.1, h.2.1⟩)])

theorem r1Bits_fn (v : Vec) (F : List Assn) (hv : vecG v) : Meets Try.prog 45 [vv v] F
    (Some' (fun _ : Option Addr × Nat => True) (fun x => .slice x.1 ((vbits v).map fun b => ((b : Nat) : Int)).length x.2) (fun x => SlT true intE 1 (.slice x.1 ((vbits v).map fun b => ((b : Nat) : Int)).length x.2) x.2 ((vbits v).map fun b => ((b : Nat) : Int)) :: F)) := by
  refine Meets.intro b45 k45 (by simp) ?_
  have e1 := hv.len
  have e2 := hv.bits
  have e3 := hv.lt
  have hq64 : 2 ^ v.n ≤ 2 ^ 32 := Nat.pow_le_pow_right (by decide) e1.2
  focus
   refine zs <| yB rfl fun b1 => zc rfl <| zfl rfl rfl rfl ?_
  rw [e1.1]
  refine JT.mks1 (enc := intE) (n := v.n) (0 : Int) rfl rfl rfl rfl (by omega) (by omega) (fun a => ?_)
  rw [List.length_replicate]
  focus
   refine zfl rfl rfl rfl <| zfl rfl rfl rfl <| zy (.sub rfl rfl (Wr.i64 (by omega) (by omega))) <| zd <| zq <| zb ?_
  refine J.lp (ι := Nat × Int × Int × List Int) (fun i => i.1 ≤ v.n ∧ i.2.1 = (i.1 : Int) - 1 ∧ i.2.2.1 = ((v.b / 2 ^ (v.n - i.1) : Nat) : Int) ∧ i.2.2.2.length = v.n ∧ ∀ j, i.1 ≤ j → j < v.n → nth i.2.2.2 j = (((vbits v).getD j 0 : Nat) : Int)) (fun i => [(5, i64 i.2.1), (4, u64 i.2.2.1), (3, .slice a v.n v.n)])
    (fun i => SlT true intE 1 (.slice a v.n v.n) v.n i.2.2.2 :: F) (fun i => i.1) (v.n, v.len - 1, v.bits, List.replicate v.n 0) ⟨by simp, by simp only; omega, by simp only; rw [Nat.sub_self, Nat.pow_zero, Nat.div_one, e2], by simp, fun j h1 h2 => by simp only at h1; omega⟩ (by exact subxR rfl) (.of (.t0 (.d .rf))) (fun i hi => ?_)
  obtain ⟨m, z, x, xs⟩ := i
  obtain ⟨hm, hz, hx, hl, hj⟩ := hi
  simp only at hm hz hx hl hj ⊢
  have hx0 : 0 ≤ x := by rw [hx]; exact Int.natCast_nonneg _
  have hxs : xs = (vbits v).map (fun b => ((b : Nat) : Int)) ∨ 0 ≤ z := by
    by_cases h0 : 0 ≤ z
    · exact .inr h0
    · refine .inl (List.ext_getElem? fun j => ?_)
      rw [List.getElem?_map]
      rcases Nat.lt_or_ge j v.n with h | h
      · have h2 := hj j (by omega) h
        rw [nth_eq (by omega)] at h2
        rw [List.getElem?_eq_getElem (by omega), h2, List.getElem?_eq_getElem (by rw [vbits_len]; exact h)]
        simp [List.getD, vbits_len, h]
      · rw [List.getElem?_eq_none (by omega), List.getElem?_eq_none (by rw [vbits_len]; exact h)]; rfl
  have hbd : x ≤ 4294967295 := by
    have := Nat.div_le_self v.b (2 ^ (v.n - m))
    rw [hx]; omega
  focus
   refine zs <| zj rfl rfl rfl <| zd <| zq <| zi rfl (fun h1 => ?_) (fun h1 => ?_)
   refine zk <| zq <| zb <| zo <| zj rfl rfl rfl <| zy (.cv rfl (Wr.self _ _)) <| zy (.iI rfl rfl (by omega) (by omega)) <| JT.sE0 rfl rfl rfl rfl rfl (by omega) (by decide) rfl <| zj rfl rfl rfl <| zd <| zo <| zy (.sub rfl rfl (Wr.i64 (by omega) (by omega))) ?_
   refine zd <| seqQ_n ?_
   rotate_left
   refine zx <| zs <| zc rfl <| zd <| zr ?_
   rotate_left
  · refine ⟨(m - 1, _, _, _), ?_, by simp only; omega, subxR rfl, Up.refl _⟩
    have hd : v.b / 2 ^ (v.n - (m - 1)) = v.b / 2 ^ (v.n - m) / 2 := by
      rw [show v.n - (m - 1) = (v.n - m) + 1 by omega, Nat.pow_succ, Nat.div_div_eq_div_mul]
    have hmod : (v.b / 2 ^ (v.n - m)) % 2 < 2 := Nat.mod_lt _ (by decide)
    refine ⟨by simp only; omega, by simp only; omega, ?_, by simp only [List.length_set]; exact hl, fun j h1 h2 => ?_⟩
    · simp only
      rw [hd, hx, Int.tdiv_eq_ediv_of_nonneg (Int.natCast_nonneg _)]
      generalize v.b / 2 ^ (v.n - m) = q at *
      rw [show ((q : Int) / 2) = ((q / 2 : Nat) : Int) by simp]
      exact Wr.u64 (by omega) (by omega)
    · simp only at h1 ⊢
      have hzm : z.toNat = m - 1 := by omega
      rw [hzm]
      by_cases hjm : j = m - 1
      · subst hjm
        rw [nth, List.getD_eq_getElem?_getD, List.getElem?_set_self (by omega), Option.getD_some, hx, Int.tmod_eq_emod_of_nonneg (Int.natCast_nonneg _)]
        rw [show (((v.b / 2 ^ (v.n - m) : Nat) : Int) % 2) = ((v.b / 2 ^ (v.n - m) % 2 : Nat) : Int) by simp]
        unfold vbits
        rw [getD_of (bits_get v.n v.b (m - 1) (by omega)), show v.n - 1 - (m - 1) = v.n - m by omega]
        exact Wr.i64 (by omega) (by omega)
      · have := hj j (by omega) h2
        rw [nth, List.getD_eq_getElem?_getD, List.getElem?_set_ne (fun e => hjm e.symm)]
        rw [nth, List.getD_eq_getElem?_getD] at this
        exact this
  · have hxs := hxs.resolve_right h1
    have hn : v.n = ((vbits v).map fun b => ((b : Nat) : Int)).length := by rw [← hxs]; exact hl.symm
    rw [hxs]
    refine retQS (a, v.n) (.t rfl .nil) trivial ?_ ?_
    · simp only [mkRet]; rw [← hn]
    · rw [← hn]; exact Up.refl _
abbrev nI (l : List Nat) : List Int := l.map fun b => ((b : Nat) : Int)
theorem nI_nth {l : List Nat} {k : Nat} (h : k < l.length) : nth (nI l) k = ((l.getD k 0 : Nat) : Int) := by
  rw [nth_eq (by simpa using h)]; simp [nI, List.getD, h]
theorem ofBits_lt : ∀ (n : Nat) (l : List Nat), l.length = n → (∀ x ∈ l, x ≤ 1) → ofBits l < 2 ^ n
  | 0, l, h, _ => by have : l = [] := List.length_eq_zero_iff.1 h
                     subst this; decide
  | n + 1, l, h, hx => by
    have hne : l ≠ [] := fun e => by subst e; simp at h
    have e := List.dropLast_concat_getLast hne
    have h1 := ofBits_lt n l.dropLast (by simp [h]) fun y hy => hx y (List.dropLast_subset l hy)
    have h2 := hx _ (List.getLast_mem hne)
    rw [← e, ofBits_snoc, Nat.pow_succ]; omega
theorem take_snoc_getD {l : List Nat} {k : Nat} (h : k < l.length) : l.take (k + 1) = l.take k ++ [l.getD k 0] := by
  rw [List.take_add_one, List.getElem?_eq_getElem h]; simp [List.getD, h]
theorem r1Of_fn {a : Option Addr} {c : Nat} {xs : List Nat} {F : List Assn} [Hs : HS F (.slice a (nI xs).length c) Int intE 1 c (nI xs)] (hb : ∀ x ∈ xs, x ≤ 1) (hl : xs.length ≤ 32) :
    Meets Try.prog 46 [.slice a (nI xs).length c] F (Det (vv ⟨xs.length, (ofBits xs : Nat)⟩) F) := by
  refine Meets.intro b46 k46 (by simp) ?_
  have hlen : (nI xs).length = xs.length := by simp
  focus
   refine zs <| yN fun b2 => zc rfl <| zg rfl <| yN fun b3 => yW rfl rfl rfl rfl rfl <| zc rfl <| zd <| zq <| zb ?_
  refine J.lp (ι := Nat × Int) (fun i => i.1 ≤ xs.length ∧ i.2 = ((ofBits (xs.take i.1) : Nat) : Int)) (fun i => [(4, i64 (i.1 : Int))]) (fun i => pc b3 30 [i64 (nI xs).length, u64 i.2] :: pc b2 30 [.int .i64 0, .int .u64 0] :: F) (fun i => xs.length - i.1) (0, 0) ⟨by simp, by simp [ofBits]⟩ (by exact subxR rfl) (.of (.t0 (.t0 .rf))) (fun i hi => ?_)
  obtain ⟨k, x⟩ := i
  obtain ⟨hk, hx⟩ := hi
  simp only at hk hx ⊢
  have hxl : x ≤ 4294967296 ∧ 0 ≤ x := by
    have h1 := ofBits_lt k (xs.take k) (by simp; omega) fun y hy => hb y (List.mem_of_mem_take hy)
    have h2 := Nat.pow_le_pow_right (n := 2) (by decide) (show k ≤ 32 by omega)
    rw [hx]; omega
  by_cases hlt : k < xs.length
  · have hn := nI_nth hlt
    have hb1 := hb (xs.getD k 0) (by rw [show xs.getD k 0 = xs[k] by simp [List.getD, hlt]]; exact List.getElem_mem hlt)
    have hlt' : k < (nI xs).length := by simpa using hlt
    have hsnoc := take_snoc_getD hlt
    have hn0 : 0 ≤ nth (nI xs) k ∧ nth (nI xs) k ≤ 1 := by rw [hn]; omega
    focus
     refine zs <| zc rfl <| zy (.cltT rfl rfl (by omega)) <| zd <| zq <| zt rfl <| zk <| zq <| zb <| zo <| zfl rfl rfl rfl <| zy (.mul rfl rfl (Wr.u64 (by omega) (by omega))) ?_
     refine zy (.iC rfl rfl (by omega)) <| zy (.LE0 rfl (by omega) rfl) <| zy (.cv rfl (Wr.u64 (by omega) (by omega))) <| zy (.add rfl rfl (Wr.u64 (by omega) (by omega))) <| zf 1 rfl rfl <| yS (us := [_]) rfl rfl rfl rfl rfl (Nat.le_of_ble_eq_true rfl) (by simp only [lput]; rfl) <| zd <| zo <| zy (.addN rfl rfl (by omega)) <| zd <| ⟨⟨_, _⟩, ?_, (by omega), (subxR rfl), (.of (.t0 (.t0 .rf)))⟩
    refine ⟨by simp only; omega, ?_⟩
    simp only
    rw [hsnoc, ofBits_snoc, hx, hn]; omega
  · have hlt' : ¬ k < (nI xs).length := by simpa using hlt
    focus
     refine zs <| zc rfl <| zy (.cltF rfl rfl (by omega)) <| zd <| zq <| zu rfl <| zx <| zs <| zw rfl rfl <| yW rfl rfl rfl rfl rfl <| zd <| zr ?_
     refine yR (.w rfl rfl .nil) ?_ (.of (.d (.d .rf)))
    have hk' : k = xs.length := by omega
    simp only [mkRet]; rw [hx, hk', List.take_length, hlen]; rfl

theorem r1common_fn {a a2 : Option Addr} {c c2 : Nat} {xs ys : List Nat} {F : List Assn} [H1 : HS F (.slice a (nI xs).length c) Int intE 1 c (nI xs)] [H2 : HS F (.slice a2 (nI ys).length c2) Int intE 1 c2 (nI ys)] (hl : xs.length ≤ 32) :
    Meets Try.prog 58 [.slice a (nI xs).length c, .slice a2 (nI ys).length c2] F (Det (i64 ((commonL xs ys : Nat) : Int)) F) := by
  refine Meets.intro b58 k58 (by simp) ?_
  have l1 : (nI xs).length = xs.length := by simp
  have l2 : (nI ys).length = ys.length := by simp
  focus
   refine zs <| zc rfl <| zc rfl <| zd <| zq <| zb ?_
  refine J.lp (ι := Nat) (fun k => k ≤ xs.length ∧ k ≤ ys.length ∧ ∀ i, i < k → xs[i]? = ys[i]?) (fun k => [(5, i64 (k : Int))]) (fun _ => F) (fun k => xs.length - k) 0 ⟨by omega, by omega, fun i h => by omega⟩ (by exact subxR rfl) (.of .rf) (fun k hk => ?_)
  obtain ⟨hk1, hk2, hk3⟩ := hk
  by_cases h1 : k < xs.length
  · by_cases h2 : k < ys.length
    · have m1 := nI_nth h1; have m2 := nI_nth h2
      have h1' : k < (nI xs).length := by simpa using h1
      have h2' : k < (nI ys).length := by simpa using h2
      have g1 : xs[k]? = some (xs.getD k 0) := by rw [List.getElem?_eq_getElem h1]; simp [List.getD, h1]
      have g2 : ys[k]? = some (ys.getD k 0) := by rw [List.getElem?_eq_getElem h2]; simp [List.getD, h2]
      by_cases he : xs.getD k 0 = ys.getD k 0
      · have he' : nth (nI xs) k = nth (nI ys) k := by rw [m1, m2, he]
        focus
         refine zs <| zc rfl <| zy (.cltT rfl rfl (by omega)) <| yG rfl <| zc rfl <| yG rfl <| zy (.cltT rfl rfl (by omega)) <| zy (.pickT rfl rfl) <| yG rfl <| zy (.iC rfl rfl (by omega)) <| yG rfl <| zy (.LE0 rfl (by omega) rfl) ?_
         refine yG rfl <| zy (.iC rfl rfl (by omega)) <| yG rfl <| zy (.LE0 rfl (by omega) rfl) <| yG rfl <| zy (.ceqT rfl rfl (by omega)) <| zy (.pickT rfl rfl) <| zd <| zq <| zt rfl <| zk <| zb ?_
         refine zo <| zy (.addN rfl rfl (by omega)) <| zd <| ⟨_, ?_, (by omega), (subxR rfl), (.of .rf)⟩
        refine ⟨by omega, by omega, fun i hi => ?_⟩
        rcases Nat.lt_succ_iff_lt_or_eq.1 hi with h | h
        · exact hk3 i h
        · subst h; rw [g1, g2, he]
      · have he' : ¬ nth (nI xs) k = nth (nI ys) k := by rw [m1, m2]; omega
        focus
         refine zs <| zc rfl <| zy (.cltT rfl rfl (by omega)) <| yG rfl <| zc rfl <| yG rfl <| zy (.cltT rfl rfl (by omega)) <| zy (.pickT rfl rfl) <| yG rfl <| zy (.iC rfl rfl (by omega)) <| yG rfl <| zy (.LE0 rfl (by omega) rfl) ?_
         refine yG rfl <| zy (.iC rfl rfl (by omega)) <| yG rfl <| zy (.LE0 rfl (by omega) rfl) <| yG rfl <| zy (.ceqF rfl rfl (by omega)) <| zy (.pickT rfl rfl) <| zd <| zq <| zu rfl <| zx <| zs ?_
         refine zc rfl <| zd <| zr <| yR (.t rfl .nil) ?_ (.of .rf)
        simp only [mkRet]
        rw [commonL_of hk1 hk2 hk3 (fun _ _ e => he (by rw [g1, g2] at e; exact Option.some.inj e))]
    · have h2' : ¬ k < (nI ys).length := by simpa using h2
      focus
       refine zs <| zc rfl <| zy (.cltT rfl rfl (by omega)) <| yG rfl <| zc rfl <| yG rfl <| zy (.cltF rfl rfl (by omega)) <| zy (.pickT rfl rfl) <| zv rfl rfl <| zv rfl rfl <| zv rfl rfl <| zv rfl rfl ?_
       refine zv rfl rfl <| zy (.pickF rfl rfl) <| zd <| zq <| zu rfl <| zx <| zs <| zc rfl <| zd <| zr <| yR (.t rfl .nil) ?_ (.of .rf)
      simp only [mkRet]
      rw [commonL_of hk1 hk2 hk3 (fun _ h => absurd h h2)]
  · have h1' : ¬ k < (nI xs).length := by simpa using h1
    focus
     refine zs <| zc rfl <| zy (.cltF rfl rfl (by omega)) <| zv rfl rfl <| zv rfl rfl <| zy (.pickF rfl rfl) <| zv rfl rfl <| zv rfl rfl <| zv rfl rfl <| zv rfl rfl <| zv rfl rfl <| zy (.pickF rfl rfl) ?_
     refine zd <| zq <| zu rfl <| zx <| zs <| zc rfl <| zd <| zr <| yR (.t rfl .nil) ?_ (.of .rf)
    simp only [mkRet]
    rw [commonL_of hk1 hk2 hk3 (fun h => absurd h h1)]

theorem r1Begins_fn (v w : Vec) (F : List Assn) (hv : 0 ≤ v.bits) (hw : 0 ≤ w.bits) : Meets Try.prog 28 [vv v, vv w] F (Det (.bool (decide (vbegins v w))) F) := by
  refine Meets.intro b28 k28 (by simp) ?_
  by_cases h1 : vecOk v
  · by_cases h2 : vecOk w
    · have g1 : vecG v := ⟨h1, hv⟩
      have g2 : vecG w := ⟨h2, hw⟩
      have q1 := vbits_len v
      have q2 := g1.len
      have q3 := g2.len
      have hl : (vbits v).length ≤ 32 := by omega
      focus
       refine zs <| yB rfl fun b2 => yB rfl fun b3 => zc rfl <| zw rfl rfl <| yD rfl rfl (.of .rf) (r1Right_fn _ _) <| yT rfl (by assumption) <| zw rfl rfl <| yT rfl (by assumption) <| yD rfl rfl (.of .rf) (r1Right_fn _ _) <| zy (.pickTp rfl (by assumption) rfl) <| yT rfl (by assumption) ?_
       refine zw rfl rfl <| yT rfl (by assumption) <| zw rfl rfl <| yT rfl (by assumption) <| zf 0 rfl rfl <| yT rfl (by assumption) <| zl rfl rfl <| yT rfl (by assumption) <| yE rfl rfl (.of .rf) (r1Bits_fn _ _ (by assumption)) fun ⟨a13, c13⟩ _ => JT.gaT rfl (by assumption) rfl (Ev.Lw rfl rfl) ?_
       refine JT.gaT rfl (by assumption) rfl (Ev.L rfl rfl) ?_
       refine yT rfl (by assumption) <| yE rfl rfl (.of .rf) (r1Bits_fn _ _ (by assumption)) fun ⟨a15, c15⟩ _ => JT.gaT rfl (by assumption) rfl (Ev.L rfl rfl) ?_
       refine yT rfl (by assumption) <| yD rfl rfl (.of .rf) (r1common_fn (by assumption)) <| JT.gaT rfl (by assumption) rfl (Ev.L rfl rfl) ?_
       refine yT rfl (by assumption) <| zj rfl rfl rfl <| zy (.pickTp rfl (by assumption) rfl) <| zd <| zr <| yR (.t rfl .nil) ?_ (.of (.d (.d (.d (.d .rf)))))
      simp only [mkRet]; congr 1; rw [Bool.eq_iff_iff]; simp only [decide_eq_true_eq]
      rw [vbegins_bits g1 g2]; omega
    · focus
       refine zs <| yB rfl fun b2 => yB rfl fun b3 => zc rfl <| zw rfl rfl <| yD rfl rfl (.of .rf) (r1Right_fn _ _) <| yT rfl (by assumption) <| zw rfl rfl <| yT rfl (by assumption) <| yD rfl rfl (.of .rf) (r1Right_fn _ _) <| zy (.pickTp rfl (by assumption) rfl) <| yTs rfl (by assumption) ?_
       refine yTs rfl (by assumption) <| yTs rfl (by assumption) <| yTs rfl (by assumption) <| yTs rfl (by assumption) <| JT.gaTs rfl (by assumption) rfl ?_
       refine JT.gaTs rfl (by assumption) rfl ?_
       refine yTs rfl (by assumption) <| JT.gaTs rfl (by assumption) rfl ?_
       refine yTs rfl (by assumption) <| JT.gaTs rfl (by assumption) rfl ?_
       refine yTs rfl (by assumption) <| zy (.pickFp rfl (by assumption) rfl) <| zd <| zr <| yR (.t rfl .nil) ?_ (.of (.d (.d .rf)))
      simp only [mkRet]; rw [decide_eq_false (fun h => h2 h.2.1)]
  · focus
     refine zs <| yB rfl fun b2 => yB rfl fun b3 => zc rfl <| zw rfl rfl <| yD rfl rfl (.of .rf) (r1Right_fn _ _) <| yTs rfl (by assumption) <| yTs rfl (by assumption) <| zy (.pickFp rfl (by assumption) rfl) <| zv rfl rfl <| zv rfl rfl <| zv rfl rfl ?_
     refine zv rfl rfl <| zv rfl rfl <| JT.agF rfl rfl rfl <| JT.agF rfl rfl rfl <| zv rfl rfl <| JT.agF rfl rfl rfl <| zv rfl rfl <| JT.agF rfl rfl rfl <| zv rfl rfl <| zy (.pickF rfl rfl) <| zd <| zr ?_
     refine yR (.t rfl .nil) ?_ (.of (.d (.d .rf)))
    simp only [mkRet]; rw [decide_eq_false (fun h => h1 h.1)]

theorem nI_len (xs : List Nat) : (nI xs).length = xs.length := by simp
theorem r1Compare_fn (v w : Vec) (F : List Assn) (hv : vecG v) (hw : vecG w) : Meets Try.prog 71 [vv v, vv w] F (Det (.tuple #[i64 (vcmp v w), i64 0]) F) := by
  refine Meets.intro b71 k71 (by simp) ?_
  have g1 := hv.1
  have g2 := hw.1
  have q1 := vbits_len v
  have q2 := hv.len
  have p1 := vbits_len w
  have p2 := hw.len
  have hl : (vbits v).length ≤ 32 := by omega
  have m1 : ((vbits v).map fun b => ((b : Nat) : Int)).length = (vbits v).length := by simp
  have m2 : ((vbits w).map fun b => ((b : Nat) : Int)).length = (vbits w).length := by simp
  have le := commonL_le (vbits v) (vbits w)
  by_cases e1 : commonL (vbits v) (vbits w) = (vbits v).length
  · have hc : vcmp v w = icmp ((vbits v).length : Int) ((vbits w).length : Int) := lexCmp_end (by omega)
    by_cases e2 : commonL (vbits v) (vbits w) = (vbits w).length
    · have hc : vcmp v w = 0 := by rw [hc]; unfold icmp; (repeat (first | rw [if_pos (by (first | assumption | omega | grind))] | rw [if_neg (by (first | assumption | omega | grind))]))
      focus
       refine zs <| yB rfl fun b2 => yB rfl fun b3 => zc rfl <| zc rfl <| zw rfl rfl <| yD rfl rfl (.of .rf) (r1Right_fn _ _) <| zc rfl <| yF rfl (by assumption) <| zw rfl rfl <| yF rfl (by assumption) <| yD rfl rfl (.of .rf) (r1Right_fn _ _) ?_
       refine yF rfl (by assumption) <| zc rfl <| zy (.pickFp rfl (by assumption) rfl) <| zd <| zq <| zi rfl (fun h1 => ?_) (fun h1 => ?_)
       contradiction
       refine zk <| zs <| zw rfl rfl <| zw rfl rfl <| yE rfl rfl (.of .rf) (r1Bits_fn _ _ (by assumption)) fun ⟨a18, c18⟩ _ => JT.yA rfl (Ev.Lw rfl rfl) <| yE rfl rfl (.of .rf) (r1Bits_fn _ _ (by assumption)) fun ⟨a20, c20⟩ _ => zc rfl <| zc rfl <| yD rfl rfl (.of .rf) (r1common_fn (by assumption)) <| zd <| zq ?_
       refine zb <| zs <| zc rfl <| zy (.ceqT rfl rfl (by omega)) <| yG rfl <| zc rfl <| yG rfl <| zy (.ceqT rfl rfl (by omega)) <| zy (.pickT rfl rfl) <| zd <| zt rfl <| zs ?_
       refine zc rfl <| zc rfl <| zd <| zr <| yR (.t rfl (.t rfl .nil)) ?_ (.of (.d (.d (.d (.d .rf)))))
      simp only [mkRet]; rw [hc]
    · have hc : vcmp v w = -1 := by rw [hc]; unfold icmp; (repeat (first | rw [if_pos (by (first | assumption | omega | grind))] | rw [if_neg (by (first | assumption | omega | grind))]))
      focus
       refine zs <| yB rfl fun b2 => yB rfl fun b3 => zc rfl <| zc rfl <| zw rfl rfl <| yD rfl rfl (.of .rf) (r1Right_fn _ _) <| zc rfl <| yF rfl (by assumption) <| zw rfl rfl <| yF rfl (by assumption) <| yD rfl rfl (.of .rf) (r1Right_fn _ _) ?_
       refine yF rfl (by assumption) <| zc rfl <| zy (.pickFp rfl (by assumption) rfl) <| zd <| zq <| zi rfl (fun h1 => ?_) (fun h1 => ?_)
       contradiction
       refine zk <| zs <| zw rfl rfl <| zw rfl rfl <| yE rfl rfl (.of .rf) (r1Bits_fn _ _ (by assumption)) fun ⟨a18, c18⟩ _ => JT.yA rfl (Ev.Lw rfl rfl) <| yE rfl rfl (.of .rf) (r1Bits_fn _ _ (by assumption)) fun ⟨a20, c20⟩ _ => zc rfl <| zc rfl <| yD rfl rfl (.of .rf) (r1common_fn (by assumption)) <| zd <| zq ?_
       refine zb <| zs <| zc rfl <| zy (.ceqT rfl rfl (by omega)) <| yG rfl <| zc rfl <| yG rfl <| zy (.ceqF rfl rfl (by omega)) <| zy (.pickT rfl rfl) <| zd <| zu rfl <| zs ?_
       refine zc rfl <| zy (.ceqT rfl rfl (by omega)) <| zd <| zt rfl <| zs <| zc rfl <| zc rfl <| zd <| zr <| yR (.t rfl (.t rfl .nil)) ?_ (.of (.d (.d (.d (.d .rf)))))
      simp only [mkRet]; rw [hc]
  · by_cases e2 : commonL (vbits v) (vbits w) = (vbits w).length
    · have hc : vcmp v w = icmp ((vbits v).length : Int) ((vbits w).length : Int) := lexCmp_end (by omega)
      have hc : vcmp v w = 1 := by rw [hc]; unfold icmp; (repeat (first | rw [if_pos (by (first | assumption | omega | grind))] | rw [if_neg (by (first | assumption | omega | grind))]))
      focus
       refine zs <| yB rfl fun b2 => yB rfl fun b3 => zc rfl <| zc rfl <| zw rfl rfl <| yD rfl rfl (.of .rf) (r1Right_fn _ _) <| zc rfl <| yF rfl (by assumption) <| zw rfl rfl <| yF rfl (by assumption) <| yD rfl rfl (.of .rf) (r1Right_fn _ _) ?_
       refine yF rfl (by assumption) <| zc rfl <| zy (.pickFp rfl (by assumption) rfl) <| zd <| zq <| zi rfl (fun h1 => ?_) (fun h1 => ?_)
       contradiction
       refine zk <| zs <| zw rfl rfl <| zw rfl rfl <| yE rfl rfl (.of .rf) (r1Bits_fn _ _ (by assumption)) fun ⟨a18, c18⟩ _ => JT.yA rfl (Ev.Lw rfl rfl) <| yE rfl rfl (.of .rf) (r1Bits_fn _ _ (by assumption)) fun ⟨a20, c20⟩ _ => zc rfl <| zc rfl <| yD rfl rfl (.of .rf) (r1common_fn (by assumption)) <| zd <| zq ?_
       refine zb <| zs <| zc rfl <| zy (.ceqF rfl rfl (by omega)) <| zv rfl rfl <| zv rfl rfl <| zy (.pickF rfl rfl) <| zd <| zu rfl <| zs <| zc rfl <| zy (.ceqF rfl rfl (by omega)) ?_
       refine zd <| zu rfl <| zs <| zc rfl <| zy (.ceqT rfl rfl (by omega)) <| zd <| zt rfl <| zs <| zc rfl <| zc rfl <| zd <| zr ?_
       refine yR (.t rfl (.t rfl .nil)) ?_ (.of (.d (.d (.d (.d .rf)))))
      simp only [mkRet]; rw [hc]
    · have h1 : commonL (vbits v) (vbits w) < (vbits v).length := by omega
      have h2 : commonL (vbits v) (vbits w) < (vbits w).length := by omega
      have h1' : commonL (vbits v) (vbits w) < ((vbits v).map fun b => ((b : Nat) : Int)).length := by omega
      have h2' : commonL (vbits v) (vbits w) < ((vbits w).map fun b => ((b : Nat) : Int)).length := by omega
      have hne : nth (nI (vbits v)) (commonL (vbits v) (vbits w)) ≠ nth (nI (vbits w)) (commonL (vbits v) (vbits w)) := by
        rw [nI_nth h1, nI_nth h2]
        intro h
        refine commonL_diff h1 h2 ?_
        rw [List.getElem?_eq_getElem h1, List.getElem?_eq_getElem h2]
        simp [List.getD, h1, h2] at h
        exact congrArg some (by omega)
      have hc : vcmp v w = icmp (nth (nI (vbits v)) (commonL (vbits v) (vbits w))) (nth (nI (vbits w)) (commonL (vbits v) (vbits w))) := by
        rw [nI_nth h1, nI_nth h2]; exact lexCmp_in h1 h2
      by_cases h3 : nth (nI (vbits v)) (commonL (vbits v) (vbits w)) < nth (nI (vbits w)) (commonL (vbits v) (vbits w))
      · have hc : vcmp v w = -1 := by rw [hc]; unfold icmp; (repeat (first | rw [if_pos (by (first | assumption | omega | grind))] | rw [if_neg (by (first | assumption | omega | grind))]))
        focus
         refine zs <| yB rfl fun b2 => yB rfl fun b3 => zc rfl <| zc rfl <| zw rfl rfl <| yD rfl rfl (.of .rf) (r1Right_fn _ _) <| zc rfl <| yF rfl (by assumption) <| zw rfl rfl <| yF rfl (by assumption) <| yD rfl rfl (.of .rf) (r1Right_fn _ _) ?_
         refine yF rfl (by assumption) <| zc rfl <| zy (.pickFp rfl (by assumption) rfl) <| zd <| zq <| zi rfl (fun h4 => ?_) (fun h4 => ?_)
         contradiction
         refine zk <| zs <| zw rfl rfl <| zw rfl rfl <| yE rfl rfl (.of .rf) (r1Bits_fn _ _ (by assumption)) fun ⟨a18, c18⟩ _ => JT.yA rfl (Ev.Lw rfl rfl) <| yE rfl rfl (.of .rf) (r1Bits_fn _ _ (by assumption)) fun ⟨a20, c20⟩ _ => zc rfl <| zc rfl <| yD rfl rfl (.of .rf) (r1common_fn (by assumption)) <| zd <| zq ?_
         refine zb <| zs <| zc rfl <| zy (.ceqF rfl rfl (by omega)) <| zv rfl rfl <| zv rfl rfl <| zy (.pickF rfl rfl) <| zd <| zu rfl <| zs <| zc rfl <| zy (.ceqF rfl rfl (by omega)) ?_
         refine zd <| zu rfl <| zs <| zc rfl <| zy (.ceqF rfl rfl (by omega)) <| zd <| zu rfl <| zs <| zy (.iC rfl rfl (by omega)) <| zy (.LE0 rfl (by omega) rfl) <| zy (.iC rfl rfl (by omega)) <| zy (.LE0 rfl (by omega) rfl) ?_
         refine zy (.cltT rfl rfl (by omega)) <| zd <| zt rfl <| zs <| zc rfl <| zc rfl <| zd <| zr <| yR (.t rfl (.t rfl .nil)) ?_ (.of (.d (.d (.d (.d .rf)))))
        simp only [mkRet]; rw [hc]
      · have hc : vcmp v w = 1 := by rw [hc]; unfold icmp; (repeat (first | rw [if_pos (by (first | assumption | omega | grind))] | rw [if_neg (by (first | assumption | omega | grind))]))
        focus
         refine zs <| yB rfl fun b2 => yB rfl fun b3 => zc rfl <| zc rfl <| zw rfl rfl <| yD rfl rfl (.of .rf) (r1Right_fn _ _) <| zc rfl <| yF rfl (by assumption) <| zw rfl rfl <| yF rfl (by assumption) <| yD rfl rfl (.of .rf) (r1Right_fn _ _) ?_
         refine yF rfl (by assumption) <| zc rfl <| zy (.pickFp rfl (by assumption) rfl) <| zd <| zq <| zi rfl (fun h4 => ?_) (fun h4 => ?_)
         contradiction
         refine zk <| zs <| zw rfl rfl <| zw rfl rfl <| yE rfl rfl (.of .rf) (r1Bits_fn _ _ (by assumption)) fun ⟨a18, c18⟩ _ => JT.yA rfl (Ev.Lw rfl rfl) <| yE rfl rfl (.of .rf) (r1Bits_fn _ _ (by assumption)) fun ⟨a20, c20⟩ _ => zc rfl <| zc rfl <| yD rfl rfl (.of .rf) (r1common_fn (by assumption)) <| zd <| zq ?_
         refine zb <| zs <| zc rfl <| zy (.ceqF rfl rfl (by omega)) <| zv rfl rfl <| zv rfl rfl <| zy (.pickF rfl rfl) <| zd <| zu rfl <| zs <| zc rfl <| zy (.ceqF rfl rfl (by omega)) ?_
         refine zd <| zu rfl <| zs <| zc rfl <| zy (.ceqF rfl rfl (by omega)) <| zd <| zu rfl <| zs <| zy (.iC rfl rfl (by omega)) <| zy (.LE0 rfl (by omega) rfl) <| zy (.iC rfl rfl (by omega)) <| zy (.LE0 rfl (by omega) rfl) ?_
         refine zy (.cltF rfl rfl (by omega)) <| zd <| zu rfl <| zk <| zs <| zc rfl <| zc rfl <| zd <| zr <| yR (.t rfl (.t rfl .nil)) ?_ (.of (.d (.d (.d (.d .rf)))))
        simp only [mkRet]; rw [hc]
theorem r1Compare_no (v w : Vec) (F : List Assn) (h : ¬ (vecOk v ∧ vecOk w)) : Meets Try.prog 71 [vv v, vv w] F (Det (.tuple #[i64 0, i64 10]) F) := by
  refine Meets.intro b71 k71 (by simp) ?_
  by_cases h1 : vecOk v
  · have h2 : ¬ vecOk w := fun h2 => h ⟨h1, h2⟩
    focus
     refine zs <| yB rfl fun b2 => yB rfl fun b3 => zc rfl <| zc rfl <| zw rfl rfl <| yD rfl rfl (.of .rf) (r1Right_fn _ _) <| zc rfl <| yF rfl (by assumption) <| zw rfl rfl <| yF rfl (by assumption) <| yD rfl rfl (.of .rf) (r1Right_fn _ _) ?_
     refine yF rfl (by assumption) <| zc rfl <| zy (.pickFp rfl (by assumption) rfl) <| zd <| zq <| zi rfl (fun h3 => ?_) (fun h3 => ?_)
     refine zs <| zc rfl <| zc rfl <| zd <| zr <| yR (.t rfl (.t rfl .nil)) rfl (.of (.d (.d .rf)))
     contradiction
  · focus
     refine zs <| yB rfl fun b2 => yB rfl fun b3 => zc rfl <| zc rfl <| zw rfl rfl <| yD rfl rfl (.of .rf) (r1Right_fn _ _) <| zc rfl <| yFs rfl (by assumption) <| yFs rfl (by assumption) <| yFs rfl (by assumption) <| zy (.pickTp rfl (by assumption) rfl) ?_
     refine zd <| zq <| zt rfl <| zs <| zc rfl <| zc rfl <| zd <| zr <| yR (.t rfl (.t rfl .nil)) rfl (.of (.d (.d .rf)))
end Go.Proofs.Ytgcmglieciaifaa
