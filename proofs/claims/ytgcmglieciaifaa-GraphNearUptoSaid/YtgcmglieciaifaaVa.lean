/- Vectors as rows of bits (plain Lean). Conditions: none. -/
import Derived.Test.YtgcmglieciaifaaKa
set_option linter.unusedSimpArgs false
set_option linter.unusedVariables false
namespace Go.SL
open Go

def bitsOf : Nat → Nat → List Nat
  | _, 0 => []
  | b, n + 1 => bitsOf (b / 2) n ++ [b % 2]
def ofBits (l : List Nat) : Nat := l.foldl (fun a x => a * 2 + x) 0
theorem bitsOf_len : ∀ (n b : Nat), (bitsOf b n).length = n
  | 0, _ => rfl
  | n + 1, b => by simp [bitsOf, bitsOf_len n]
theorem ofBits_snoc (l : List Nat) (x : Nat) : ofBits (l ++ [x]) = ofBits l * 2 + x := by simp [ofBits]
theorem ofBits_bits : ∀ (n b : Nat), b < 2 ^ n → ofBits (bitsOf b n) = b
  | 0, b, h => by simp at h; subst h; rfl
  | n + 1, b, h => by
    rw [bitsOf, ofBits_snoc, ofBits_bits n (b / 2) (by rw [Nat.pow_succ] at h; omega)]; omega
theorem bits_take : ∀ (n b k : Nat), b < 2 ^ n → k ≤ n → (bitsOf b n).take k = bitsOf (b / 2 ^ (n - k)) k
  | 0, b, k, h, hk => by have : k = 0 := by omega
                         subst this; rfl
  | n + 1, b, k, h, hk => by
    rcases Nat.lt_or_ge n k with h1 | h1
    · have : k = n + 1 := by omega
      subst this; rw [List.take_of_length_le (by simp [bitsOf_len])]; simp
    · rw [bitsOf, List.take_append_of_le_length (by simpa [bitsOf_len] using h1), bits_take n (b / 2) k (by rw [Nat.pow_succ] at h; omega) h1, Nat.div_div_eq_div_mul, show n + 1 - k = (n - k) + 1 by omega, Nat.pow_succ, Nat.mul_comm]
theorem bits_get : ∀ (n b i : Nat), i < n → (bitsOf b n)[i]? = some (b / 2 ^ (n - 1 - i) % 2)
  | n + 1, b, i, h => by
    rw [bitsOf]
    rcases Nat.lt_or_ge i n with h1 | h1
    · rw [List.getElem?_append_left (by simpa [bitsOf_len] using h1), bits_get n (b / 2) i h1, Nat.div_div_eq_div_mul, show n + 1 - 1 - i = (n - 1 - i) + 1 by omega, Nat.pow_succ, Nat.mul_comm]
    · have : i = n := by omega
      subst this
      rw [List.getElem?_append_right (by simp [bitsOf_len])]; simp [bitsOf_len]
theorem bits_bin : ∀ (n b x : Nat), x ∈ bitsOf b n → x = 0 ∨ x = 1
  | n + 1, b, x, h => by
    rw [bitsOf, List.mem_append] at h
    rcases h with h | h
    · exact bits_bin n _ x h
    · simp at h; omega
theorem bits_inj {n a b : Nat} (ha : a < 2 ^ n) (hb : b < 2 ^ n) (h : bitsOf a n = bitsOf b n) : a = b := by
  rw [← ofBits_bits n a ha, h, ofBits_bits n b hb]

/-- How many first ones are alike. -/
def commonL : List Nat → List Nat → Nat
  | x :: a, y :: b => if x = y then commonL a b + 1 else 0
  | _, _ => 0
theorem commonL_le : ∀ (a b : List Nat), commonL a b ≤ a.length ∧ commonL a b ≤ b.length
  | [], b => by simp [commonL]
  | x :: a, [] => by simp [commonL]
  | x :: a, y :: b => by
    have := commonL_le a b
    unfold commonL; split <;> simp <;> omega
theorem commonL_of : ∀ {a b : List Nat} {k : Nat}, k ≤ a.length → k ≤ b.length → (∀ i, i < k → a[i]? = b[i]?) → (k < a.length → k < b.length → a[k]? ≠ b[k]?) → commonL a b = k
  | [], b, k, h1, h2, h, hn => by simp at h1; simp [commonL, h1]
  | x :: a, [], k, h1, h2, h, hn => by simp at h2; simp [commonL, h2]
  | x :: a, y :: b, 0, h1, h2, h, hn => by
    have := hn (by simp) (by simp)
    simp at this
    unfold commonL; rw [if_neg this]
  | x :: a, y :: b, k + 1, h1, h2, h, hn => by
    have h0 := h 0 (by omega)
    simp at h0
    unfold commonL; rw [if_pos h0, commonL_of (k := k) (by simpa using h1) (by simpa using h2) (fun i hi => by simpa using h (i + 1) (by omega)) (fun a1 a2 => by simpa using hn (by simpa using a1) (by simpa using a2))]
theorem commonL_same : ∀ {a b : List Nat} {i : Nat}, i < commonL a b → a[i]? = b[i]?
  | [], b, i, h => by simp [commonL] at h
  | x :: a, [], i, h => by simp [commonL] at h
  | x :: a, y :: b, i, h => by
    unfold commonL at h
    split at h
    · rename_i e
      cases i with
      | zero => simp [e]
      | succ i => simpa using commonL_same (a := a) (b := b) (i := i) (by omega)
    · omega
theorem commonL_diff : ∀ {a b : List Nat}, commonL a b < a.length → commonL a b < b.length → a[commonL a b]? ≠ b[commonL a b]?
  | [], b, h, _ => by simp at h
  | x :: a, [], _, h => by simp at h
  | x :: a, y :: b, h1, h2 => by
    unfold commonL at h1 h2 ⊢
    split
    · rename_i e
      rw [if_pos e] at h1 h2
      simpa using commonL_diff (a := a) (b := b) (by simpa using h1) (by simpa using h2)
    · rename_i e; simpa using e

/-- How many bits a number has. -/
def blen (x : Nat) : Nat := if x = 0 then 0 else Nat.log2 x + 1
theorem blen_lt (x : Nat) : x < 2 ^ blen x := by
  unfold blen; split
  · rename_i h; subst h; decide
  · exact Nat.lt_log2_self
theorem blen_le {x : Nat} (h : x ≠ 0) : 2 ^ (blen x - 1) ≤ x := by
  unfold blen; rw [if_neg h, Nat.add_sub_cancel]; exact Nat.log2_self_le h
theorem blen_le_of {x n : Nat} (h : x < 2 ^ n) : blen x ≤ n := by
  unfold blen; split
  · omega
  · rename_i hx
    have := (Nat.log2_lt hx).2 h
    omega
theorem bits_test {n b i : Nat} (h : i < n) : (bitsOf b n)[i]? = some (b.testBit (n - 1 - i)).toNat := by
  rw [bits_get n b i h, Nat.testBit_eq_decide_div_mod_eq]
  congr 1
  have : b / 2 ^ (n - 1 - i) % 2 < 2 := Nat.mod_lt _ (by decide)
  rcases Nat.lt_or_ge (b / 2 ^ (n - 1 - i) % 2) 1 with h1 | h1
  · have : b / 2 ^ (n - 1 - i) % 2 = 0 := by omega
    rw [this]; rfl
  · have : b / 2 ^ (n - 1 - i) % 2 = 1 := by omega
    rw [this]; rfl
theorem toNat_inj {x y : Bool} (h : x.toNat = y.toNat) : x = y := by cases x <;> cases y <;> simp_all
/-- The program's way to count them. -/
theorem common_xor {n a b : Nat} (ha : a < 2 ^ n) (hb : b < 2 ^ n) : commonL (bitsOf a n) (bitsOf b n) = n - blen (a ^^^ b) := by
  have hx : a ^^^ b < 2 ^ n := Nat.xor_lt_two_pow ha hb
  have hl := blen_le_of hx
  refine commonL_of (by rw [bitsOf_len]; omega) (by rw [bitsOf_len]; omega) (fun i hi => ?_) (fun h1 _ => ?_)
  · rw [bits_test (by omega), bits_test (by omega)]
    have : (a ^^^ b).testBit (n - 1 - i) = false := Nat.testBit_lt_two_pow (Nat.lt_of_lt_of_le (blen_lt _) (Nat.pow_le_pow_right (by decide) (by omega)))
    rw [Nat.testBit_xor] at this
    have : a.testBit (n - 1 - i) = b.testBit (n - 1 - i) := by simpa using this
    rw [this]
  · rw [bitsOf_len] at h1
    have h0 : a ^^^ b ≠ 0 := fun e => by rw [e] at h1; simp [blen] at h1
    have hp : 0 < blen (a ^^^ b) := by unfold blen; rw [if_neg h0]; omega
    rw [bits_test (by omega), bits_test (by omega), show n - 1 - (n - blen (a ^^^ b)) = blen (a ^^^ b) - 1 by omega]
    intro e
    have e := toNat_inj (Option.some.inj e)
    have : (a ^^^ b).testBit (blen (a ^^^ b) - 1) = true := by
      unfold blen; rw [if_neg h0, Nat.add_sub_cancel]; exact Nat.testBit_log2 h0
    rw [Nat.testBit_xor, e] at this
    simp at this

/-! ### The order of rows -/
def lexLt : List Nat → List Nat → Prop
  | _, [] => False
  | [], _ :: _ => True
  | x :: a, y :: b => x < y ∨ x = y ∧ lexLt a b
instance : ∀ a b : List Nat, Decidable (lexLt a b)
  | _, [] => by unfold lexLt; infer_instance
  | [], _ :: _ => by unfold lexLt; infer_instance
  | x :: a, y :: b => by unfold lexLt; have := instDecidableLexLt a b; infer_instance
theorem lexLt_irrefl : ∀ a : List Nat, ¬ lexLt a a
  | [] => by simp [lexLt]
  | x :: a => by simp [lexLt, lexLt_irrefl a]
theorem lexLt_trans : ∀ {a b c : List Nat}, lexLt a b → lexLt b c → lexLt a c
  | a, [], c, h, _ => by cases a <;> simp [lexLt] at h
  | a, y :: b, [], _, h => by simp [lexLt] at h
  | [], y :: b, z :: c, _, _ => by simp [lexLt]
  | x :: a, y :: b, z :: c, h, h' => by
    simp only [lexLt] at h h' ⊢
    rcases h with h | ⟨h, h2⟩ <;> rcases h' with h' | ⟨h', h3⟩
    · left; omega
    · left; omega
    · left; omega
    · right; exact ⟨by omega, lexLt_trans h2 h3⟩
theorem lexLt_total : ∀ a b : List Nat, lexLt a b ∨ a = b ∨ lexLt b a
  | [], [] => by simp
  | [], y :: b => by simp [lexLt]
  | x :: a, [] => by simp [lexLt]
  | x :: a, y :: b => by
    simp only [lexLt, List.cons.injEq]
    rcases Nat.lt_trichotomy x y with h0 | h0 | h0
    · exact .inl (.inl h0)
    · rcases lexLt_total a b with h | h | h
      · exact .inl (.inr ⟨h0, h⟩)
      · exact .inr (.inl ⟨h0, h⟩)
      · exact .inr (.inr (.inr ⟨h0.symm, h⟩))
    · exact .inr (.inr (.inl h0))
theorem lexLt_asymm {a b : List Nat} (h : lexLt a b) : ¬ lexLt b a := fun h' => lexLt_irrefl a (lexLt_trans h h')
def lexCmp (a b : List Nat) : Int :=
  if commonL a b = a.length ∧ commonL a b = b.length then 0 else if commonL a b = a.length then -1 else if commonL a b = b.length then 1
  else if a.getD (commonL a b) 0 < b.getD (commonL a b) 0 then -1 else 1
theorem lexCmp_lt : ∀ {a b : List Nat}, (lexCmp a b < 0) = lexLt a b
  | [], [] => by simp [lexCmp, lexLt, commonL]
  | [], y :: b => by simp [lexCmp, lexLt, commonL]
  | x :: a, [] => by simp [lexCmp, lexLt, commonL]
  | x :: a, y :: b => by
    have ih := lexCmp_lt (a := a) (b := b)
    by_cases e : x = y
    · subst e
      have h1 : lexCmp (x :: a) (x :: b) = lexCmp a b := by
        simp only [lexCmp, commonL, if_true, List.length_cons, Nat.add_right_cancel_iff, List.getD_cons_succ]
      rw [h1, ih]; simp [lexLt]
    · have h1 : lexCmp (x :: a) (y :: b) = if x < y then -1 else 1 := by simp [lexCmp, commonL, if_neg e]
      rw [h1]; simp only [lexLt, e, false_and, or_false]
      split <;> simp_all
theorem lexCmp_zero {a b : List Nat} : lexCmp a b = 0 ↔ a = b := by
  constructor
  · intro h
    rcases lexLt_total a b with h1 | h1 | h1
    · rw [← lexCmp_lt, h] at h1; omega
    · exact h1
    · exfalso
      unfold lexCmp at h
      split at h
      · rename_i hc
        refine lexLt_irrefl a ?_
        have : a = b := by
          apply List.ext_getElem?
          intro i
          rcases Nat.lt_or_ge i (commonL a b) with h2 | h2
          · exact commonL_same h2
          · rw [List.getElem?_eq_none (by omega), List.getElem?_eq_none (by omega)]
        subst this; exact absurd h1 (lexLt_irrefl a)
      · split at h
        · omega
        · split at h
          · omega
          · split at h <;> omega
  · rintro rfl
    have : commonL a a = a.length := commonL_of (Nat.le_refl _) (Nat.le_refl _) (fun _ _ => rfl) (fun h => by omega)
    simp [lexCmp, this]

/-! ### Vectors -/
def Vec.n (v : Vec) : Nat := v.len.toNat
def Vec.b (v : Vec) : Nat := v.bits.toNat
def vbits (v : Vec) : List Nat := bitsOf v.b v.n
/-- A vector that may be. -/
def vecG (v : Vec) : Prop := vecOk v ∧ 0 ≤ v.bits
instance (v : Vec) : Decidable (vecG v) := by unfold vecG; infer_instance
theorem vecG.lt {v : Vec} (h : vecG v) : v.b < 2 ^ v.n := by
  have h1 := h.1.2.2
  have h2 : v.bits < 2 ^ v.len.toNat := by omega
  have e : ((2 ^ v.len.toNat : Nat) : Int) = (2 : Int) ^ v.len.toNat := by simp
  rw [← e] at h2
  unfold Vec.b Vec.n
  have := h.2
  generalize 2 ^ v.len.toNat = m at *
  omega
theorem vecG.len {v : Vec} (h : vecG v) : v.len = (v.n : Int) ∧ v.n ≤ 32 := by have := h.1; unfold vecOk at this; unfold Vec.n; omega
theorem vecG.bits {v : Vec} (h : vecG v) : v.bits = (v.b : Int) := by have := h.2; unfold Vec.b; omega
theorem vec_ext {v w : Vec} (hv : vecG v) (hw : vecG w) (h1 : v.n = w.n) (h2 : v.b = w.b) : v = w := by
  cases v; cases w
  have a1 := hv.len.1; have a2 := hw.len.1; have a3 := hv.bits; have a4 := hw.bits
  simp only at a1 a2 a3 a4
  rw [Vec.mk.injEq]; omega
theorem vbits_len (v : Vec) : (vbits v).length = v.n := bitsOf_len _ _
theorem vbits_inj {v w : Vec} (hv : vecG v) (hw : vecG w) (h : vbits v = vbits w) : v = w := by
  have hn : v.n = w.n := by rw [← vbits_len v, h, vbits_len w]
  refine vec_ext hv hw hn (bits_inj hv.lt (hn ▸ hw.lt) ?_)
  unfold vbits at h; rw [← hn] at h; exact h
theorem vpre_nat {v : Vec} (hv : vecG v) {n : Nat} (h : n ≤ v.n) : vpre v n = ⟨n, ((v.b / 2 ^ (v.n - n) : Nat) : Int)⟩ := by
  have h1 := hv.len.1; have h2 := hv.bits
  unfold vpre
  rw [Vec.mk.injEq]
  refine ⟨rfl, ?_⟩
  rw [h1, h2, show ((v.n : Int) - (n : Int)).toNat = v.n - n by omega]
  rw [show (2 : Int) ^ (v.n - n) = ((2 ^ (v.n - n) : Nat) : Int) by simp]
  rw [Int.fdiv_eq_ediv_of_nonneg _ (Int.natCast_nonneg _)]; rfl
theorem vpre_G {v : Vec} (hv : vecG v) {n : Nat} (h : n ≤ v.n) : vecG (vpre v n) := by
  rw [vpre_nat hv h]
  have hl := hv.lt
  have h32 := hv.len.2
  have : v.b / 2 ^ (v.n - n) < 2 ^ n := by
    rw [Nat.div_lt_iff_lt_mul (Nat.pow_pos (by decide)), ← Nat.pow_add, show n + (v.n - n) = v.n by omega]; exact hl
  refine ⟨⟨by simp only; omega, by simp only; omega, ?_⟩, Int.natCast_nonneg _⟩
  simp only [Int.toNat_natCast]
  have e : ((2 ^ n : Nat) : Int) = (2 : Int) ^ n := by simp
  rw [← e]
  generalize v.b / 2 ^ (v.n - n) = q at *
  generalize 2 ^ n = m at *
  omega
theorem vpre_bits {v : Vec} (hv : vecG v) {n : Nat} (h : n ≤ v.n) : vbits (vpre v n) = (vbits v).take n := by
  have hb : (vpre v n).b = v.b / 2 ^ (v.n - n) := by rw [vpre_nat hv h]; rfl
  have hn : (vpre v n).n = n := by rw [vpre_nat hv h]; rfl
  unfold vbits; rw [hb, hn, bits_take _ _ _ hv.lt h]
theorem vpre_n {v : Vec} {n : Nat} : (vpre v n).n = n := by simp [vpre, Vec.n]
theorem vbegins_bits {v w : Vec} (hv : vecG v) (hw : vecG w) : vbegins v w ↔ commonL (vbits v) (vbits w) = w.n := by
  have hwl := hw.len
  have hvl := hv.len
  constructor
  · rintro ⟨_, _, h, e⟩
    have hn : w.n ≤ v.n := by omega
    rw [hwl.1] at e
    have hb : vbits w = (vbits v).take w.n := by conv => lhs; rw [← e]
                                                 exact vpre_bits hv hn
    refine commonL_of (by rw [vbits_len]; exact hn) (by rw [vbits_len]; omega) (fun i hi => ?_) (fun _ h2 => by rw [vbits_len] at h2; omega)
    rw [hb, List.getElem?_take, if_pos hi]
  · intro h
    have hl := commonL_le (vbits v) (vbits w)
    rw [h, vbits_len, vbits_len] at hl
    refine ⟨hv.1, hw.1, by omega, ?_⟩
    rw [hwl.1]
    refine vbits_inj (vpre_G hv hl.1) hw ?_
    rw [vpre_bits hv hl.1]
    apply List.ext_getElem?
    intro i
    rw [List.getElem?_take]
    by_cases hi : i < w.n
    · rw [if_pos hi]; exact commonL_same (by omega)
    · rw [if_neg hi, List.getElem?_eq_none (by rw [vbits_len]; omega)]
/-- Which of two stands first. -/
def vcmp (v w : Vec) : Int := lexCmp (vbits v) (vbits w)
def vlt (v w : Vec) : Prop := lexLt (vbits v) (vbits w)
instance (v w : Vec) : Decidable (vlt v w) := by unfold vlt; infer_instance
theorem vcmp_lt (v w : Vec) : (vcmp v w < 0) = vlt v w := lexCmp_lt
theorem vcmp_zero {v w : Vec} (hv : vecG v) (hw : vecG w) : vcmp v w = 0 ↔ v = w := by
  unfold vcmp; rw [lexCmp_zero]
  exact ⟨vbits_inj hv hw, fun e => by rw [e]⟩
theorem vlt_total {v w : Vec} (hv : vecG v) (hw : vecG w) : vlt v w ∨ v = w ∨ vlt w v := by
  rcases lexLt_total (vbits v) (vbits w) with h | h | h
  · exact .inl h
  · exact .inr (.inl (vbits_inj hv hw h))
  · exact .inr (.inr h)

/-! ### The table of the library -/
def len8 : ByteArray := ⟨#[0,1,2,2,3,3,3,3,4,4,4,4,4,4,4,4,5,5,5,5,5,5,5,5,5,5,5,5,5,5,5,5,6,6,6,6,6,6,6,6,6,6,6,6,6,6,6,6,6,6,6,6,6,6,6,6,6,6,6,6,6,6,6,6,7,7,7,7,7,7,7,7,7,7,7,7,7,7,7,7,7,7,7,7,7,7,7,7,7,7,7,7,7,7,7,7,7,7,7,7,7,7,7,7,7,7,7,7,7,7,7,7,7,7,7,7,7,7,7,7,7,7,7,7,7,7,7,7,8,8,8,8,8,8,8,8,8,8,8,8,8,8,8,8,8,8,8,8,8,8,8,8,8,8,8,8,8,8,8,8,8,8,8,8,8,8,8,8,8,8,8,8,8,8,8,8,8,8,8,8,8,8,8,8,8,8,8,8,8,8,8,8,8,8,8,8,8,8,8,8,8,8,8,8,8,8,8,8,8,8,8,8,8,8,8,8,8,8,8,8,8,8,8,8,8,8,8,8,8,8,8,8,8,8,8,8,8,8,8,8,8,8,8,8,8,8,8,8,8,8,8,8,8,8,8,8]⟩
theorem len8_all : ∀ i : Fin 256, len8[i.1]? = some (UInt8.ofNat (blen i.1)) := by decide +kernel
theorem len8_get {y : Nat} (h : y < 256) : len8[y]? = some (UInt8.ofNat (blen y)) := len8_all ⟨y, h⟩
theorem blen_shift {x k : Nat} (h : 2 ^ k ≤ x) : blen x = blen (x / 2 ^ k) + k := by
  have hx : x ≠ 0 := by have := Nat.pow_pos (n := k) (show 0 < 2 by decide); omega
  have hq : x / 2 ^ k ≠ 0 := by
    have := Nat.div_pos h (Nat.pow_pos (n := k) (show 0 < 2 by decide)); omega
  refine Nat.le_antisymm (blen_le_of ?_) ?_
  · rw [Nat.pow_add]
    exact (Nat.div_lt_iff_lt_mul (Nat.pow_pos (by decide))).1 (blen_lt _)
  · have h1 := blen_le hq
    have h2 : 2 ^ (blen (x / 2 ^ k) - 1 + k) ≤ x := by
      rw [Nat.pow_add]; exact (Nat.le_div_iff_mul_le (Nat.pow_pos (by decide))).1 h1
    have h3 := Nat.lt_of_le_of_lt h2 (blen_lt x)
    have h4 := (Nat.pow_lt_pow_iff_right (a := 2) (by decide)).1 h3
    have h5 : 0 < blen (x / 2 ^ k) := by unfold blen; rw [if_neg hq]; omega
    omega
theorem blen_small {y : Nat} (h : y < 256) : blen y ≤ 8 := blen_le_of h
theorem fdiv_nat (x k : Nat) : ((x : Int)).fdiv (2 ^ k) = ((x / 2 ^ k : Nat) : Int) := by
  rw [show (2 : Int) ^ k = ((2 ^ k : Nat) : Int) by simp, Int.fdiv_eq_ediv_of_nonneg _ (Int.natCast_nonneg _)]; rfl
theorem and_one (z : Nat) : ((BitVec.ofInt 64 (z : Int) &&& BitVec.ofInt 64 1).toNat : Nat) = z % 2 := by
  have e1 : BitVec.ofInt 64 (z : Int) = BitVec.ofNat 64 z := by simp
  have e2 : BitVec.ofInt 64 1 = BitVec.ofNat 64 1 := by decide
  rw [e1, e2, BitVec.toNat_and, BitVec.toNat_ofNat, BitVec.toNat_ofNat]
  rw [show 1 % 2 ^ 64 = 1 by decide, Nat.and_one_is_mod]; omega
theorem xor_nat (a b : Nat) (ha : a < 2 ^ 64) (hb : b < 2 ^ 64) : ((BitVec.ofInt 64 (a : Int) ^^^ BitVec.ofInt 64 (b : Int)).toNat : Nat) = a ^^^ b := by
  have e1 : BitVec.ofInt 64 (a : Int) = BitVec.ofNat 64 a := by simp
  have e2 : BitVec.ofInt 64 (b : Int) = BitVec.ofNat 64 b := by simp
  rw [e1, e2, BitVec.toNat_xor, BitVec.toNat_ofNat, BitVec.toNat_ofNat, Nat.mod_eq_of_lt ha, Nat.mod_eq_of_lt hb]
theorem getD_of {l : List Nat} {i x : Nat} (h : l[i]? = some x) : l.getD i 0 = x := by simp [List.getD, h]
theorem commonL_take : ∀ {a b : List Nat} {m : Nat}, a.length ≤ m ∨ b.length ≤ m → commonL (a.take m) (b.take m) = commonL a b
  | [], b, m, _ => by simp [commonL]
  | x :: a, [], m, _ => by cases m <;> simp [commonL]
  | x :: a, y :: b, 0, h => by simp at h
  | x :: a, y :: b, m + 1, h => by
    simp only [List.take_succ_cons, commonL]
    rw [commonL_take (a := a) (b := b) (m := m) (by simpa using h)]
theorem vcommon_xor {v w : Vec} (hv : vecG v) (hw : vecG w) {m : Nat} (hm : m = min v.n w.n) : commonL (vbits v) (vbits w) = m - blen ((vpre v m).b ^^^ (vpre w m).b) ∧ (vpre v m).b < 2 ^ m ∧ (vpre w m).b < 2 ^ m := by
  have g1 := vpre_G hv (n := m) (by omega)
  have g2 := vpre_G hw (n := m) (by omega)
  have l1 := g1.lt; have l2 := g2.lt
  rw [vpre_n] at l1 l2
  refine ⟨?_, l1, l2⟩
  rw [← common_xor l1 l2]
  have b1 := vpre_bits hv (n := m) (by omega)
  have b2 := vpre_bits hw (n := m) (by omega)
  unfold vbits at b1 b2
  rw [vpre_n] at b1 b2
  rw [b1, b2]
  refine (commonL_take (a := vbits v) (b := vbits w) ?_).symm
  rw [vbits_len, vbits_len]; omega
theorem lexCmp_in {a b : List Nat} (h1 : commonL a b < a.length) (h2 : commonL a b < b.length) : lexCmp a b = icmp ((a.getD (commonL a b) 0 : Nat) : Int) ((b.getD (commonL a b) 0 : Nat) : Int) := by
  have hd := commonL_diff h1 h2
  have e1 : a.getD (commonL a b) 0 = a[commonL a b] := by simp [List.getD, h1]
  have e2 : b.getD (commonL a b) 0 = b[commonL a b] := by simp [List.getD, h2]
  rw [List.getElem?_eq_getElem h1, List.getElem?_eq_getElem h2] at hd
  have hd : a[commonL a b] ≠ b[commonL a b] := fun e => hd (by rw [e])
  unfold lexCmp icmp
  rw [if_neg (by omega), if_neg (by omega), if_neg (by omega), e1, e2]
  split <;> split <;> (try split) <;> omega
theorem lexCmp_end {a b : List Nat} (h : ¬ (commonL a b < a.length ∧ commonL a b < b.length)) : lexCmp a b = icmp (a.length : Int) (b.length : Int) := by
  have hl := commonL_le a b
  unfold lexCmp icmp
  split
  · rw [if_neg (by omega), if_neg (by omega)]
  · split
    · rw [if_pos (by omega)]
    · rw [if_pos (by omega), if_neg (by omega), if_pos (by omega)]
end Go.SL
