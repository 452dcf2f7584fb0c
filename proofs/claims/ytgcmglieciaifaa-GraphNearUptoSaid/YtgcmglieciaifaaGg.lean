/- Layer 11: the reference's lists: the functions. Conditions: none. -/
import Derived.Test.YtgcmglieciaifaaGf
import Derived.Test.YtgcmglieciaifaaVc
import Derived.Test.YtgcmglieciaifaaBh
set_option linter.unusedSimpArgs false
set_option linter.unusedVariables false
set_option maxRecDepth 100000
set_option maxHeartbeats 4000000
namespace Go.SL
open Go
theorem mem_take_map {α β : Type} [Inhabited α] {xs : List α} {j k : Nat} (f : α → β) (hj : j < k) (hk : k ≤ xs.length) : f (nth xs j) ∈ (xs.take k).map f :=
  List.mem_map.2 ⟨nth xs j, List.mem_iff_getElem.2 ⟨j, by simp; omega, by rw [List.getElem_take, nth_eq (by omega)]⟩, rfl⟩
theorem mem_take_nth {α : Type} [Inhabited α] {xs : List α} {k : Nat} {y : α} (h : y ∈ xs.take k) : ∃ i, i < k ∧ i < xs.length ∧ y = nth xs i := by
  obtain ⟨i, hi, rfl⟩ := List.mem_iff_getElem.1 h
  rw [List.length_take] at hi
  exact ⟨i, by omega, by omega, by rw [List.getElem_take, nth_eq (by omega)]⟩
theorem eqNth {α : Type} [Inhabited α] {xs ys : List α} (hl : xs.length = ys.length) (h : ∀ j, j < xs.length → nth xs j = nth ys j) : xs = ys := by
  refine List.ext_getElem hl fun j h1 h2 => ?_
  have := h j h1
  rw [nth_eq h1, nth_eq h2] at this; exact this
theorem gins_split {x : Ref} : ∀ {out : List Ref} {j : Nat}, j ≤ out.length → (∀ i, i < j → keyLt (nth out i).key x.key) → (j < out.length → ¬ keyLt (nth out j).key x.key) → gins x out = out.take j ++ [x] ++ out.drop j
  | [], j, hj, _, _ => by
    obtain rfl : j = 0 := by simpa using hj
    rfl
  | y :: l, 0, _, _, h => by
    have := h (by simp)
    unfold gins; rw [if_neg (by simpa [nth] using this)]; rfl
  | y :: l, j + 1, hj, h1, h2 => by
    have h0 := h1 0 (by omega)
    unfold gins; rw [if_pos (by simpa [nth] using h0)]
    have := gins_split (x := x) (out := l) (j := j) (by simpa using hj) (fun i hi => by simpa [nth] using h1 (i + 1) (by omega)) (fun hj' => by simpa [nth] using h2 (by simpa using hj'))
    rw [this]; rfl
theorem gbes_at {L : List Ref} {id : Int} {k : Nat} (hk : k < L.length) (hn : ∀ j, j < k → (nth L j).id ≠ id) (h : (nth L k).id = id) : gbes L id = (gl L k, gr L k, true) := by
  have : gix L id = some k := by
    unfold gix
    rw [List.findIdx?_eq_some_iff_getElem]
    refine ⟨hk, by rw [← nth_eq hk]; simp [h], fun j hj => ?_⟩
    rw [← nth_eq (by omega)]; simp [hn j hj]
  unfold gbes; rw [this]
theorem gbes_non {L : List Ref} {id : Int} (hn : ∀ j, j < L.length → (nth L j).id ≠ id) : gbes L id = (zR, zR, false) := by
  have : gix L id = none := by
    unfold gix
    rw [List.findIdx?_eq_none_iff]
    intro x hx
    obtain ⟨i, hi, rfl⟩ := List.mem_iff_getElem.1 hx
    rw [← nth_eq hi]; simp [hn i hi]
  unfold gbes; rw [this]
end Go.SL
namespace Go.Proofs.Ytgcmglieciaifaa
open Go Go.SL
attribute [local irreducible] pc rc SlT Me Mt It pt ro pur ex sep old Meets
theorem r11Check_fn (h : Int) {a1 : Option Addr} {c1 : Nat} {xs : List SL.Ref} {F : List Assn} [Hs : HS F (.slice a1 xs.length c1) SL.Ref refC 5 c1 xs] : Meets Try.prog 15 [i64 h, .slice a1 xs.length c1] F (Det (i64 (gE h xs)) F) := by
  refine Meets.intro b15 k15 (by simp) ?_
  unfold gE
  refine J.sl Hs (fun hC hL _ => ?_)
  by_cases hh : 0 ≤ h ∧ h ≤ 32 ∧ xs.length ≤ 1022
  · obtain ⟨h0, h32, hlen⟩ := hh
    focus
     refine zs <| zc rfl <| zy (.cltF rfl rfl (by omega)) <| yG rfl <| zy (.cgtF rfl rfl (by omega)) <| zy (.pickF rfl rfl) <| yG rfl <| zc rfl <| yG rfl <| zy (.cgtF rfl rfl (by omega)) <| zy (.pickF rfl rfl) <| zd ?_
     refine zq <| zu rfl <| zk <| zs <| zc rfl <| zd <| zq <| zb ?_
    refine J.lp (ι := Nat) (fun k => k ≤ xs.length ∧ gPre h (xs.take k)) (fun k => [(5, i64 (k : Int))]) (fun k => F) (fun k => xs.length - k) 0 ⟨by omega, by simpa using gPre.nil h⟩ (by exact subxR rfl) (.of .rf) (fun k hk => ?_)
    obtain ⟨hk, hp⟩ := hk
    by_cases hlt : k < xs.length
    · have hT := List.take_succ_eq_append_getElem hlt
      rw [← nth_eq hlt] at hT
      have hnext := fun g : grOk h xs => g.next hlt
      by_cases hm : gMem h (nth xs k)
      · obtain ⟨m1, m2, m3, m4, m5⟩ := id hm
        focus
         refine zs <| zc rfl <| zy (.cltT rfl rfl (by omega)) <| zd <| zq <| zt rfl <| zk <| zq <| zb <| zs <| zy (.iC rfl rfl (by omega)) <| zy (.LE rfl (by omega)) ?_
         refine yN fun b6 => yW rfl rfl rfl rfl rfl <| zfl rfl rfl rfl <| zy (.cltF rfl rfl (by omega)) <| yG rfl <| zf 0 rfl rfl <| yG rfl <| zl rfl rfl <| yG rfl <| zy (.cgeF rfl rfl (by omega)) <| zy (.pickF rfl rfl) <| yG rfl ?_
         refine zf 1 rfl rfl <| yG rfl <| zf 1 rfl rfl <| yG rfl <| zl rfl rfl <| yG rfl <| zy (.cneF rfl rfl (by omega)) <| zy (.pickF rfl rfl) <| yG rfl <| zf 3 rfl rfl <| yG rfl <| zy (.Lf rfl (Nat.le_of_ble_eq_true rfl)) ?_
         refine yG rfl <| yD rfl rfl (.of .rf) (r1Right_fn _ _) <| yG rfl <| zc rfl <| zy (.pickF rfl rfl) <| yF rfl (by assumption) <| zf 3 rfl rfl <| yF rfl (by assumption) <| zf 3 rfl rfl <| yF rfl (by assumption) <| zl rfl rfl <| yF rfl (by assumption) ?_
         refine zy (.cneF rfl rfl (by omega)) <| zy (.pickFp rfl (by assumption) rfl) <| zd <| zq <| zu rfl <| zk <| zs <| zc rfl <| zd <| zb ?_
        refine J.lp (ι := Nat) (fun j => j ≤ k ∧ ∀ i, i < j → (nth xs i).id ≠ (nth xs k).id ∧ (nth xs i).key ≠ (nth xs k).key) (fun j => [(7, i64 (j : Int))]) (fun _ => pc b6 32 (refC (nth xs k)) :: F) (fun j => k - j) 0 ⟨by omega, fun i hi => by omega⟩ (by exact subxR rfl) (.of (.t0 .rf)) (fun j hj => ?_)
        obtain ⟨hj, hn⟩ := hj
        by_cases hjk : j < k
        · by_cases hie : (nth xs j).id = (nth xs k).id
          · focus
             refine zs <| zy (.cltT rfl rfl (by omega)) <| zd <| zq <| zt rfl <| zk <| zq <| zb <| zs <| zy (.iC rfl rfl (by omega)) <| zy (.fe rfl) <| zy (.LE0 rfl (by omega) rfl) ?_
             refine zfl rfl rfl rfl <| zy (.ceqT rfl rfl (by omega)) <| zv rfl rfl <| zv rfl rfl <| zv rfl rfl <| zv rfl rfl <| zv rfl rfl <| zv rfl rfl <| zy (.pickT rfl rfl) <| zd <| zt rfl <| zs ?_
             refine zc rfl <| zd <| zr <| yR (.t rfl .nil) ?_ (.of (.d .rf))
            rw [if_neg (fun g => (hnext g).2.1 (hie ▸ mem_take_map (·.id) hjk hk))]; rfl
          · by_cases hke : (nth xs j).key = (nth xs k).key
            · focus
               refine zs <| zy (.cltT rfl rfl (by omega)) <| zd <| zq <| zt rfl <| zk <| zq <| zb <| zs <| zy (.iC rfl rfl (by omega)) <| zy (.fe rfl) <| zy (.LE0 rfl (by omega) rfl) ?_
               refine zfl rfl rfl rfl <| zy (.ceqF rfl rfl (by omega)) <| yG rfl <| zy (.iC rfl rfl (by omega)) <| yG rfl <| zy (.fe rfl) <| yG rfl <| zy (.LEf rfl (by omega) (by decide)) <| yG rfl <| zf 1 rfl rfl <| yG rfl <| zy (.Lf rfl (Nat.le_of_ble_eq_true rfl)) ?_
               refine yG rfl ?_
               refine zy (.eqTt rfl rfl (by assumption)) <| zy (.pickF rfl rfl) <| zd <| zt rfl <| zs <| zc rfl <| zd <| zr <| yR (.t rfl .nil) ?_ (.of (.d .rf))
              rw [if_neg (fun g => (hnext g).2.2 (hke ▸ mem_take_map (·.key) hjk hk))]; rfl
            · focus
               refine zs <| zy (.cltT rfl rfl (by omega)) <| zd <| zq <| zt rfl <| zk <| zq <| zb <| zs <| zy (.iC rfl rfl (by omega)) <| zy (.fe rfl) <| zy (.LE0 rfl (by omega) rfl) ?_
               refine zfl rfl rfl rfl <| zy (.ceqF rfl rfl (by omega)) <| yG rfl <| zy (.iC rfl rfl (by omega)) <| yG rfl <| zy (.fe rfl) <| yG rfl <| zy (.LEf rfl (by omega) (by decide)) <| yG rfl <| zf 1 rfl rfl <| yG rfl <| zy (.Lf rfl (Nat.le_of_ble_eq_true rfl)) ?_
               refine yG rfl ?_
               refine zy (.eqTf rfl rfl (by assumption)) <| zy (.pickF rfl rfl) <| zd <| zu rfl <| zk <| zo <| zy (.addN rfl rfl (by omega)) <| zd <| ⟨_, ?_, (by omega), (subxR rfl), (.of (.t0 .rf))⟩
              exact ⟨by omega, fun i hi => (Nat.lt_or_eq_of_le (Nat.le_of_lt_succ hi)).elim (hn i) (fun e => e ▸ ⟨hie, hke⟩)⟩
        · obtain rfl : j = k := by omega
          focus
           refine zs <| zy (.cltF rfl rfl (by omega)) <| zd <| zq <| zu rfl <| zx <| zo <| zy (.addN rfl rfl (by omega)) <| zd <| ⟨_, ?_, (by omega), (subxR rfl), (.of (.d .rf))⟩
          refine ⟨by omega, ?_⟩
          rw [hT]
          refine hp.snoc hm (fun h => ?_) (fun h => ?_)
          · obtain ⟨y, hy, e⟩ := List.mem_map.1 h
            obtain ⟨i, h1, h2, rfl⟩ := mem_take_nth hy
            exact (hn i h1).1 e
          · obtain ⟨y, hy, e⟩ := List.mem_map.1 h
            obtain ⟨i, h1, h2, rfl⟩ := mem_take_nth hy
            exact (hn i h1).2 e
      · focus
         refine zs <| zc rfl <| zy (.cltT rfl rfl (by omega)) <| zd <| zq <| zt rfl <| zk <| zq <| zb <| zs <| zy (.iC rfl rfl (by omega)) <| zy (.LE rfl (by omega)) ?_
         refine yN fun b6 => yW rfl rfl rfl rfl rfl <| zfl rfl rfl rfl <| zj rfl rfl rfl <| zn rfl (fun h1 => ?_) (fun h1 => ?_)
         refine zf 0 rfl rfl <| yF rfl (by assumption) <| zl rfl rfl <| yF rfl (by assumption) <| zj rfl rfl rfl <| zy (.pickFp rfl (by assumption) rfl) <| zn rfl (fun h2 => ?_) (fun h2 => ?_)
         refine zf 1 rfl rfl <| yF rfl (by assumption) <| zf 1 rfl rfl <| yF rfl (by assumption) <| zl rfl rfl <| yF rfl (by assumption) <| zj rfl rfl rfl <| zy (.pickFp rfl (by assumption) rfl) <| zn rfl (fun h3 => ?_) (fun h3 => ?_)
         refine zf 3 rfl rfl <| yF rfl (by assumption) <| zy (.Lf rfl (Nat.le_of_ble_eq_true rfl)) <| yF rfl (by assumption) <| yD rfl rfl (.of .rf) (r1Right_fn _ _) <| yF rfl (by assumption) <| zc rfl <| zy (.pickFp rfl (by assumption) rfl) <| zh rfl rfl (fun h4 => .fa' 3 rfl rfl) <| zh rfl rfl (fun h4 => by rw [h4]; exact .calc rfl) <| zh rfl rfl (fun h4 => by rw [h4]; exact .L rfl rfl) <| zh rfl rfl (fun h4 => by rw [h4]; exact .int rfl rfl rfl) ?_
         refine zy (.pickO rfl rfl rfl) <| zd <| zq <| zi rfl (fun h4 => ?_) (fun h4 => ?_)
         refine zs <| zc rfl <| zd <| zr <| yR (.t rfl .nil) ?_ (.of (.d .rf))
         rotate_left
         refine zk <| zs <| zc rfl <| zd <| zb ?_
         rotate_left
         refine yFs rfl (by assumption) <| yFs rfl (by assumption) <| yFs rfl (by assumption) <| zy (.pickTp rfl (by assumption) rfl) <| zv rfl rfl <| zv rfl rfl <| zv rfl rfl <| zv rfl rfl <| zy (.pickT rfl rfl) <| zd <| zq <| zt rfl ?_
         refine zs <| zc rfl <| zd <| zr <| yR (.t rfl .nil) ?_ (.of (.d .rf))
         rotate_left
         refine yFs rfl (by assumption) <| yFs rfl (by assumption) <| yFs rfl (by assumption) <| zy (.pickTp rfl (by assumption) rfl) <| zv rfl rfl <| zv rfl rfl <| zv rfl rfl <| zv rfl rfl <| zy (.pickT rfl rfl) <| zv rfl rfl <| zv rfl rfl <| zv rfl rfl ?_
         refine zv rfl rfl <| zy (.pickT rfl rfl) <| zd <| zq <| zt rfl <| zs <| zc rfl <| zd <| zr <| yR (.t rfl .nil) ?_ (.of (.d .rf))
         rotate_left
         refine yFs rfl (by assumption) <| yFs rfl (by assumption) <| zy (.pickTp rfl (by assumption) rfl) <| zv rfl rfl <| zv rfl rfl <| zv rfl rfl <| zv rfl rfl <| zy (.pickT rfl rfl) <| zv rfl rfl <| zv rfl rfl <| zv rfl rfl <| zv rfl rfl ?_
         refine zy (.pickT rfl rfl) <| zv rfl rfl <| zv rfl rfl <| zv rfl rfl <| zv rfl rfl <| zy (.pickT rfl rfl) <| zd <| zq <| zt rfl <| zs <| zc rfl <| zd ?_
         refine zr <| yR (.t rfl .nil) ?_ (.of (.d .rf))
         rotate_left
        all_goals first
          | (rw [if_neg (fun g => hm (hnext g).1)]; rfl)
          | exact absurd ⟨by omega, by omega, by assumption, h4.1, h4.2⟩ hm
    · focus
       refine zs <| zc rfl <| zy (.cltF rfl rfl (by omega)) <| zd <| zq <| zu rfl <| zx <| zs <| zc rfl <| zd <| zr <| yR (.t rfl .nil) ?_ (.of .rf)
      rw [List.take_of_length_le (by omega)] at hp
      rw [if_pos (show grOk h xs from ⟨by omega, by omega, by omega, hp.mem, hp.ids, hp.keys⟩)]; rfl
  · rw [if_neg (fun g : grOk h xs => hh ⟨g.h0, g.h32, g.len⟩)]
    focus
     refine zs <| zc rfl <| zj rfl rfl rfl <| zh rfl rfl (fun h1 => .int rfl rfl rfl) <| zy (.pickO rfl rfl rfl) <| zh rfl rfl (fun h1 => .calc rfl) <| zh rfl rfl (fun h1 => by rw [h1]; exact .int rfl rfl rfl) <| zy (.pickO rfl rfl rfl) <| zd <| zq <| zi rfl (fun h1 => ?_) (fun h1 => ?_)
     refine zs <| zc rfl <| zd <| zr <| yR (.t rfl .nil) rfl (.of .rf)
     (exfalso; omega)
theorem r11Same_fn {a1 a2 : Option Addr} {c1 c2 : Nat} {xs ys : List SL.Ref} {F : List Assn} [Hs : HS F (.slice a1 xs.length c1) SL.Ref refC 5 c1 xs] [Hs2 : HS F (.slice a2 ys.length c2) SL.Ref refC 5 c2 ys] : Meets Try.prog 26 [.slice a1 xs.length c1, .slice a2 ys.length c2] F (Det (.bool (decide (xs = ys))) F) := by
  refine Meets.intro b26 k26 (by simp) ?_
  refine J.sl Hs (fun hC hL _ => ?_)
  by_cases hl : xs.length = ys.length
  · focus
     refine zs <| zc rfl <| zc rfl <| zc rfl <| zy (.cneF rfl rfl (by omega)) <| zd <| zq <| zu rfl <| zk <| zs <| zc rfl <| zd ?_
     refine zq <| zb ?_
    refine J.lp (ι := Nat) (fun k => k ≤ xs.length ∧ ∀ j, j < k → nth xs j = nth ys j) (fun k => [(5, i64 (k : Int))]) (fun _ => F) (fun k => xs.length - k) 0 ⟨by omega, fun j hj => by omega⟩ (by exact subxR rfl) (Up.refl _) (fun k hk => ?_)
    obtain ⟨hk, hn⟩ := hk
    focus
     refine zs <| zc rfl <| zj rfl rfl rfl <| zd <| zq <| zi rfl (fun h1 => ?_) (fun h1 => ?_)
     refine zk <| zq <| zb <| zs <| zy (.iC rfl rfl (by omega)) <| zy (.LE rfl (by omega)) <| zy (.iC rfl rfl (by omega)) <| zy (.LE rfl (by omega)) <| zy (.neT rfl rfl) <| zd <| zi rfl (fun h2 => ?_) (fun h2 => ?_)
     refine zs <| zc rfl <| zd <| zr <| yR (.t rfl .nil) ?_ (.of .rf)
     rotate_left
     refine zk <| zo <| zy (.addN rfl rfl (by omega)) <| zd <| ⟨_, ?_, (by omega), (subxR rfl), (.of .rf)⟩
     rotate_left
     refine zx <| zs <| zc rfl <| zd <| zr <| yR (.t rfl .nil) ?_ (.of .rf)
     rotate_left
    · simp only [mkRet]; rw [decide_eq_false (fun e => h2 (by rw [e]))]
    · exact ⟨by omega, fun j hj => (Nat.lt_or_eq_of_le (Nat.le_of_lt_succ hj)).elim (hn j) (fun e => e ▸ h2)⟩
    · simp only [mkRet]; rw [decide_eq_true (eqNth hl fun j hj => hn j (by omega))]
  · focus
     refine zs <| zc rfl <| zc rfl <| zc rfl <| zy (.cneT rfl rfl (by omega)) <| zd <| zq <| zt rfl <| zs <| zc rfl <| zd <| zr ?_
     refine yR (.t rfl .nil) ?_ (.of .rf)
    simp only [mkRet]; rw [decide_eq_false (fun e => hl (by rw [e]))]
theorem r11beside_fn {a1 : Option Addr} {c1 : Nat} {L : List SL.Ref} (id : Int) {F : List Assn} [Hs : HS F (.slice a1 L.length c1) SL.Ref refC 5 c1 L] : Meets Try.prog 48 [.slice a1 L.length c1, i64 id] F
    (Det (.tuple #[rv (gbes L id).1, rv (gbes L id).2.1, .bool (gbes L id).2.2]) F) := by
  refine Meets.intro b48 k48 (by simp) ?_
  refine J.sl Hs (fun hC hL _ => ?_)
  focus
   refine zs <| yN fun b4 => yN fun b5 => zc rfl <| zc rfl <| zd <| zq <| zb ?_
  refine J.lp (ι := Nat) (fun k => k ≤ L.length ∧ ∀ j, j < k → (nth L j).id ≠ id) (fun k => [(7, i64 (k : Int))]) (fun _ => pc b5 32 (refC zR) :: pc b4 32 (refC zR) :: F) (fun k => L.length - k) 0 ⟨by omega, fun j hj => by omega⟩ (by exact subxR rfl) (.of (.t0 (.t0 .rf))) (fun k hk => ?_)
  obtain ⟨hk, hn⟩ := hk
  by_cases hlt : k < L.length
  · by_cases hid : (nth L k).id = id
    · rw [gbes_at hlt hn hid]
      dsimp only
      unfold gl gr
      by_cases h4 : 0 < k
      · by_cases h5 : k + 1 < L.length
        · rw [if_pos h4, if_pos h5]
          focus
           refine zs <| zc rfl <| zy (.cltT rfl rfl (by omega)) <| zd <| zq <| zt rfl <| zk <| zq <| zb <| zs <| zy (.iC rfl rfl (by omega)) <| zy (.fe rfl) ?_
           refine zy (.LE0 rfl (by omega) rfl) <| zy (.cneF rfl rfl (by omega)) <| zd <| zq <| zu rfl <| zk <| zs <| yN fun b8 => yN fun b9 => zy (.cgtT rfl rfl (by omega)) <| zd <| zq ?_
           refine zt rfl <| zo <| zy (.subN rfl rfl (by omega) (by omega)) <| zy (.iC rfl rfl (by omega)) <| zy (.LE rfl (by omega)) <| yW rfl rfl rfl rfl rfl <| zd <| zs <| zy (.addN rfl rfl (by omega)) <| zc rfl <| zy (.cltT rfl rfl (by omega)) <| zd ?_
           refine zq <| zt rfl <| zo <| zy (.addN rfl rfl (by omega)) <| zy (.iC rfl rfl (by omega)) <| zy (.LE rfl (by omega)) <| yW rfl rfl rfl rfl rfl <| zd <| zs <| zw rfl rfl <| zw rfl rfl <| yW rfl rfl rfl rfl rfl ?_
           refine JT.yA rfl (Ev.Lw rfl rfl) <| yW rfl rfl rfl rfl rfl <| zc rfl <| zd <| zr <| yR (.w rfl rfl (.w rfl rfl (.t rfl .nil))) rfl (.of (.d (.d (.d (.d .rf)))))
        · rw [if_pos h4, if_neg h5]
          focus
           refine zs <| zc rfl <| zy (.cltT rfl rfl (by omega)) <| zd <| zq <| zt rfl <| zk <| zq <| zb <| zs <| zy (.iC rfl rfl (by omega)) <| zy (.fe rfl) ?_
           refine zy (.LE0 rfl (by omega) rfl) <| zy (.cneF rfl rfl (by omega)) <| zd <| zq <| zu rfl <| zk <| zs <| yN fun b8 => yN fun b9 => zy (.cgtT rfl rfl (by omega)) <| zd <| zq ?_
           refine zt rfl <| zo <| zy (.subN rfl rfl (by omega) (by omega)) <| zy (.iC rfl rfl (by omega)) <| zy (.LE rfl (by omega)) <| yW rfl rfl rfl rfl rfl <| zd <| zs <| zy (.addN rfl rfl (by omega)) <| zc rfl <| zy (.cltF rfl rfl (by omega)) <| zd ?_
           refine zq <| zu rfl <| zk <| zs <| zw rfl rfl <| zw rfl rfl <| yW rfl rfl rfl rfl rfl <| JT.yA rfl (Ev.Lw rfl rfl) <| yW rfl rfl rfl rfl rfl <| zc rfl <| zd <| zr ?_
           refine yR (.w rfl rfl (.w rfl rfl (.t rfl .nil))) rfl (.of (.d (.d (.d (.d .rf)))))
      · by_cases h5 : k + 1 < L.length
        · rw [if_neg h4, if_pos h5]
          focus
           refine zs <| zc rfl <| zy (.cltT rfl rfl (by omega)) <| zd <| zq <| zt rfl <| zk <| zq <| zb <| zs <| zy (.iC rfl rfl (by omega)) <| zy (.fe rfl) ?_
           refine zy (.LE0 rfl (by omega) rfl) <| zy (.cneF rfl rfl (by omega)) <| zd <| zq <| zu rfl <| zk <| zs <| yN fun b8 => yN fun b9 => zy (.cgtF rfl rfl (by omega)) <| zd <| zq ?_
           refine zu rfl <| zk <| zs <| zy (.addN rfl rfl (by omega)) <| zc rfl <| zy (.cltT rfl rfl (by omega)) <| zd <| zq <| zt rfl <| zo <| zy (.addN rfl rfl (by omega)) <| zy (.iC rfl rfl (by omega)) ?_
           refine zy (.LE rfl (by omega)) <| yW rfl rfl rfl rfl rfl <| zd <| zs <| zw rfl rfl <| zw rfl rfl <| yW rfl rfl rfl rfl rfl <| JT.yA rfl (Ev.Lw rfl rfl) <| yW rfl rfl rfl rfl rfl <| zc rfl <| zd <| zr ?_
           refine yR (.w rfl rfl (.w rfl rfl (.t rfl .nil))) rfl (.of (.d (.d (.d (.d .rf)))))
        · rw [if_neg h4, if_neg h5]
          focus
           refine zs <| zc rfl <| zy (.cltT rfl rfl (by omega)) <| zd <| zq <| zt rfl <| zk <| zq <| zb <| zs <| zy (.iC rfl rfl (by omega)) <| zy (.fe rfl) ?_
           refine zy (.LE0 rfl (by omega) rfl) <| zy (.cneF rfl rfl (by omega)) <| zd <| zq <| zu rfl <| zk <| zs <| yN fun b8 => yN fun b9 => zy (.cgtF rfl rfl (by omega)) <| zd <| zq ?_
           refine zu rfl <| zk <| zs <| zy (.addN rfl rfl (by omega)) <| zc rfl <| zy (.cltF rfl rfl (by omega)) <| zd <| zq <| zu rfl <| zk <| zs <| zw rfl rfl ?_
           refine zw rfl rfl <| yW rfl rfl rfl rfl rfl <| JT.yA rfl (Ev.Lw rfl rfl) <| yW rfl rfl rfl rfl rfl <| zc rfl <| zd <| zr <| yR (.w rfl rfl (.w rfl rfl (.t rfl .nil))) rfl (.of (.d (.d (.d (.d .rf)))))
    · focus
       refine zs <| zc rfl <| zy (.cltT rfl rfl (by omega)) <| zd <| zq <| zt rfl <| zk <| zq <| zb <| zs <| zy (.iC rfl rfl (by omega)) <| zy (.fe rfl) ?_
       refine zy (.LE0 rfl (by omega) rfl) <| zy (.cneT rfl rfl (by omega)) <| zd <| zq <| zt rfl <| zx <| zo <| zy (.addN rfl rfl (by omega)) <| zd <| ⟨_, ?_, (by omega), (subxR rfl), (.of (.t0 (.t0 .rf)))⟩
      exact ⟨by omega, fun j hj => (Nat.lt_or_eq_of_le (Nat.le_of_lt_succ hj)).elim (hn j) (fun e => e ▸ hid)⟩
  · rw [gbes_non (L := L) fun j hj => hn j (by omega)]
    focus
     refine zs <| zc rfl <| zy (.cltF rfl rfl (by omega)) <| zd <| zq <| zu rfl <| zx <| zs <| zg rfl <| zg rfl <| yW rfl rfl rfl rfl rfl <| yW rfl rfl rfl rfl rfl ?_
     refine zc rfl <| zd <| zr <| yR (.w rfl rfl (.w rfl rfl (.t rfl .nil))) rfl (.of (.d (.d .rf)))
theorem r11sorted_fn {a1 : Option Addr} {c1 : Nat} {xs : List SL.Ref} {F : List Assn} [Hs : HS F (.slice a1 xs.length c1) SL.Ref refC 5 c1 xs] (hle : xs.length ≤ 100000) : Meets Try.prog 67 [.slice a1 xs.length c1] F
    (Some' (fun _ : Option Addr × Nat => True) (fun x => .slice x.1 (gsort xs).length x.2) (fun x => SlT true refC 5 (.slice x.1 (gsort xs).length x.2) x.2 (gsort xs) :: F)) := by
  refine Meets.intro b67 k67 (by simp) ?_
  refine J.sl Hs (fun hC hL _ => ?_)
  focus
   refine zs <| zc rfl <| zc rfl <| zc rfl <| zd <| zq <| zb ?_
  refine J.lp (ι := Nat × Option Addr × Nat × List SL.Ref) (fun i => i.1 ≤ xs.length ∧ i.2.2.2 = gsort (xs.take i.1)) (fun i => [(3, .slice i.2.1 i.2.2.2.length i.2.2.1), (4, i64 (i.1 : Int))]) (fun i => SlT true refC 5 (.slice i.2.1 i.2.2.2.length i.2.2.1) i.2.2.1 i.2.2.2 :: F) (fun i => xs.length - i.1) (0, none, 0, []) ⟨by simp, by simp [gsort]⟩ (by exact subxR rfl) (Up.nilS (enc := refC) (sz := 5) true (by decide) (.of (.t0 .rf))) (fun i hi => ?_)
  obtain ⟨k, oa, oc, out⟩ := i
  obtain ⟨hk, ho⟩ := hi
  dsimp only at hk ho ⊢
  have hol : out.length ≤ k := by rw [ho, (gsort_perm _).length_eq]; simp; omega
  by_cases hlt : k < xs.length
  · have hT : gsort (xs.take (k + 1)) = gins (nth xs k) out := by rw [List.take_succ_eq_append_getElem hlt, gsort_snoc, nth_eq hlt, ho]
    focus
     refine zs <| zc rfl <| zy (.cltT rfl rfl (by omega)) <| zd <| zq <| zt rfl <| zk <| zq <| zb <| zs <| zc rfl <| zd ?_
     refine zq <| zb ?_
    refine J.lp (ι := Nat) (fun j => j ≤ out.length ∧ ∀ i, i < j → keyLt (nth out i).key (nth xs k).key) (fun j => [(5, i64 (j : Int))]) (fun _ => SlT true refC 5 (.slice oa out.length oc) oc out :: F) (fun j => out.length - j) 0 ⟨by omega, fun j hj => by omega⟩ (by exact subxR rfl) (.of (.t0 .rf)) (fun j hj => ?_)
    obtain ⟨hj, hn⟩ := hj
    refine J.slF (enc := refC) (xs := out) (by (repeat (first | exact Has.here | assumption | apply Has.there))) (fun ho1 ho2 _ => ?_)
    by_cases hjl : j < out.length
    · by_cases hlk : keyLt (nth out j).key (nth xs k).key
      · focus
         refine zs <| zc rfl <| zy (.cltT rfl rfl (by omega)) <| yG rfl <| zy (.iC rfl rfl (by omega)) <| yG rfl <| zy (.fe rfl) <| yG rfl <| zy (.LEf rfl (by omega) (by decide)) <| yG rfl <| zy (.iC rfl rfl (by omega)) <| yG rfl ?_
         refine zy (.fe rfl) <| yG rfl <| zy (.LEf rfl (by omega) (by decide)) <| yG rfl <| yD rfl rfl (.of .rf) (r9Less_fn _ _ _) <| zy (.pickT rfl rfl) <| zd <| zq <| zi rfl (fun h1 => ?_) (fun h1 => ?_)
         refine zk <| zb <| zo <| zy (.addN rfl rfl (by omega)) <| zd <| ⟨_, ?_, (by omega), (subxR rfl), (.of (.t0 .rf))⟩
         rotate_left
         contradiction
        exact ⟨by omega, fun i hi => (Nat.lt_or_eq_of_le (Nat.le_of_lt_succ hi)).elim (hn i) (fun e => e ▸ hlk)⟩
      · have hg := gins_split hj hn (fun _ => hlk)
        focus
         refine zs <| zc rfl <| zy (.cltT rfl rfl (by omega)) <| yG rfl <| zy (.iC rfl rfl (by omega)) <| yG rfl <| zy (.fe rfl) <| yG rfl <| zy (.LEf rfl (by omega) (by decide)) <| yG rfl <| zy (.iC rfl rfl (by omega)) <| yG rfl ?_
         refine zy (.fe rfl) <| yG rfl <| zy (.LEf rfl (by omega) (by decide)) <| yG rfl <| yD rfl rfl (.of .rf) (r9Less_fn _ _ _) <| zy (.pickT rfl rfl) <| zd <| zq <| zi rfl (fun h1 => ?_) (fun h1 => ?_)
         contradiction
         refine zx <| zo <| JT.V rfl .no (.c rfl) .no (by decide) (by omega) (by omega) (by omega) (by omega) fun a34 => zy (.iC rfl rfl (by omega)) <| zy (.LE rfl (by omega)) <| JT.V rfl (.c rfl) .no .no (by decide) (by omega) (by omega) (by omega) (by omega) fun a44 => JT.both ?_ ?_
         refine JT.b0 fun a31 => JT.both ?_ ?_
         (refine JT.A3 rfl rfl rfl (by decide) (by simp; omega) (fun a35 c35 hc35 => ?_))
         refine JT.yA rfl (Ev.LE rfl (by omega)) <| JT.bsl1 (by repeat (first | exact Cells.nil | apply Cells.z | (apply Cells.cl; rfl; rfl; rfl))) (by simp only [List.length_cons, List.length_nil, Nat.reduceAdd]; rfl) (by decide) (by rfl) fun a40 => ?_
         (refine JT.A1 rfl rfl (by rfl) rfl (by decide) (by simp; omega) (fun a41 c41 hc41 => ?_))
         (refine JT.A3 rfl rfl rfl (by decide) (by simp; omega) (fun a45 c45 hc45 => ?_))
         refine zc rfl <| zd <| zo <| zy (.addN rfl rfl (by omega)) <| zd <| ⟨⟨_, ⟨_, ⟨_, _⟩⟩⟩, ?_, (by omega), (subxR rfl), (.of (.t0 (.d (.d (.d (.d .rf))))))⟩
         rotate_left
         refine JT.bsl1 (by repeat (first | exact Cells.nil | apply Cells.z | (apply Cells.cl; rfl; rfl; rfl))) (by simp only [List.length_cons, List.length_nil, Nat.reduceAdd]; rfl) (by decide) (by rfl) fun a40 => ?_
         (refine JT.A3 rfl rfl rfl (by decide) (by simp; omega) (fun a35 c35 hc35 => ?_))
         refine JT.yA rfl (Ev.LE rfl (by omega)) ?_
         (refine JT.A1 rfl rfl (by rfl) rfl (by decide) (by simp; omega) (fun a41 c41 hc41 => ?_))
         (refine JT.A3 rfl rfl rfl (by decide) (by simp; omega) (fun a45 c45 hc45 => ?_))
         refine zc rfl <| zd <| zo <| zy (.addN rfl rfl (by omega)) <| zd <| ⟨⟨_, ⟨_, ⟨_, _⟩⟩⟩, ?_, (by omega), (subxR rfl), (.of (.t0 (.d (.d (.d (.d .rf))))))⟩
         rotate_left
         refine JT.bsl1 (by repeat (first | exact Cells.nil | apply Cells.z | (apply Cells.cl; rfl; rfl; rfl))) (by simp only [List.length_cons, List.length_nil, Nat.reduceAdd]; rfl) (by decide) (by rfl) fun a40 => ?_
         refine JT.b0 fun a31 => ?_
         (refine JT.A3 rfl rfl rfl (by decide) (by simp; omega) (fun a35 c35 hc35 => ?_))
         refine JT.yA rfl (Ev.LE rfl (by omega)) ?_
         (refine JT.A1 rfl rfl (by rfl) rfl (by decide) (by simp; omega) (fun a41 c41 hc41 => ?_))
         (refine JT.A3 rfl rfl rfl (by decide) (by simp; omega) (fun a45 c45 hc45 => ?_))
         refine zc rfl <| zd <| zo <| zy (.addN rfl rfl (by omega)) <| zd <| ⟨⟨_, ⟨_, ⟨_, _⟩⟩⟩, ?_, (by omega), (subxR rfl), (.of (.t0 (.d (.d (.d (.d .rf))))))⟩
         rotate_left
        all_goals exact ⟨by dsimp only; omega, by dsimp only; rw [hT, hg]; simp⟩
    · obtain rfl : j = out.length := by omega
      have hg := gins_split hj hn (fun h => absurd h (Nat.lt_irrefl _))
      focus
       refine zs <| zc rfl <| zy (.cltF rfl rfl (by omega)) <| zv rfl rfl <| zv rfl rfl <| zv rfl rfl <| zv rfl rfl <| zv rfl rfl <| zv rfl rfl <| zv rfl rfl <| zy (.pickF rfl rfl) <| zd ?_
       refine zq <| zu rfl <| zx <| zo <| JT.V rfl .no (.c rfl) .no (by decide) (by omega) (by omega) (by omega) (by omega) fun a34 => zy (.iC rfl rfl (by omega)) <| zy (.LE rfl (by omega)) <| JT.V rfl (.c rfl) .no .no (by decide) (by omega) (by omega) (by omega) (by omega) fun a44 => JT.both ?_ ?_
       refine JT.b0 fun a31 => JT.both ?_ ?_
       (refine JT.A3 rfl rfl rfl (by decide) (by simp; omega) (fun a35 c35 hc35 => ?_))
       refine JT.yA rfl (Ev.LE rfl (by omega)) <| JT.bsl1 (by repeat (first | exact Cells.nil | apply Cells.z | (apply Cells.cl; rfl; rfl; rfl))) (by simp only [List.length_cons, List.length_nil, Nat.reduceAdd]; rfl) (by decide) (by rfl) fun a40 => ?_
       (refine JT.A1 rfl rfl (by rfl) rfl (by decide) (by simp; omega) (fun a41 c41 hc41 => ?_))
       (refine JT.A3 rfl rfl rfl (by decide) (by simp; omega) (fun a45 c45 hc45 => ?_))
       refine zc rfl <| zd <| zo <| zy (.addN rfl rfl (by omega)) <| zd <| ⟨⟨_, ⟨_, ⟨_, _⟩⟩⟩, ?_, (by omega), (subxR rfl), (.of (.t0 (.d (.d (.d (.d .rf))))))⟩
       rotate_left
       refine JT.bsl1 (by repeat (first | exact Cells.nil | apply Cells.z | (apply Cells.cl; rfl; rfl; rfl))) (by simp only [List.length_cons, List.length_nil, Nat.reduceAdd]; rfl) (by decide) (by rfl) fun a40 => ?_
       (refine JT.A3 rfl rfl rfl (by decide) (by simp; omega) (fun a35 c35 hc35 => ?_))
       refine JT.yA rfl (Ev.LE rfl (by omega)) ?_
       (refine JT.A1 rfl rfl (by rfl) rfl (by decide) (by simp; omega) (fun a41 c41 hc41 => ?_))
       (refine JT.A3 rfl rfl rfl (by decide) (by simp; omega) (fun a45 c45 hc45 => ?_))
       refine zc rfl <| zd <| zo <| zy (.addN rfl rfl (by omega)) <| zd <| ⟨⟨_, ⟨_, ⟨_, _⟩⟩⟩, ?_, (by omega), (subxR rfl), (.of (.t0 (.d (.d (.d (.d .rf))))))⟩
       rotate_left
       refine JT.bsl1 (by repeat (first | exact Cells.nil | apply Cells.z | (apply Cells.cl; rfl; rfl; rfl))) (by simp only [List.length_cons, List.length_nil, Nat.reduceAdd]; rfl) (by decide) (by rfl) fun a40 => ?_
       refine JT.b0 fun a31 => ?_
       (refine JT.A3 rfl rfl rfl (by decide) (by simp; omega) (fun a35 c35 hc35 => ?_))
       refine JT.yA rfl (Ev.LE rfl (by omega)) ?_
       (refine JT.A1 rfl rfl (by rfl) rfl (by decide) (by simp; omega) (fun a41 c41 hc41 => ?_))
       (refine JT.A3 rfl rfl rfl (by decide) (by simp; omega) (fun a45 c45 hc45 => ?_))
       refine zc rfl <| zd <| zo <| zy (.addN rfl rfl (by omega)) <| zd <| ⟨⟨_, ⟨_, ⟨_, _⟩⟩⟩, ?_, (by omega), (subxR rfl), (.of (.t0 (.d (.d (.d (.d .rf))))))⟩
       rotate_left
      all_goals exact ⟨by dsimp only; omega, by dsimp only; rw [hT, hg]; simp⟩
  · have e : xs.take k = xs := List.take_of_length_le (by omega)
    rw [e] at ho
    rw [← ho]
    focus
     refine zs <| zc rfl <| zy (.cltF rfl rfl (by omega)) <| zd <| zq <| zu rfl <| zx <| zs <| zc rfl <| zd <| zr <| yQ ⟨_, _⟩ (.t rfl .nil) trivial rfl (.of (.t0 .rf))
theorem r11members_fn {a1 : Option Addr} {c1 : Nat} {xs : List SL.Ref} (w : Vec) {F : List Assn} [Hs : HS F (.slice a1 xs.length c1) SL.Ref refC 5 c1 xs] (hle : xs.length ≤ 100000) (hb : ∀ r ∈ xs, 0 ≤ r.vec.bits) (hw : 0 ≤ w.bits) : Meets Try.prog 49 [vv w, .slice a1 xs.length c1] F
    (Some' (fun _ : Option Addr × Nat => True) (fun x => .slice x.1 (gsort (xs.filter fun r => decide (vbegins r.vec w))).length x.2) (fun x => SlT true refC 5 (.slice x.1 (gsort (xs.filter fun r => decide (vbegins r.vec w))).length x.2) x.2 (gsort (xs.filter fun r => decide (vbegins r.vec w))) :: F)) := by
  refine Meets.intro b49 k49 (by simp) ?_
  refine J.sl Hs (fun hC hL _ => ?_)
  focus
   refine zs <| yB rfl fun b2 => zc rfl <| zc rfl <| zc rfl <| zd <| zq <| zb ?_
  refine J.lp (ι := Nat × Option Addr × Nat × List SL.Ref) (fun i => i.1 ≤ xs.length ∧ i.2.2.2 = (xs.take i.1).filter fun r => decide (vbegins r.vec w)) (fun i => [(5, .slice i.2.1 i.2.2.2.length i.2.2.1), (6, i64 (i.1 : Int))]) (fun i => SlT true refC 5 (.slice i.2.1 i.2.2.2.length i.2.2.1) i.2.2.1 i.2.2.2 :: pc b2 30 (vecC w) :: F) (fun i => xs.length - i.1) (0, none, 0, []) ⟨by simp, by simp⟩ (by exact subxR rfl) (Up.nilS (enc := refC) (sz := 5) true (by decide) (.of (.t0 (.t0 .rf)))) (fun i hi => ?_)
  obtain ⟨k, oa, oc, out⟩ := i
  obtain ⟨hk, ho⟩ := hi
  dsimp only at hk ho ⊢
  have hol : out.length ≤ k := by rw [ho]; exact Nat.le_trans (List.length_filter_le _ _) (by simp; omega)
  by_cases hlt : k < xs.length
  · have hT : (xs.take (k + 1)).filter (fun r => decide (vbegins r.vec w)) = out ++ (if vbegins (nth xs k).vec w then [nth xs k] else []) := by
      rw [List.take_succ_eq_append_getElem hlt, List.filter_append, ← ho, nth_eq hlt]
      congr 1
      by_cases h : vbegins xs[k].vec w <;> simp [h]
    have hbk : 0 ≤ (nth xs k).vec.bits := hb _ (by rw [nth_eq hlt]; exact List.getElem_mem hlt)
    have hB := fun F => r1Begins_fn (nth xs k).vec w F hbk hw
    by_cases hv : vbegins (nth xs k).vec w
    · rw [if_pos hv] at hT
      focus
       refine zs <| zc rfl <| zy (.cltT rfl rfl (by omega)) <| zd <| zq <| zt rfl <| zk <| zq <| zb <| zs <| zy (.iC rfl rfl (by omega)) <| zy (.fe rfl) ?_
       refine zy (.LEf rfl (by omega) (by decide)) <| zw rfl rfl <| yD rfl rfl (.of .rf) (hB _) <| zd <| zi rfl (fun h1 => ?_) (fun h1 => ?_)
       refine zo <| zy (.iC rfl rfl (by omega)) <| zy (.LE rfl (by omega)) <| JT.bsl1 (by repeat (first | exact Cells.nil | apply Cells.z | (apply Cells.cl; rfl; rfl; rfl))) (by simp only [List.length_cons, List.length_nil, Nat.reduceAdd]; rfl) (by decide) (by rfl) fun a25 => ?_
       (refine JT.A1 rfl rfl (by rfl) rfl (by decide) (by omega) (fun a5 c5 hc5 => ?_))
       refine zd <| zo <| zy (.addN rfl rfl (by omega)) <| zd <| ⟨⟨_, ⟨_, ⟨_, _⟩⟩⟩, ?_, (by omega), (subxR rfl), (.of (.t0 (.t1 (.d .rf))))⟩
       rotate_left
       contradiction
      exact ⟨by dsimp only; omega, hT.symm⟩
    · rw [if_neg hv, List.append_nil] at hT
      focus
       refine zs <| zc rfl <| zy (.cltT rfl rfl (by omega)) <| zd <| zq <| zt rfl <| zk <| zq <| zb <| zs <| zy (.iC rfl rfl (by omega)) <| zy (.fe rfl) ?_
       refine zy (.LEf rfl (by omega) (by decide)) <| zw rfl rfl <| yD rfl rfl (.of .rf) (hB _) <| zd <| zi rfl (fun h1 => ?_) (fun h1 => ?_)
       contradiction
       refine zk <| zo <| zy (.addN rfl rfl (by omega)) <| zd <| ⟨⟨_, ⟨_, ⟨_, _⟩⟩⟩, ?_, (by omega), (subxR rfl), (.of (.t0 (.t0 .rf)))⟩
      exact ⟨by dsimp only; omega, hT.symm⟩
  · have e : xs.take k = xs := List.take_of_length_le (by omega)
    rw [e] at ho
    rw [← ho]
    have hs := fun {F : List Assn} [HS F (.slice oa out.length oc) SL.Ref refC 5 oc out] => r11sorted_fn (F := F) (a1 := oa) (c1 := oc) (xs := out) (by omega)
    focus
     refine zs <| zc rfl <| zy (.cltF rfl rfl (by omega)) <| zd <| zq <| zu rfl <| zx <| zs <| yE rfl rfl (.of .rf) hs fun ⟨a4, c4⟩ _ => zd <| zr <| yQ ⟨_, _⟩ (.t rfl .nil) trivial rfl (.of (.t0 (.d (.d .rf))))
end Go.Proofs.Ytgcmglieciaifaa
