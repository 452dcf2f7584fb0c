/- Layer 11: the law GraphFinds: what its function does. Conditions: none. -/
import Derived.Test.YtgcmglieciaifaaGp
set_option linter.unusedSimpArgs false
set_option linter.unusedVariables false
set_option maxRecDepth 100000
set_option maxHeartbeats 4000000
namespace Go.SL
open Go
/-- The steps of a search, so far. -/
structure hopsOk (left : Bool) (r0 : Ref) (hops : List HopE) (r : Ref) (lv : Int) : Prop where
  pos : 0 < hops.length
  first : (nth hops 0).at' = r0
  last : (nth hops (hops.length - 1)).at' = r
  low : lv ≤ (nth hops (hops.length - 1)).level
  step : ∀ i, 0 < i → i < hops.length → (nth hops i).level ≤ (nth hops (i - 1)).level ∧ (if left then keyLt (nth hops i).at'.key (nth hops (i - 1)).at'.key else keyLt (nth hops (i - 1)).at'.key (nth hops i).at'.key)
theorem nth_snoc_lt {α : Type} [Inhabited α] {l : List α} {x : α} {i : Nat} (h : i < l.length) : nth (l ++ [x]) i = nth l i := by
  rw [nth_eq h, nth_eq (by simp; omega), List.getElem_append_left h]
theorem nth_snoc_eq {α : Type} [Inhabited α] {l : List α} {x : α} : nth (l ++ [x]) l.length = x := by
  rw [nth_eq (by simp)]; simp
theorem hopsOk.snoc {left : Bool} {r0 : Ref} {hops : List HopE} {r n : Ref} {lv lv' : Int} (h : hopsOk left r0 hops r lv) (hl : lv' ≤ lv) (hd : if left then keyLt n.key r.key else keyLt r.key n.key) : hopsOk left r0 (hops ++ [⟨lv', n⟩]) n lv' := by
  have hp := h.pos
  have hlen : (hops ++ [(⟨lv', n⟩ : HopE)]).length - 1 = hops.length := by simp
  refine ⟨by simp, ?_, ?_, ?_, fun i h0 hi => ?_⟩
  · rw [nth_snoc_lt hp]; exact h.first
  · rw [hlen, nth_snoc_eq]
  · rw [hlen, nth_snoc_eq]; exact Int.le_refl _
  · rw [List.length_append, List.length_singleton] at hi
    rcases Nat.lt_or_ge i hops.length with hq | hq
    · rw [nth_snoc_lt hq, nth_snoc_lt (by omega)]; exact h.step i h0 hq
    · obtain rfl : i = hops.length := by omega
      rw [nth_snoc_eq, nth_snoc_lt (by omega), h.last]
      exact ⟨Int.le_trans hl h.low, hd⟩
theorem hopsOk.le {left : Bool} {r0 : Ref} {hops : List HopE} {r : Ref} {lv lv' : Int} (h : hopsOk left r0 hops r lv) (hl : lv' ≤ lv) : hopsOk left r0 hops r lv' := ⟨h.pos, h.first, h.last, Int.le_trans hl h.low, h.step⟩
section
variable {h : Int} {xs : List Ref}
theorem gnext_dir (hg : grOk h xs) (hb : ∀ r ∈ xs, 0 ≤ r.vec.bits) {left : Bool} {tgt : Key} (hk : keyOk tgt) (hr : tgt.rank ≠ 1) {lv : Int} {r : Ref} (hs : gSt h xs left tgt lv r) :
    if left then keyLt (gnext h xs left r lv).key r.key else keyLt r.key (gnext h xs left r lv).key := by
  have hd := hs.side
  cases left
  · have hlt : keyLt r.key tgt := by simpa using hd
    have hne : r ≠ gTail h := by
      rintro rfl
      unfold keyLt at hlt; unfold keyOk at hk; simp only at hlt; omega
    simpa using (gnext_right hg hb hs.on hs.l0 hs.l1 hne).2
  · have hlt : ¬ keyLt r.key tgt := by simpa using hd
    have hne : r ≠ gHead h := by
      rintro rfl
      unfold keyLt at hlt; unfold keyOk at hk; simp only at hlt; omega
    simpa using (gnext_left hg hb hs.on hs.l0 hs.l1 hne).2
/-- To the right of the one to the left stands the one. -/
theorem right_of_left (hg : grOk h xs) {r : Ref} (ho : gOn h xs r) (hne : r ≠ gHead h) : (gbes (grow h xs zV) (gnext h xs true r 0).id).2.1 = r := by
  have hmem := ho.mem
  have hz := vpre_zero ho.ok ho.pos
  unfold gnext
  rw [hz]
  obtain ⟨i, hi, hni, hx⟩ := row_ix (grow_ids hg zV) hmem
  have hbi : gbes (grow h xs zV) r.id = (gl (grow h xs zV) i, gr (grow h xs zV) i, true) := by unfold gbes; rw [hx]
  rw [hbi]
  simp only [if_true]
  have hpos : 0 < i := by
    rcases Nat.eq_zero_or_pos i with rfl | hq
    · exact absurd (hni.symm.trans rfl) hne
    · exact hq
  have e1 : gl (grow h xs zV) i = nth (grow h xs zV) (i - 1) := if_pos hpos
  rw [e1, gbes_nth hg (by omega)]
  show gr (grow h xs zV) (i - 1) = r
  unfold gr; rw [if_pos (by omega), show i - 1 + 1 = i by omega]; exact hni
/-- Where a search ends. -/
structure gEnd (h : Int) (xs : List Ref) (left : Bool) (tgt : Key) (r0 : Ref) (W : Ref × List HopE) : Prop where
  on : gOn h xs W.1
  low : keyLt W.1.key tgt
  high : ¬ keyLt (gbes (grow h xs zV) W.1.id).2.1.key tgt
  way : ∃ lv, hopsOk left r0 W.2 W.1 lv
theorem gwalk_spec (hg : grOk h xs) (hb : ∀ r ∈ xs, 0 ≤ r.vec.bits) {left : Bool} {tgt : Key} (hk : keyOk tgt) (hr : tgt.rank ≠ 1) (r0 : Ref) : ∀ (f : Nat) (lv : Int) (r : Ref) (hops : List HopE), gSt h xs left tgt lv r → gfuel h xs left lv r < f → hopsOk left r0 hops r lv →
    gEnd h xs left tgt r0 (gwalk h xs left tgt f lv r hops)
  | 0, _, _, _, _, hf, _ => absurd hf (Nat.not_lt_zero _)
  | f + 1, lv, r, hops, hs, hf, ho => by
    obtain ⟨n1, n2⟩ := hs.next hg hb hk hr
    have nd := gnext_dir hg hb hk hr hs
    have h0 := hs.l0
    have h1 := hs.l1
    have h32 := hg.h32
    unfold gfuel at hf
    by_cases hd : decide (keyLt (gnext h xs left r lv).key tgt) ≠ left
    · rw [gwalk_step hd]
      exact gwalk_spec hg hb hk hr r0 f lv _ _ ⟨n1, h0, h1, hd⟩ (by unfold gfuel; omega) (ho.snoc (Int.le_refl _) nd)
    · by_cases hl : 0 < lv
      · rw [gwalk_down hd hl]
        exact gwalk_spec hg hb hk hr r0 f (lv - 1) r hops ⟨hs.on, by omega, by omega, hs.side⟩ (by unfold gfuel; omega) (ho.le (by omega))
      · rw [gwalk_end hd hl]
        obtain rfl : lv = 0 := by omega
        have hz := vpre_zero hs.on.ok hs.on.pos
        cases left
        · simp only [Bool.false_eq_true, if_false]
          refine ⟨hs.on, by simpa using hs.side, ?_, 0, ho⟩
          have : gnext h xs false r 0 = (gbes (grow h xs zV) r.id).2.1 := by unfold gnext; rw [hz]; rfl
          rw [this] at hd; simpa using hd
        · simp only [if_true]
          have hlt : ¬ keyLt r.key tgt := by simpa using hs.side
          have hne : r ≠ gHead h := by
            rintro rfl
            unfold keyLt at hlt; unfold keyOk at hk; simp only at hlt; omega
          refine ⟨n1, by simpa using hd, ?_, 0, ho.snoc (Int.le_refl _) nd⟩
          show ¬ keyLt (gbes (grow h xs zV) (gnext h xs true r 0).id).2.1.key tgt
          rw [right_of_left hg hs.on hne]; exact hlt
theorem gway_end (hg : grOk h xs) (hb : ∀ r ∈ xs, 0 ≤ r.vec.bits) {tgt : Key} (hk : keyOk tgt) (hr : tgt.rank ≠ 1) {r : Ref} (ho : gOn h xs r) : gEnd h xs (decide (¬ keyLt r.key tgt)) tgt r (gway h xs tgt r) := by
  have h1 := gfar_le (h := h) (xs := xs) hg (decide (¬ keyLt r.key tgt)) r
  have h2 := hg.h32
  refine gwalk_spec hg hb hk hr r gF0 h r _ ⟨ho, hg.h0, Int.le_refl _, ?_⟩ (by unfold gfuel gF0; omega) ⟨by simp, rfl, rfl, Int.le_refl _, fun i h0 hi => by simp at hi; omega⟩
  by_cases hlt : keyLt r.key tgt <;> simp [hlt]
/-- Nobody stands between neighbours. -/
theorem no_between (hg : grOk h xs) (hb : ∀ r ∈ xs, 0 ≤ r.vec.bits) {a : Ref} (ho : gOn h xs a) {x : Ref} (hx : x ∈ xs) (h1 : keyLt a.key x.key) : ¬ keyLt x.key (gbes (grow h xs zV) a.id).2.1.key := by
  obtain ⟨i, hi, hni, hxx⟩ := row_ix (grow_ids hg zV) ho.mem
  have hbi : gbes (grow h xs zV) a.id = (gl (grow h xs zV) i, gr (grow h xs zV) i, true) := by unfold gbes; rw [hxx]
  have hm := hg.mem x hx
  have hxm : x ∈ grow h xs zV := grow_mem.2 (.inr (.inl ⟨hx, begins_zero hm.2.2.2.1 (hb x hx)⟩))
  obtain ⟨j, hj, hnj, _⟩ := row_ix (grow_ids hg zV) hxm
  have hs := grow_srt hg zV
  have hlt : ∀ p q, (hp : p < (grow h xs zV).length) → (hq : q < (grow h xs zV).length) → p < q → keyLt (nth (grow h xs zV) p).key (nth (grow h xs zV) q).key := fun p q hp hq hpq => by
    have := List.pairwise_iff_getElem.1 hs p q hp hq hpq
    rw [nth_eq hp, nth_eq hq]; exact this
  rw [hbi]
  show ¬ keyLt x.key (gr (grow h xs zV) i).key
  have hij : i < j := by
    rcases Nat.lt_trichotomy i j with hq | hq | hq
    · exact hq
    · subst hq; rw [hni] at hnj; subst hnj; exact absurd h1 (keyLt_irrefl _)
    · have := hlt j i hj hi hq
      rw [hni, hnj] at this; exact absurd h1 (keyLt_asymm this)
  unfold gr; rw [if_pos (by omega)]
  rcases Nat.lt_or_ge (i + 1) j with hq | hq
  · have := hlt (i + 1) j (by omega) hj hq
    rw [hnj] at this; exact keyLt_asymm this
  · obtain rfl : j = i + 1 := by omega
    rw [hnj]; exact keyLt_irrefl _
end
end Go.SL
namespace Go.Proofs.Ytgcmglieciaifaa
open Go Go.SL
attribute [local irreducible] pc rc SlT Me Mt It pt ro pur ex sep old Meets
theorem GraphFinds_fn (h from' : Int) (tgt : SL.Key) {a1 : Option Addr} {c1 : Nat} {xs : List SL.Ref} (hx : ∀ r ∈ xs, 0 ≤ r.vec.bits) (F : List Assn) :
    Meets Try.prog 5 [i64 h, i64 from', kv tgt, .slice a1 xs.length c1] (SlT false refC 5 (.slice a1 xs.length c1) c1 xs :: F) (Det (.bool true) (SlT false refC 5 (.slice a1 xs.length c1) c1 xs :: F)) := by
  refine Meets.intro b5 k5 (by simp) ?_
  have hf := few_pos hx
  generalize hys : xs.take 12 = ys at hf
  have hfw := fun F => l11few_fn (a := a1) (c := c1) (xs := xs) F
  rw [hys] at hfw
  by_cases hg : grOk h ys
  · cases ha : gat h ys from' with
    | none =>
      have h1 := fun {a : Option Addr} {c : Nat} {F : List Assn} [HS F (.slice a ys.length c) SL.Ref refC 5 c ys] => gWay_non h from' tgt (a1 := a) (c1 := c) (xs := ys) (F := F) hg hf ha
      focus
       refine zs <| yB rfl fun b6 => zc rfl <| yE rfl rfl (.of (.t1 .rf)) (hfw _) fun ⟨a3, c3⟩ _ => zw rfl rfl <| yD rfl rfl (.of .rf) h1 <| zc rfl <| zc rfl <| zc rfl <| zc rfl <| yN fun b10 => yN fun b11 => ?_
       refine zc rfl <| yW rfl rfl rfl rfl rfl <| yW rfl rfl rfl rfl rfl <| zy (.cneT rfl rfl (by decide)) <| zv rfl rfl <| zv rfl rfl <| zv rfl rfl <| zy (.pickT rfl rfl) <| zd <| zq <| zt rfl <| zs ?_
       refine yD rfl rfl (.of .rf) (l11alive_fn _) <| zd <| zr <| yR (.t rfl .nil) rfl (.of (.t3 (.d (.d (.d (.d .rf))))))
    | some r =>
      by_cases hk : keyOk tgt
      · have h1 := fun {a : Option Addr} {c : Nat} {F : List Assn} [HS F (.slice a ys.length c) SL.Ref refC 5 c ys] => gWay_ok h from' tgt (a1 := a) (c1 := c) (xs := ys) (F := F) hg hf ha hk
        by_cases hlow : tgt.rank = 1
        · have e : gwayE h ys from' tgt = ([⟨h, r⟩], zR, gHead h, 0) := by unfold gwayE; rw [if_pos hg, ha]; simp only [if_pos hk, if_pos hlow]
          simp only [e] at h1
          focus
           refine zs <| yB rfl fun b6 => zc rfl <| yE rfl rfl (.of (.t1 .rf)) (hfw _) fun ⟨a3, c3⟩ _ => zw rfl rfl <| yE rfl rfl (.of .rf) h1 fun ⟨a23, c23⟩ _ => zc rfl <| zc rfl <| zc rfl <| zc rfl <| yN fun b10 => yN fun b11 => ?_
           refine zc rfl <| yW rfl rfl rfl rfl rfl <| yW rfl rfl rfl rfl rfl <| zy (.cneF rfl rfl (by decide)) <| yG rfl <| zf 0 rfl rfl <| yG rfl <| zl rfl rfl <| yG rfl <| zy (.ceqT rfl rfl (by omega)) <| zy (.pickF rfl rfl) <| zd ?_
           refine zq <| zt rfl <| zs <| yD rfl rfl (.of .rf) (l11alive_fn _) <| zd <| zr <| yR (.t rfl .nil) rfl (.of (.t4 (.d (.d (.d (.d (.d .rf)))))))
        · obtain ⟨hid, i, hi, hni, _⟩ := gat_some ha
          have hr : gOn h ys r := gOn.of hg hf (w := zV) (by rw [← hni, nth_eq hi]; exact List.getElem_mem hi)
          have E := gway_end hg hf hk hlow hr
          have hB := fun x hx' => no_between hg hf E.on (x := x) hx'
          have e : gwayE h ys from' tgt = ((gway h ys tgt r).2, (gway h ys tgt r).1, (gbes (grow h ys zV) (gway h ys tgt r).1.id).2.1, 0) := by unfold gwayE; rw [if_pos hg, ha]; simp only [if_pos hk, if_neg hlow]
          simp only [e] at h1
          obtain ⟨_, p1, p2, lv, p3⟩ := E
          generalize (gbes (grow h ys zV) (gway h ys tgt r).1.id).2.1 = B at *
          generalize gway h ys tgt r = W at *
          obtain ⟨A, H⟩ := W
          dsimp only at h1 p1 p2 p3 hB
          obtain ⟨q0, q1, q2, q3, q4⟩ := p3
          have hfrom : (nth H 0).at'.id = from' := by rw [q1]; exact hid
          focus
           refine zs <| yB rfl fun b6 => zc rfl <| yE rfl rfl (.of (.t1 .rf)) (hfw _) fun ⟨a3, c3⟩ _ => zw rfl rfl <| yE rfl rfl (.of .rf) h1 fun ⟨a23, c23⟩ _ => zc rfl <| zc rfl <| zc rfl <| zc rfl <| yN fun b10 => yN fun b11 => ?_
           refine zc rfl <| yW rfl rfl rfl rfl rfl <| yW rfl rfl rfl rfl rfl <| zy (.cneF rfl rfl (by decide)) <| yG rfl <| zf 0 rfl rfl <| yG rfl <| zl rfl rfl <| yG rfl <| zy (.ceqF rfl rfl (by omega)) <| zy (.pickF rfl rfl) <| zd ?_
           refine zq <| zu rfl <| zk <| zs <| zfw [_, _] rfl rfl rfl rfl <| zw rfl rfl <| yD rfl rfl (.of .rf) (r9Less_fn _ _ _) <| zc rfl <| yF rfl (by assumption) <| zf 1 rfl rfl <| yF rfl (by assumption) <| zy (.Lf rfl (Nat.le_of_ble_eq_true rfl)) ?_
           refine yF rfl (by assumption) <| zw rfl rfl <| yF rfl (by assumption) <| yD rfl rfl (.of .rf) (r9Less_fn _ _ _) <| zy (.pickFp rfl (by assumption) rfl) <| yF rfl (by assumption) <| zc rfl <| yF rfl (by assumption) <| zy (.ceqF rfl rfl (by omega)) <| zy (.pickFp rfl (by assumption) rfl) <| yG rfl <| zy (.iC rfl rfl (by omega)) ?_
           refine yG rfl <| zy (.fe2 1 rfl rfl) <| yG rfl <| zy (.fe2 1 rfl rfl) <| yG rfl ?_
          dsimp only
          refine JT.fact (fun w hs => hs.lenF (xs := H) (by (repeat (first | exact Has.here | assumption | apply Has.there)))) (fun hHl => ?_)
          refine zy (Ev.ldE1 (enc := hopC) (sz := 6) (k := 0) (o := 1) (v := i64 (nth H 0).at'.id) rfl (by (repeat (first | exact Has.here | assumption | apply Has.there))) (by omega) rfl (by decide)) ?_
          focus
           refine yG rfl <| zy (.cneF rfl rfl (by omega)) <| zy (.pickF rfl rfl) <| yG rfl <| zc rfl <| yG rfl <| zy (.subN rfl rfl (by omega) (by omega)) <| yG rfl <| zy (.iC rfl rfl (by omega)) <| yG rfl <| zy (.fe rfl) <| yG rfl ?_
           refine zy (.LEf rfl (by omega) (by decide)) <| yG rfl <| zw rfl rfl <| yG rfl ?_
           refine zy (.neTf rfl rfl (by assumption)) <| zy (.pickF rfl rfl) <| zd <| zq <| zu rfl <| zk <| zs <| zc rfl <| zd <| zq <| zb ?_
          refine J.slF (enc := refC) (xs := ys) (by (repeat (first | exact Has.here | assumption | apply Has.there))) (fun hyc hyl _ => ?_)
          refine J.lp (ι := Nat) (fun i => i ≤ ys.length) (fun i => [(13, i64 (i : Int))]) (fun _ => pc b11 32 (refC B) :: pc b10 32 (refC A) :: SlT true hopC 6 (.slice a23 H.length c23) c23 H :: SlT false refC 5 (.slice a3 ys.length c3) c3 ys :: SlT false refC 5 (.slice a1 xs.length c1) c1 xs :: pc b6 25 (keyC tgt) :: F) (fun i => ys.length - i) 0 (by omega) (by exact subxR rfl) (.of (.t0 (.t0 (.t0 (.t0 (.t0 (.t0 .rf))))))) (fun i hi => ?_)
          by_cases hil : i < ys.length
          · have hBi := hB (nth ys i) (by rw [nth_eq hil]; exact List.getElem_mem hil)
            by_cases hc : keyLt A.key (nth ys i).key
            · have hc2 := hBi hc
              focus
               refine zs <| zc rfl <| zy (.cltT rfl rfl (by omega)) <| zd <| zq <| zt rfl <| zk <| zq <| zb <| zs <| zfw [_, _] rfl rfl rfl rfl <| zy (.iC rfl rfl (by omega)) ?_
               refine zy (.fe rfl) <| zy (.LEf rfl (by omega) (by decide)) <| yD rfl rfl (.of .rf) (r9Less_fn _ _ _) <| yT rfl (by assumption) <| zy (.iC rfl rfl (by omega)) <| yT rfl (by assumption) <| zy (.fe rfl) <| yT rfl (by assumption) <| zy (.LEf rfl (by omega) (by decide)) <| yT rfl (by assumption) <| zf 1 rfl rfl <| yT rfl (by assumption) ?_
               refine zy (.Lf rfl (Nat.le_of_ble_eq_true rfl)) <| yT rfl (by assumption) <| yD rfl rfl (.of .rf) (r9Less_fn _ _ _) <| zy (.pickTp rfl (by assumption) rfl) <| zd <| zi rfl (fun h2 => ?_) (fun h2 => ?_)
               contradiction
               refine zk <| zo <| zy (.addN rfl rfl (by omega)) <| zd <| ⟨_, ?_, (by omega), (subxR rfl), (.of (.t0 (.t0 (.t0 (.t0 (.t0 (.t0 .rf)))))))⟩
               omega
            · focus
               refine zs <| zc rfl <| zy (.cltT rfl rfl (by omega)) <| zd <| zq <| zt rfl <| zk <| zq <| zb <| zs <| zfw [_, _] rfl rfl rfl rfl <| zy (.iC rfl rfl (by omega)) ?_
               refine zy (.fe rfl) <| zy (.LEf rfl (by omega) (by decide)) <| yD rfl rfl (.of .rf) (r9Less_fn _ _ _) <| yTs rfl (by assumption) <| yTs rfl (by assumption) <| yTs rfl (by assumption) <| yTs rfl (by assumption) <| yTs rfl (by assumption) <| yTs rfl (by assumption) <| zy (.pickFp rfl (by assumption) rfl) <| zd <| zu rfl ?_
               refine zk <| zo <| zy (.addN rfl rfl (by omega)) <| zd <| ⟨_, ?_, (by omega), (subxR rfl), (.of (.t0 (.t0 (.t0 (.t0 (.t0 (.t0 .rf)))))))⟩
               omega
          · by_cases hlt : keyLt r.key tgt
            · simp only [hlt, not_true, decide_false, Bool.false_eq_true, if_false] at q4
              have hd : decide (keyLt (nth H 0).at'.key tgt) = true := by rw [q1]; simp [hlt]
              focus
               refine zs <| zc rfl <| zy (.cltF rfl rfl (by omega)) <| zd <| zq <| zu rfl <| zx <| zs <| zy (.iC rfl rfl (by omega)) <| zy (.fe2 1 rfl rfl) <| zy (.fe2 2 rfl rfl) ?_
              refine zy (Ev.ldEp (enc := hopC) (sz := 6) (k := 0) (o := 2) (us := keyC (nth H 0).at'.key) rfl (by (repeat (first | exact Has.here | assumption | apply Has.there))) (by omega) (by decide) rfl) ?_
              focus
               refine zw rfl rfl <| yD rfl rfl (.of .rf) (r9Less_fn _ _ _) <| zc rfl <| zc rfl <| zd <| zq <| zb ?_
              rw [hd]
              refine J.lp (ι := Nat) (fun i => 1 ≤ i ∧ i ≤ H.length) (fun i => [(15, i64 (i : Int))]) (fun _ => pc b11 32 (refC B) :: pc b10 32 (refC A) :: SlT true hopC 6 (.slice a23 H.length c23) c23 H :: SlT false refC 5 (.slice a3 ys.length c3) c3 ys :: SlT false refC 5 (.slice a1 xs.length c1) c1 xs :: pc b6 25 (keyC tgt) :: F) (fun i => H.length - i) 1 ⟨by omega, by omega⟩ (by exact subxR rfl) (.of (.t0 (.t0 (.t0 (.t0 (.t0 (.t0 .rf))))))) (fun i hi => ?_)
              obtain ⟨hi1, hi2⟩ := hi
              by_cases hil2 : i < H.length
              · obtain ⟨s1, s2⟩ := q4 i (by omega) hil2
                have s3 := keyLt_asymm s2
                focus
                 refine zs <| zc rfl <| zy (.cltT rfl rfl (by omega)) <| zd <| zq <| zt rfl <| zk <| zq <| zb <| zs <| zy (.iC rfl rfl (by omega)) <| zy (.fe rfl) ?_
                 refine zy (.LE0 rfl (by omega) rfl) <| zy (.subN rfl rfl (by omega) (by omega)) <| zy (.iC rfl rfl (by omega)) <| zy (.fe rfl) <| zy (.LE0 rfl (by omega) rfl) <| zy (.cgtF rfl rfl (by omega)) <| yG rfl <| zy (.iC rfl rfl (by omega)) <| yG rfl <| zy (.fe rfl) <| yG rfl <| zy (.fe2 2 rfl rfl) ?_
                 refine yG rfl <| zy (.LEp (us := [_, _]) rfl (by omega) (by decide) rfl) <| yG rfl <| zy (.subN rfl rfl (by omega) (by omega)) <| yG rfl <| zy (.iC rfl rfl (by omega)) <| yG rfl <| zy (.fe rfl) <| yG rfl <| zy (.fe2 2 rfl rfl) <| yG rfl <| zy (.LEp (us := [_, _]) rfl (by omega) (by decide) rfl) ?_
                 refine yG rfl <| yD rfl rfl (.of .rf) (r9Less_fn _ _ _) <| yG rfl <| zc rfl <| zy (.pickF rfl rfl) <| zd <| zi rfl (fun h2 => ?_) (fun h2 => ?_)
                 refine zs <| zc rfl <| zd <| zr <| yR (.t rfl .nil) ?_ (.of (.t4 (.d (.d (.d (.d (.d .rf)))))))
                 rotate_left
                 refine zk <| zo <| zy (.addN rfl rfl (by omega)) <| zd <| ⟨_, ?_, (by omega), (subxR rfl), (.of (.t0 (.t0 (.t0 (.t0 (.t0 (.t0 .rf)))))))⟩
                 omega
                exfalso; revert h2; simp [s3]
              · focus
                 refine zs <| zc rfl <| zy (.cltF rfl rfl (by omega)) <| zd <| zq <| zu rfl <| zx <| zs <| yD rfl rfl (.of .rf) (l11alive_fn _) <| zd <| zr <| yR (.t rfl .nil) rfl (.of (.t4 (.d (.d (.d (.d (.d .rf)))))))
            · simp only [hlt, not_false_eq_true, decide_true, if_true] at q4
              have hd : decide (keyLt (nth H 0).at'.key tgt) = false := by rw [q1]; simp [hlt]
              focus
               refine zs <| zc rfl <| zy (.cltF rfl rfl (by omega)) <| zd <| zq <| zu rfl <| zx <| zs <| zy (.iC rfl rfl (by omega)) <| zy (.fe2 1 rfl rfl) <| zy (.fe2 2 rfl rfl) ?_
              refine zy (Ev.ldEp (enc := hopC) (sz := 6) (k := 0) (o := 2) (us := keyC (nth H 0).at'.key) rfl (by (repeat (first | exact Has.here | assumption | apply Has.there))) (by omega) (by decide) rfl) ?_
              focus
               refine zw rfl rfl <| yD rfl rfl (.of .rf) (r9Less_fn _ _ _) <| zc rfl <| zc rfl <| zd <| zq <| zb ?_
              rw [hd]
              refine J.lp (ι := Nat) (fun i => 1 ≤ i ∧ i ≤ H.length) (fun i => [(15, i64 (i : Int))]) (fun _ => pc b11 32 (refC B) :: pc b10 32 (refC A) :: SlT true hopC 6 (.slice a23 H.length c23) c23 H :: SlT false refC 5 (.slice a3 ys.length c3) c3 ys :: SlT false refC 5 (.slice a1 xs.length c1) c1 xs :: pc b6 25 (keyC tgt) :: F) (fun i => H.length - i) 1 ⟨by omega, by omega⟩ (by exact subxR rfl) (.of (.t0 (.t0 (.t0 (.t0 (.t0 (.t0 .rf))))))) (fun i hi => ?_)
              obtain ⟨hi1, hi2⟩ := hi
              by_cases hil2 : i < H.length
              · obtain ⟨s1, s2⟩ := q4 i (by omega) hil2
                have s3 := s2
                focus
                 refine zs <| zc rfl <| zy (.cltT rfl rfl (by omega)) <| zd <| zq <| zt rfl <| zk <| zq <| zb <| zs <| zy (.iC rfl rfl (by omega)) <| zy (.fe rfl) ?_
                 refine zy (.LE0 rfl (by omega) rfl) <| zy (.subN rfl rfl (by omega) (by omega)) <| zy (.iC rfl rfl (by omega)) <| zy (.fe rfl) <| zy (.LE0 rfl (by omega) rfl) <| zy (.cgtF rfl rfl (by omega)) <| yG rfl <| zy (.iC rfl rfl (by omega)) <| yG rfl <| zy (.fe rfl) <| yG rfl <| zy (.fe2 2 rfl rfl) ?_
                 refine yG rfl <| zy (.LEp (us := [_, _]) rfl (by omega) (by decide) rfl) <| yG rfl <| zy (.subN rfl rfl (by omega) (by omega)) <| yG rfl <| zy (.iC rfl rfl (by omega)) <| yG rfl <| zy (.fe rfl) <| yG rfl <| zy (.fe2 2 rfl rfl) <| yG rfl <| zy (.LEp (us := [_, _]) rfl (by omega) (by decide) rfl) ?_
                 refine yG rfl <| yD rfl rfl (.of .rf) (r9Less_fn _ _ _) <| yG rfl <| zc rfl <| zy (.pickF rfl rfl) <| zd <| zi rfl (fun h2 => ?_) (fun h2 => ?_)
                 refine zs <| zc rfl <| zd <| zr <| yR (.t rfl .nil) ?_ (.of (.t4 (.d (.d (.d (.d (.d .rf)))))))
                 rotate_left
                 refine zk <| zo <| zy (.addN rfl rfl (by omega)) <| zd <| ⟨_, ?_, (by omega), (subxR rfl), (.of (.t0 (.t0 (.t0 (.t0 (.t0 (.t0 .rf)))))))⟩
                 omega
                exfalso; revert h2; simp [s3]
              · focus
                 refine zs <| zc rfl <| zy (.cltF rfl rfl (by omega)) <| zd <| zq <| zu rfl <| zx <| zs <| yD rfl rfl (.of .rf) (l11alive_fn _) <| zd <| zr <| yR (.t rfl .nil) rfl (.of (.t4 (.d (.d (.d (.d (.d .rf)))))))
      · have h1 := fun {a : Option Addr} {c : Nat} {F : List Assn} [HS F (.slice a ys.length c) SL.Ref refC 5 c ys] => gWay_key h from' tgt (a1 := a) (c1 := c) (xs := ys) (F := F) hg hf ha hk
        focus
         refine zs <| yB rfl fun b6 => zc rfl <| yE rfl rfl (.of (.t1 .rf)) (hfw _) fun ⟨a3, c3⟩ _ => zw rfl rfl <| yD rfl rfl (.of .rf) h1 <| zc rfl <| zc rfl <| zc rfl <| zc rfl <| yN fun b10 => yN fun b11 => ?_
         refine zc rfl <| yW rfl rfl rfl rfl rfl <| yW rfl rfl rfl rfl rfl <| zy (.cneT rfl rfl (by decide)) <| zv rfl rfl <| zv rfl rfl <| zv rfl rfl <| zy (.pickT rfl rfl) <| zd <| zq <| zt rfl <| zs ?_
         refine yD rfl rfl (.of .rf) (l11alive_fn _) <| zd <| zr <| yR (.t rfl .nil) rfl (.of (.t3 (.d (.d (.d (.d .rf))))))
  · have h1 := fun {a : Option Addr} {c : Nat} {F : List Assn} [HS F (.slice a ys.length c) SL.Ref refC 5 c ys] => gWay_bad h from' tgt (a1 := a) (c1 := c) (xs := ys) (F := F) hg
    focus
     refine zs <| yB rfl fun b6 => zc rfl <| yE rfl rfl (.of (.t1 .rf)) (hfw _) fun ⟨a3, c3⟩ _ => zw rfl rfl <| yD rfl rfl (.of .rf) h1 <| zc rfl <| zc rfl <| zc rfl <| zc rfl <| yN fun b10 => yN fun b11 => ?_
     refine zc rfl <| yW rfl rfl rfl rfl rfl <| yW rfl rfl rfl rfl rfl <| zy (.cneT rfl rfl (by decide)) <| zv rfl rfl <| zv rfl rfl <| zv rfl rfl <| zy (.pickT rfl rfl) <| zd <| zq <| zt rfl <| zs ?_
     refine yD rfl rfl (.of .rf) (l11alive_fn _) <| zd <| zr <| yR (.t rfl .nil) rfl (.of (.t3 (.d (.d (.d (.d .rf))))))
end Go.Proofs.Ytgcmglieciaifaa
