/- Layer 11: the way of a search: the functions. Conditions: none. -/
import Derived.Test.YtgcmglieciaifaaGi
import Derived.Test.YtgcmglieciaifaaVc
set_option linter.unusedSimpArgs false
set_option linter.unusedVariables false
set_option maxRecDepth 100000
set_option maxHeartbeats 4000000
namespace Go.SL
open Go
def hopC (x : HopE) : List Value := [i64 x.level, i64 x.at'.id, i64 x.at'.key.rank, u64 x.at'.key.n, i64 x.at'.vec.len, u64 x.at'.vec.bits]
theorem hopC_one : ∀ o : HopE, (hopC o).length = 6 ∧ ∀ v ∈ hopC o, isOne v = true := by intro o; simp [hopC, isOne]
instance : FS hopC 1 5 refC HopE.at' := ⟨fun _ => rfl⟩
def wkC (g : Nat) (on : Ref) (lv : Int) (a : Option Addr) (n c : Nat) : List Value := [ptr g, i64 on.id, i64 on.key.rank, u64 on.key.n, i64 on.vec.len, u64 on.vec.bits, i64 lv, .slice a n c]
/-- A search under way, in memory. -/
def WkP (b g : Nat) (on : Ref) (lv : Int) (hops : List HopE) : Assn := ex fun x : Option Addr × Nat => sep [pc b 81 (wkC g on lv x.1 hops.length x.2), SlT true hopC 6 (.slice x.1 hops.length x.2) x.2 hops]
section
variable {P : Program} {n : Nat} {ρ : Env} {cs r r1 ds : List Assn} {cc : CC} {t : Tr} {K : Env → List Assn → Prop} {Q : Exit → Env → List Assn → Prop} {b g : Nat} {on : Ref} {lv : Int} {hops : List HopE} {a : Option Addr} {c : Nat}
theorem J.openWk (hh : Has cs (WkP b g on lv hops) r) (k : ∀ a c, J P n cc ρ (pc b 81 (wkC g on lv a hops.length c) :: SlT true hopC 6 (.slice a hops.length c) c hops :: r) Q) : J P n cc ρ cs Q := J.has hh (J.ex fun x => J.sep (k x.1 x.2))
theorem JT.openWk (hh : Has cs (WkP b g on lv hops) r) (k : ∀ a c, JT P t ρ (pc b 81 (wkC g on lv a hops.length c) :: SlT true hopC 6 (.slice a hops.length c) c hops :: r) K) : JT P t ρ cs K := JT.has hh (JT.ex fun x => JT.sep (k x.1 x.2))
theorem WkP.fold (h1 : Has cs (pc b 81 (wkC g on lv a hops.length c)) r) (h2 : Has r (SlT true hopC 6 (.slice a hops.length c) c hops) r1) (h3 : Imp r1 ds) : Imp cs (WkP b g on lv hops :: ds) :=
  Imp.trans (Imp.take h1 (Imp.take h2 (Imp.trans h3 (Imp.refl _)))) (Imp.trans (Imp.sep_in (cs := [_, _])) (Imp.ex_in (A := fun x : Option Addr × Nat => sep [pc b 81 (wkC g on lv x.1 hops.length x.2), SlT true hopC 6 (.slice x.1 hops.length x.2) x.2 hops]) (a, c)))
end
end Go.SL
namespace Go.Proofs.Ytgcmglieciaifaa
open Go Go.SL
attribute [local irreducible] pc rc SlT Me Mt It pt ro pur ex sep old Meets
attribute [local irreducible] RowsA BysP GP WkP
instance : TE 51 HopE hopC 6 := ⟨hopC_one, by decide⟩
theorem gStep_fn (b g : Nat) (on : SL.Ref) (lv : Int) (hops : List HopE) (r : SL.Ref) (F : List Assn) (hl : hops.length ≤ 100000) : Meets Try.prog 35 [ptr b, rv r] (WkP b g on lv hops :: F) (Det (.tuple #[]) (WkP b g r lv (hops ++ [⟨lv, r⟩]) :: F)) := by
  refine Meets.intro b35 k35 (by simp) ?_
  refine J.openWk Has.here (fun ha hc => ?_)
  unfold wkC
  focus
   refine zo <| yB rfl fun b3 => zw rfl rfl <| zf 1 rfl rfl <| yS (us := [_, _, _, _, _]) rfl rfl rfl rfl rfl (Nat.le_of_ble_eq_true rfl) (by simp only [lput]; rfl) <| zfl rfl rfl rfl <| zfl rfl rfl rfl <| zw rfl rfl <| zg rfl <| JT.bsl1 (by repeat (first | exact Cells.nil | apply Cells.z | (apply Cells.cl; rfl; rfl; rfl))) (by simp only [List.length_cons, List.length_nil, Nat.reduceAdd]; rfl) (by decide) (by rfl) fun a19 => ?_
  refine JT.A1 (v := (⟨lv, r⟩ : HopE)) rfl rfl rfl rfl (by decide) (by omega) (fun a4 c4 hc4 => ?_)
  focus
   refine zf 7 rfl rfl <| yS (us := [_]) rfl rfl rfl rfl rfl (Nat.le_of_ble_eq_true rfl) (by simp only [lput]; rfl) <| zd ?_
  exact retQD .nil rfl (Up.of (WkP.fold (a := a4) (c := c4) (by (repeat (first | exact Has.here | assumption | apply Has.there))) (by (repeat (first | exact Has.here | assumption | apply Has.there))) (by (repeat (first | exact Imp.refl _ | (apply Imp.take; (· (repeat (first | exact Has.here | assumption | apply Has.there)))) | fail | apply Imp.dropT | exact Imp.nil _)))))
theorem gSides_fn (b g : Nat) (h : Int) (xs : List SL.Ref) (m : GB) (on : SL.Ref) (lv : Int) (hops : List HopE) (F : List Assn) (hm : ∀ w, (alk m w).getD [] = gmem xs w) (hl : xs.length ≤ 1022) (hv : vecOk on.vec) (h0 : 0 ≤ lv) (h1 : lv ≤ on.vec.len) :
    Meets Try.prog 64 [ptr b] (WkP b g on lv hops :: GP g h m :: F) (Det (.tuple #[rv (gnext h xs true on lv), rv (gnext h xs false on lv)]) (WkP b g on lv hops :: GP g h m :: F)) := by
  refine Meets.intro b64 k64 (by simp) ?_
  have hP := fun F => vPrefix_fn on.vec lv F hv h0 h1
  have hB := fun F => gBes_fn g h m (vpre on.vec lv) on.id F (by rw [hm]; exact Nat.le_trans (gmem_len _ _) hl)
  simp only [hm] at hB
  unfold gnext grow
  simp only [if_true, Bool.false_eq_true, if_false]
  refine J.openWk Has.here (fun ha hc => ?_)
  unfold wkC
  focus
   refine zs <| yN fun b2 => yN fun b3 => zf 1 rfl rfl <| zfw [_, _] rfl rfl rfl rfl <| zfl rfl rfl rfl <| JT.both ?_ ?_
   refine yD rfl rfl (.of .rf) (hP _) <| zc rfl <| zc rfl <| yN fun b4 => yW rfl rfl rfl rfl rfl <| zd <| zs <| zfl rfl rfl rfl <| zw rfl rfl <| zf 1 rfl rfl <| zfl rfl rfl rfl <| JT.both ?_ ?_
   refine yD rfl rfl (.of (.t5 .rf)) (hB _) <| zc rfl <| zc rfl <| zc rfl <| JT.both ?_ ?_
   refine yN fun b6 => yN fun b7 => yW rfl rfl rfl rfl rfl <| yW rfl rfl rfl rfl rfl <| zd <| zs <| zw rfl rfl <| zw rfl rfl <| yW rfl rfl rfl rfl rfl <| JT.yA rfl (Ev.Lw rfl rfl) <| yW rfl rfl rfl rfl rfl <| zd ?_
   refine zr <| yR (.w rfl rfl (.w rfl rfl .nil)) rfl (.of (WkP.fold (.there (.there (.there (.there (.there (.there .here)))))) (.there (.there (.there (.there (.there (.there .here)))))) (.t4 (.d (.d (.d (.d (.d .rf))))))))
   refine yN fun b7 => yN fun b6 => yW rfl rfl rfl rfl rfl <| yW rfl rfl rfl rfl rfl <| zd <| zs <| zw rfl rfl <| zw rfl rfl <| yW rfl rfl rfl rfl rfl <| JT.yA rfl (Ev.Lw rfl rfl) <| yW rfl rfl rfl rfl rfl <| zd ?_
   refine zr <| yR (.w rfl rfl (.w rfl rfl .nil)) rfl (.of (WkP.fold (.there (.there (.there (.there (.there (.there .here)))))) (.there (.there (.there (.there (.there (.there .here)))))) (.t4 (.d (.d (.d (.d (.d .rf))))))))
   refine JT.both ?_ ?_
   refine yN fun b6 => JT.both ?_ ?_
   refine yD rfl rfl (.of (.t6 .rf)) (hB _) <| zc rfl <| zc rfl <| zc rfl <| yN fun b7 => yW rfl rfl rfl rfl rfl <| yW rfl rfl rfl rfl rfl <| zd <| zs <| zw rfl rfl <| zw rfl rfl <| yW rfl rfl rfl rfl rfl ?_
   refine JT.yA rfl (Ev.Lw rfl rfl) <| yW rfl rfl rfl rfl rfl <| zd <| zr <| yR (.w rfl rfl (.w rfl rfl .nil)) rfl (.of (WkP.fold (.there (.there (.there (.there (.there (.there .here)))))) (.there (.there (.there (.there (.there (.there .here)))))) (.t4 (.d (.d (.d (.d (.d .rf))))))))
   refine yN fun b7 => yD rfl rfl (.of (.tk (.there (.there (.there (.there (.there (.there (.there .here))))))) .rf)) (hB _) <| zc rfl <| zc rfl <| zc rfl <| yW rfl rfl rfl rfl rfl <| yW rfl rfl rfl rfl rfl <| zd <| zs <| zw rfl rfl <| zw rfl rfl <| yW rfl rfl rfl rfl rfl ?_
   refine JT.yA rfl (Ev.Lw rfl rfl) <| yW rfl rfl rfl rfl rfl <| zd <| zr <| yR (.w rfl rfl (.w rfl rfl .nil)) rfl (.of (WkP.fold (.there (.there (.there (.there (.there (.there .here)))))) (.there (.there (.there (.there (.there (.there .here)))))) (.t4 (.d (.d (.d (.d (.d .rf))))))))
   refine yN fun b7 => JT.both ?_ ?_
   refine yD rfl rfl (.of (.t6 .rf)) (hB _) <| zc rfl <| zc rfl <| zc rfl <| yN fun b6 => yW rfl rfl rfl rfl rfl <| yW rfl rfl rfl rfl rfl <| zd <| zs <| zw rfl rfl <| zw rfl rfl <| yW rfl rfl rfl rfl rfl ?_
   refine JT.yA rfl (Ev.Lw rfl rfl) <| yW rfl rfl rfl rfl rfl <| zd <| zr <| yR (.w rfl rfl (.w rfl rfl .nil)) rfl (.of (WkP.fold (.there (.there (.there (.there (.there (.there .here)))))) (.there (.there (.there (.there (.there (.there .here)))))) (.t4 (.d (.d (.d (.d (.d .rf))))))))
   refine yN fun b6 => yD rfl rfl (.of (.tk (.there (.there (.there (.there (.there (.there (.there .here))))))) .rf)) (hB _) <| zc rfl <| zc rfl <| zc rfl <| yW rfl rfl rfl rfl rfl <| yW rfl rfl rfl rfl rfl <| zd <| zs <| zw rfl rfl <| zw rfl rfl <| yW rfl rfl rfl rfl rfl ?_
   refine JT.yA rfl (Ev.Lw rfl rfl) <| yW rfl rfl rfl rfl rfl <| zd <| zr <| yR (.w rfl rfl (.w rfl rfl .nil)) rfl (.of (WkP.fold (.there (.there (.there (.there (.there (.there .here)))))) (.there (.there (.there (.there (.there (.there .here)))))) (.t4 (.d (.d (.d (.d (.d .rf))))))))
   refine yN fun b4 => yD rfl rfl (.of .rf) (hP _) <| zc rfl <| zc rfl <| yW rfl rfl rfl rfl rfl <| zd <| zs <| zfl rfl rfl rfl <| zw rfl rfl <| zf 1 rfl rfl <| zfl rfl rfl rfl <| JT.both ?_ ?_
   refine yD rfl rfl (.of (.t5 .rf)) (hB _) <| zc rfl <| zc rfl <| zc rfl <| JT.both ?_ ?_
   refine yN fun b6 => yN fun b7 => yW rfl rfl rfl rfl rfl <| yW rfl rfl rfl rfl rfl <| zd <| zs <| zw rfl rfl <| zw rfl rfl <| yW rfl rfl rfl rfl rfl <| JT.yA rfl (Ev.Lw rfl rfl) <| yW rfl rfl rfl rfl rfl <| zd ?_
   refine zr <| yR (.w rfl rfl (.w rfl rfl .nil)) rfl (.of (WkP.fold (.there (.there (.there (.there (.there (.there .here)))))) (.there (.there (.there (.there (.there (.there .here)))))) (.t4 (.d (.d (.d (.d (.d .rf))))))))
   refine yN fun b7 => yN fun b6 => yW rfl rfl rfl rfl rfl <| yW rfl rfl rfl rfl rfl <| zd <| zs <| zw rfl rfl <| zw rfl rfl <| yW rfl rfl rfl rfl rfl <| JT.yA rfl (Ev.Lw rfl rfl) <| yW rfl rfl rfl rfl rfl <| zd ?_
   refine zr <| yR (.w rfl rfl (.w rfl rfl .nil)) rfl (.of (WkP.fold (.there (.there (.there (.there (.there (.there .here)))))) (.there (.there (.there (.there (.there (.there .here)))))) (.t4 (.d (.d (.d (.d (.d .rf))))))))
   refine JT.both ?_ ?_
   refine yN fun b6 => JT.both ?_ ?_
   refine yD rfl rfl (.of (.t6 .rf)) (hB _) <| zc rfl <| zc rfl <| zc rfl <| yN fun b7 => yW rfl rfl rfl rfl rfl <| yW rfl rfl rfl rfl rfl <| zd <| zs <| zw rfl rfl <| zw rfl rfl <| yW rfl rfl rfl rfl rfl ?_
   refine JT.yA rfl (Ev.Lw rfl rfl) <| yW rfl rfl rfl rfl rfl <| zd <| zr <| yR (.w rfl rfl (.w rfl rfl .nil)) rfl (.of (WkP.fold (.there (.there (.there (.there (.there (.there .here)))))) (.there (.there (.there (.there (.there (.there .here)))))) (.t4 (.d (.d (.d (.d (.d .rf))))))))
   refine yN fun b7 => yD rfl rfl (.of (.tk (.there (.there (.there (.there (.there (.there (.there .here))))))) .rf)) (hB _) <| zc rfl <| zc rfl <| zc rfl <| yW rfl rfl rfl rfl rfl <| yW rfl rfl rfl rfl rfl <| zd <| zs <| zw rfl rfl <| zw rfl rfl <| yW rfl rfl rfl rfl rfl ?_
   refine JT.yA rfl (Ev.Lw rfl rfl) <| yW rfl rfl rfl rfl rfl <| zd <| zr <| yR (.w rfl rfl (.w rfl rfl .nil)) rfl (.of (WkP.fold (.there (.there (.there (.there (.there (.there .here)))))) (.there (.there (.there (.there (.there (.there .here)))))) (.t4 (.d (.d (.d (.d (.d .rf))))))))
   refine yN fun b7 => JT.both ?_ ?_
   refine yD rfl rfl (.of (.t6 .rf)) (hB _) <| zc rfl <| zc rfl <| zc rfl <| yN fun b6 => yW rfl rfl rfl rfl rfl <| yW rfl rfl rfl rfl rfl <| zd <| zs <| zw rfl rfl <| zw rfl rfl <| yW rfl rfl rfl rfl rfl ?_
   refine JT.yA rfl (Ev.Lw rfl rfl) <| yW rfl rfl rfl rfl rfl <| zd <| zr <| yR (.w rfl rfl (.w rfl rfl .nil)) rfl (.of (WkP.fold (.there (.there (.there (.there (.there (.there .here)))))) (.there (.there (.there (.there (.there (.there .here)))))) (.t4 (.d (.d (.d (.d (.d .rf))))))))
   refine yN fun b6 => yD rfl rfl (.of (.tk (.there (.there (.there (.there (.there (.there (.there .here))))))) .rf)) (hB _) <| zc rfl <| zc rfl <| zc rfl <| yW rfl rfl rfl rfl rfl <| yW rfl rfl rfl rfl rfl <| zd <| zs <| zw rfl rfl <| zw rfl rfl <| yW rfl rfl rfl rfl rfl ?_
   refine JT.yA rfl (Ev.Lw rfl rfl) <| yW rfl rfl rfl rfl rfl <| zd <| zr <| yR (.w rfl rfl (.w rfl rfl .nil)) rfl (.of (WkP.fold (.there (.there (.there (.there (.there (.there .here)))))) (.there (.there (.there (.there (.there (.there .here)))))) (.t4 (.d (.d (.d (.d (.d .rf))))))))
theorem gRight_fn (b g : Nat) (h : Int) (xs : List SL.Ref) (m : GB) (tgt : SL.Key) (on : SL.Ref) (hops : List HopE) (F : List Assn) (hm : ∀ w, (alk m w).getD [] = gmem xs w) (hg : grOk h xs) (hb : ∀ r ∈ xs, 0 ≤ r.vec.bits) (hk : keyOk tgt) (hr : tgt.rank ≠ 1) (f : Nat)
    (hs : gSt h xs false tgt h on) (hf : gfuel h xs false h on < f) (hl : hops.length + f ≤ 50000) :
    Meets Try.prog 37 [ptr b, kv tgt] (WkP b g on h hops :: GP g h m :: F) (Det (.tuple #[]) (WkP b g (gwalk h xs false tgt f h on hops).1 0 (gwalk h xs false tgt f h on hops).2 :: GP g h m :: F)) := by
  refine Meets.intro b37 k37 (by simp) ?_
  focus
   refine zs <| yB rfl fun b3 => zd <| zb ?_
  refine J.lp (ι := Int × SL.Ref × List HopE) (fun i => gSt h xs false tgt i.1 i.2.1 ∧ ∃ f', gfuel h xs false i.1 i.2.1 < f' ∧ i.2.2.length + f' ≤ 50000 ∧ gwalk h xs false tgt f' i.1 i.2.1 i.2.2 = gwalk h xs false tgt f h on hops) (fun i => [])
    (fun i => WkP b g i.2.1 i.1 i.2.2 :: GP g h m :: pc b3 25 (keyC tgt) :: F) (fun i => gfuel h xs false i.1 i.2.1) (h, on, hops) ⟨hs, f, hf, hl, rfl⟩ (by exact subxR rfl) (.of (.t1 (.t1 (.t0 .rf)))) (fun i hi => ?_)
  clear hs hf hl
  obtain ⟨lv, r, hp⟩ := i
  obtain ⟨hs, f', hf, hl, hw⟩ := hi
  dsimp only at hs hf hl hw ⊢
  obtain ⟨n1, n2⟩ := hs.next hg hb hk hr
  have hS := fun F => gSides_fn b g h xs m r lv hp F hm hg.len hs.on.ok hs.l0 (by rw [hs.on.len]; exact hs.l1)
  have hf' := hf
  unfold gfuel at hf'
  have h00 := hs.l0
  have h01 := hs.l1
  have h02 := hg.h32
  obtain ⟨f'', rfl⟩ : ∃ k, f' = k + 1 := ⟨f' - 1, by omega⟩
  have hT := fun F => gStep_fn b g r lv hp (gnext h xs false r lv) F (by omega)
  by_cases hc : keyLt (gnext h xs false r lv).key tgt
  · have hd : decide (keyLt (gnext h xs false r lv).key tgt) ≠ false := by simp [hc]
    rw [gwalk_step hd] at hw
    have hs2 : gSt h xs false tgt lv (gnext h xs false r lv) := ⟨n1, h00, h01, hd⟩
    have hmu : gfuel h xs false lv (gnext h xs false r lv) < gfuel h xs false lv r := by unfold gfuel; omega
    generalize gnext h xs false r lv = nx at *
    focus
     refine zb <| zs <| yD rfl rfl (.of (.t0 (.t0 .rf))) (hS _) <| zc rfl <| zc rfl <| yN fun b4 => yN fun b5 => yW rfl rfl rfl rfl rfl <| yW rfl rfl rfl rfl rfl <| zd <| zb <| zs ?_
     refine zfw [_, _] rfl rfl rfl rfl <| zw rfl rfl <| yD rfl rfl (.of .rf) (kLess_fn _ _ _) <| zd <| zi rfl (fun h1 => ?_) (fun h1 => ?_)
     refine zo <| zw rfl rfl <| yD rfl rfl (.of (.t2 .rf)) (hT _) <| zd <| ⟨⟨_, ⟨_, _⟩⟩, ?_, (by omega), (subxR rfl), (.of (.t0 (.t2 (.t2 (.d (.d .rf))))))⟩
     rotate_left
     contradiction
    exact ⟨hs2, f'', by dsimp only; omega, by simp only [List.length_append, List.length_cons, List.length_nil]; omega, hw⟩
  · have hd : ¬ decide (keyLt (gnext h xs false r lv).key tgt) ≠ false := by simp [hc]
    by_cases hl0 : 0 < lv
    · rw [gwalk_down hd hl0] at hw
      have hs2 : gSt h xs false tgt (lv - 1) r := ⟨hs.on, by omega, by omega, hs.side⟩
      have hmu : gfuel h xs false (lv - 1) r < gfuel h xs false lv r := by unfold gfuel; omega
      generalize gnext h xs false r lv = nx at *
      focus
       refine zb <| zs <| yD rfl rfl (.of (.t0 (.t0 .rf))) (hS _) <| zc rfl <| zc rfl <| yN fun b4 => yN fun b5 => yW rfl rfl rfl rfl rfl <| yW rfl rfl rfl rfl rfl <| zd <| zb <| zs ?_
       refine zfw [_, _] rfl rfl rfl rfl <| zw rfl rfl <| yD rfl rfl (.of .rf) (kLess_fn _ _ _) <| zd <| zi rfl (fun h1 => ?_) (fun h1 => ?_)
       contradiction
       refine zs <| zf 6 rfl rfl ?_
      refine JT.openWk (by (repeat (first | exact Has.here | assumption | apply Has.there))) (fun ha hc' => ?_)
      unfold wkC
      focus
       refine zl rfl rfl <| zy (.cgtT rfl rfl (by omega)) <| zd <| zt rfl <| zo <| zfl rfl rfl rfl <| zy (.sub rfl rfl (Wr.i64 (by omega) (by omega))) <| zf 6 rfl rfl <| yS (us := [_]) rfl rfl rfl rfl rfl (Nat.le_of_ble_eq_true rfl) (by simp only [lput]; rfl) <| zd <| ⟨⟨_, ⟨_, _⟩⟩, ?_, (by omega), (subxR rfl), (.of (WkP.fold .here .here (.t2 (.t2 (.d (.d .rf))))))⟩
      exact ⟨hs2, f'', by dsimp only; omega, by dsimp only; omega, hw⟩
    · rw [gwalk_end hd hl0] at hw
      obtain rfl : lv = 0 := by omega
      rw [← hw]
      generalize gnext h xs false r 0 = nx at *
      focus
       refine zb <| zs <| yD rfl rfl (.of (.t0 (.t0 .rf))) (hS _) <| zc rfl <| zc rfl <| yN fun b4 => yN fun b5 => yW rfl rfl rfl rfl rfl <| yW rfl rfl rfl rfl rfl <| zd <| zb <| zs ?_
       refine zfw [_, _] rfl rfl rfl rfl <| zw rfl rfl <| yD rfl rfl (.of .rf) (kLess_fn _ _ _) <| zd <| zi rfl (fun h1 => ?_) (fun h1 => ?_)
       contradiction
       refine zs <| zf 6 rfl rfl ?_
      refine JT.openWk (by (repeat (first | exact Has.here | assumption | apply Has.there))) (fun ha hc' => ?_)
      unfold wkC
      focus
       refine zl rfl rfl <| zy (.cgtF rfl rfl (by decide)) <| zd <| zu rfl <| zr <| yR .nil rfl (.of (WkP.fold .here .here (.t2 (.d (.d (.d .rf))))))
theorem gLeft_fn (b g : Nat) (h : Int) (xs : List SL.Ref) (m : GB) (tgt : SL.Key) (on : SL.Ref) (hops : List HopE) (F : List Assn) (hm : ∀ w, (alk m w).getD [] = gmem xs w) (hg : grOk h xs) (hb : ∀ r ∈ xs, 0 ≤ r.vec.bits) (hk : keyOk tgt) (hr : tgt.rank ≠ 1) (f : Nat)
    (hs : gSt h xs true tgt h on) (hf : gfuel h xs true h on < f) (hl : hops.length + f ≤ 50000) :
    Meets Try.prog 38 [ptr b, kv tgt] (WkP b g on h hops :: GP g h m :: F) (Det (.tuple #[]) (WkP b g (gwalk h xs true tgt f h on hops).1 0 (gwalk h xs true tgt f h on hops).2 :: GP g h m :: F)) := by
  refine Meets.intro b38 k38 (by simp) ?_
  focus
   refine zs <| yB rfl fun b3 => zd <| zb ?_
  refine J.lp (ι := Int × SL.Ref × List HopE) (fun i => gSt h xs true tgt i.1 i.2.1 ∧ ∃ f', gfuel h xs true i.1 i.2.1 < f' ∧ i.2.2.length + f' ≤ 50000 ∧ gwalk h xs true tgt f' i.1 i.2.1 i.2.2 = gwalk h xs true tgt f h on hops) (fun i => [])
    (fun i => WkP b g i.2.1 i.1 i.2.2 :: GP g h m :: pc b3 25 (keyC tgt) :: F) (fun i => gfuel h xs true i.1 i.2.1) (h, on, hops) ⟨hs, f, hf, hl, rfl⟩ (by exact subxR rfl) (.of (.t1 (.t1 (.t0 .rf)))) (fun i hi => ?_)
  clear hs hf hl
  obtain ⟨lv, r, hp⟩ := i
  obtain ⟨hs, f', hf, hl, hw⟩ := hi
  dsimp only at hs hf hl hw ⊢
  obtain ⟨n1, n2⟩ := hs.next hg hb hk hr
  have hS := fun F => gSides_fn b g h xs m r lv hp F hm hg.len hs.on.ok hs.l0 (by rw [hs.on.len]; exact hs.l1)
  have hf' := hf
  unfold gfuel at hf'
  have h00 := hs.l0
  have h01 := hs.l1
  have h02 := hg.h32
  obtain ⟨f'', rfl⟩ : ∃ k, f' = k + 1 := ⟨f' - 1, by omega⟩
  have hT := fun F => gStep_fn b g r lv hp (gnext h xs true r lv) F (by omega)
  by_cases hc : keyLt (gnext h xs true r lv).key tgt
  · have hd : ¬ decide (keyLt (gnext h xs true r lv).key tgt) ≠ true := by simp [hc]
    by_cases hl0 : 0 < lv
    · rw [gwalk_down hd hl0] at hw
      have hs2 : gSt h xs true tgt (lv - 1) r := ⟨hs.on, by omega, by omega, hs.side⟩
      have hmu : gfuel h xs true (lv - 1) r < gfuel h xs true lv r := by unfold gfuel; omega
      generalize gnext h xs true r lv = nx at *
      focus
       refine zb <| zs <| yD rfl rfl (.of (.t0 (.t0 .rf))) (hS _) <| zc rfl <| zc rfl <| yN fun b4 => yN fun b5 => yW rfl rfl rfl rfl rfl <| yW rfl rfl rfl rfl rfl <| zd <| zb <| zs ?_
       refine zfw [_, _] rfl rfl rfl rfl <| zw rfl rfl <| yD rfl rfl (.of .rf) (kLess_fn _ _ _) <| zc rfl <| zd <| zi rfl (fun h1 => ?_) (fun h1 => ?_)
       contradiction
       refine zs <| zf 6 rfl rfl ?_
      refine JT.openWk (by (repeat (first | exact Has.here | assumption | apply Has.there))) (fun ha hc' => ?_)
      unfold wkC
      focus
       refine zl rfl rfl <| zy (.cgtT rfl rfl (by omega)) <| zd <| zt rfl <| zo <| zfl rfl rfl rfl <| zy (.sub rfl rfl (Wr.i64 (by omega) (by omega))) <| zf 6 rfl rfl <| yS (us := [_]) rfl rfl rfl rfl rfl (Nat.le_of_ble_eq_true rfl) (by simp only [lput]; rfl) <| zd <| ⟨⟨_, ⟨_, _⟩⟩, ?_, (by omega), (subxR rfl), (.of (WkP.fold .here .here (.t2 (.t2 (.d (.d .rf))))))⟩
      exact ⟨hs2, f'', by dsimp only; omega, by dsimp only; omega, hw⟩
    · rw [gwalk_end hd hl0] at hw
      obtain rfl : lv = 0 := by omega
      rw [← hw]
      generalize gnext h xs true r 0 = nx at *
      focus
       refine zb <| zs <| yD rfl rfl (.of (.t0 (.t0 .rf))) (hS _) <| zc rfl <| zc rfl <| yN fun b4 => yN fun b5 => yW rfl rfl rfl rfl rfl <| yW rfl rfl rfl rfl rfl <| zd <| zb <| zs ?_
       refine zfw [_, _] rfl rfl rfl rfl <| zw rfl rfl <| yD rfl rfl (.of .rf) (kLess_fn _ _ _) <| zc rfl <| zd <| zi rfl (fun h1 => ?_) (fun h1 => ?_)
       contradiction
       refine zs <| zf 6 rfl rfl ?_
      refine JT.openWk (by (repeat (first | exact Has.here | assumption | apply Has.there))) (fun ha hc' => ?_)
      unfold wkC
      focus
       refine zl rfl rfl <| zy (.cgtF rfl rfl (by decide)) <| zd <| zu rfl <| zs <| zw rfl rfl <| yD rfl rfl (.of (WkP.fold .here .here .rf)) (hT _) <| zd <| zr <| yR .nil rfl (.of (.t0 (.t2 (.d (.d (.d .rf))))))
  · have hd : decide (keyLt (gnext h xs true r lv).key tgt) ≠ true := by simp [hc]
    rw [gwalk_step hd] at hw
    have hs2 : gSt h xs true tgt lv (gnext h xs true r lv) := ⟨n1, h00, h01, hd⟩
    have hmu : gfuel h xs true lv (gnext h xs true r lv) < gfuel h xs true lv r := by unfold gfuel; omega
    generalize gnext h xs true r lv = nx at *
    focus
     refine zb <| zs <| yD rfl rfl (.of (.t0 (.t0 .rf))) (hS _) <| zc rfl <| zc rfl <| yN fun b4 => yN fun b5 => yW rfl rfl rfl rfl rfl <| yW rfl rfl rfl rfl rfl <| zd <| zb <| zs ?_
     refine zfw [_, _] rfl rfl rfl rfl <| zw rfl rfl <| yD rfl rfl (.of .rf) (kLess_fn _ _ _) <| zc rfl <| zd <| zi rfl (fun h1 => ?_) (fun h1 => ?_)
     refine zo <| zw rfl rfl <| yD rfl rfl (.of (.t2 .rf)) (hT _) <| zd <| ⟨⟨_, ⟨_, _⟩⟩, ?_, (by omega), (subxR rfl), (.of (.t0 (.t2 (.t2 (.d (.d .rf))))))⟩
     rotate_left
     contradiction
    exact ⟨hs2, f'', by dsimp only; omega, by simp only [List.length_append, List.length_cons, List.length_nil]; omega, hw⟩
end Go.Proofs.Ytgcmglieciaifaa
