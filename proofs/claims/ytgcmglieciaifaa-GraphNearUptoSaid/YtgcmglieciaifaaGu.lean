/- Layer 11: the law GraphNear: what its function does. Conditions: none. -/
import Derived.Test.YtgcmglieciaifaaGua
import Derived.Test.YtgcmglieciaifaaGw
set_option linter.unusedSimpArgs false
set_option linter.unusedVariables false
set_option maxRecDepth 100000
set_option maxHeartbeats 4000000
namespace Go.SL
open Go
theorem glists_may {h : Int} {xs : List Ref} (hg : grOk h xs) (hb : ∀ r ∈ xs, 0 ≤ r.vec.bits) {w : Vec} (hw : w ∈ glists h xs) : gmay h w := by
  unfold glists at hw
  obtain ⟨r, hr, j, hj, rfl⟩ := vall_mem.1 hw
  have h0 := hg.h0
  exact ⟨(pre_G hg hb r hr j hj).1, by rw [vpre_len]; omega⟩
end Go.SL
namespace Go.Proofs.Ytgcmglieciaifaa
open Go Go.SL
attribute [local irreducible] pc rc SlT Me Mt It pt ro pur ex sep old Meets
attribute [local irreducible] RowsA BysP GP LsA
theorem GraphNear_fn (h : Int) (x : SL.Ref) {a1 : Option Addr} {c1 : Nat} {xs : List SL.Ref} (hx : ∀ r ∈ xs, 0 ≤ r.vec.bits) (hxb : 0 ≤ x.vec.bits) (F : List Assn) :
    Meets Try.prog 9 [i64 h, .slice a1 xs.length c1, rv x] (SlT false refC 5 (.slice a1 xs.length c1) c1 xs :: F) (Det (.bool true) (SlT false refC 5 (.slice a1 xs.length c1) c1 xs :: F)) := by
  refine Meets.intro b9 k9 (by simp) ?_
  have hf := few_pos hx
  have h12 : (xs.take 12).length ≤ 12 := by simp; omega
  generalize hys : xs.take 12 = ys at hf h12
  have hfw := fun F => l11few_fn (a := a1) (c := c1) (xs := xs) F
  rw [hys] at hfw
  have hf2 : ∀ r ∈ ys ++ [x], 0 ≤ r.vec.bits := fun r hr => by
    rcases List.mem_append.1 hr with hr | hr
    · exact hf r hr
    · rw [List.mem_singleton.1 hr]; exact hxb
  have hc1 := fun {a : Option Addr} {c : Nat} {F : List Assn} [HS F (.slice a ys.length c) SL.Ref refC 5 c ys] => r11Check_fn h (a1 := a) (c1 := c) (xs := ys) (F := F)
  have hc2 := fun {a : Option Addr} {c : Nat} {F : List Assn} [HS F (.slice a (ys ++ [x]).length c) SL.Ref refC 5 c (ys ++ [x])] => r11Check_fn h (a1 := a) (c1 := c) (xs := ys ++ [x]) (F := F)
  unfold gE at hc1 hc2
  focus
  refine J.cutE (ι := Nat × (Option Addr × Nat) × Option Addr × Nat) (fun _ => True) (fun z => [(0, i64 h), (1, .slice z.2.1.1 ys.length z.2.1.2), (5, ptr z.1), (6, .bool false), (7, .slice z.2.2.1 (ys ++ [x]).length z.2.2.2)])
    (fun z => SlT true refC 5 (.slice z.2.2.1 (ys ++ [x]).length z.2.2.2) z.2.2.2 (ys ++ [x]) :: SlT false refC 5 (.slice z.2.1.1 ys.length z.2.1.2) z.2.1.2 ys :: SlT false refC 5 (.slice a1 xs.length c1) c1 xs :: pc z.1 32 (refC x) :: F) ?_ (fun z _ => ?_)
  · focus
     refine zo <| yB rfl fun b5 => zc rfl <| yE rfl rfl (.of (.t1 .rf)) (hfw _) fun ⟨a1_1, c1_1⟩ _ => zw rfl rfl <| JT.both ?_ ?_
     refine JT.b0 fun a25 => JT.both ?_ ?_
     (refine JT.A3 rfl rfl rfl (by decide) (by simp; omega) (fun a27 c27 hc27 => ?_))
     refine JT.yA rfl (Ev.Lw rfl rfl) <| JT.bsl1 (by repeat (first | exact Cells.nil | apply Cells.z | (apply Cells.cl; rfl; rfl; rfl))) (by simp only [List.length_cons, List.length_nil, Nat.reduceAdd]; rfl) (by decide) (by rfl) fun a29 => ?_
     (refine JT.A1 rfl rfl (by rfl) rfl (by decide) (by simp; omega) (fun a30 c30 hc30 => ?_))
     refine zc rfl <| zd <| ⟨⟨_, ⟨⟨_, _⟩, ⟨_, _⟩⟩⟩, ?_, (subxR rfl), (.of (.t0 (.t1 (.t1 (.t1 (.d .rf))))))⟩
     omega
     refine JT.bsl1 (by repeat (first | exact Cells.nil | apply Cells.z | (apply Cells.cl; rfl; rfl; rfl))) (by simp only [List.length_cons, List.length_nil, Nat.reduceAdd]; rfl) (by decide) (by rfl) fun a29 => ?_
     (refine JT.A3 rfl rfl rfl (by decide) (by simp; omega) (fun a27 c27 hc27 => ?_))
     refine JT.yA rfl (Ev.Lw rfl rfl) ?_
     (refine JT.A1 rfl rfl (by rfl) rfl (by decide) (by simp; omega) (fun a30 c30 hc30 => ?_))
     refine zc rfl <| zd <| ⟨⟨_, ⟨⟨_, _⟩, ⟨_, _⟩⟩⟩, ?_, (subxR rfl), (.of (.t0 (.t1 (.t1 (.t1 (.d .rf))))))⟩
     omega
     refine JT.bsl1 (by repeat (first | exact Cells.nil | apply Cells.z | (apply Cells.cl; rfl; rfl; rfl))) (by simp only [List.length_cons, List.length_nil, Nat.reduceAdd]; rfl) (by decide) (by rfl) fun a29 => ?_
     refine JT.b0 fun a25 => ?_
     (refine JT.A3 rfl rfl rfl (by decide) (by simp; omega) (fun a27 c27 hc27 => ?_))
     refine JT.yA rfl (Ev.Lw rfl rfl) ?_
     (refine JT.A1 rfl rfl (by rfl) rfl (by decide) (by simp; omega) (fun a30 c30 hc30 => ?_))
     refine zc rfl <| zd <| ⟨⟨_, ⟨⟨_, _⟩, ⟨_, _⟩⟩⟩, ?_, (subxR rfl), (.of (.t0 (.t1 (.t1 (.t1 (.d .rf))))))⟩
     omega
  obtain ⟨b5, ⟨a2, c2⟩, a7, c7⟩ := z
  dsimp only
  by_cases hg : grOk h ys
  · simp only [if_pos hg] at hc1
    by_cases hg2 : grOk h (ys ++ [x])
    · simp only [if_pos hg2] at hc2
      have hL := fun {a : Option Addr} {c : Nat} {F : List Assn} [HS F (.slice a ys.length c) SL.Ref refC 5 c ys] => gLists_ok h (a1 := a) (c1 := c) (xs := ys) (F := F) hg hf
      focus
       refine zs <| yD rfl rfl (.of .rf) hc1 <| zy (.cneF rfl rfl (by decide)) <| yG rfl <| yD rfl rfl (.of .rf) hc2 <| yG rfl <| zy (.cneF rfl rfl (by decide)) <| zy (.pickF rfl rfl) <| zd <| zq <| zu rfl <| zk ?_
       refine zs <| yE rfl rfl (.of .rf) hL fun ⟨a45, c45⟩ hx45 => zc rfl <| zc rfl <| zc rfl <| zy (.cneF rfl rfl (by decide)) <| zd <| zq <| zu rfl <| zk <| zs <| zc rfl ?_
       refine zd <| zq <| zb ?_
      obtain ⟨ca, all⟩ := c45
      obtain ⟨p1, p2⟩ := hx45
      dsimp only at p1 p2 ⊢
      refine J.slF (enc := lsC) (xs := all) (by (repeat (first | exact Has.here | assumption | apply Has.there))) (fun hc1' hc2' _ => ?_)
      refine J.keep [(0, i64 h), (1, .slice a2 ys.length c2), (5, ptr b5), (6, .bool false), (7, .slice a7 (ys ++ [x]).length c7), (8, .slice a45 all.length ca), (10, i64 0)] (by exact subxR rfl) ?_
      refine J.lp (ι := Nat) (fun i => i ≤ all.length) (fun i => [(10, i64 (i : Int))]) (fun _ => SlT true lsC 3 (.slice a45 all.length ca) ca all :: SlT true refC 5 (.slice a7 (ys ++ [x]).length c7) c7 (ys ++ [x]) :: SlT false refC 5 (.slice a2 ys.length c2) c2 ys :: SlT false refC 5 (.slice a1 xs.length c1) c1 xs :: pc b5 32 (refC x) :: F) (fun i => all.length - i) 0 (by omega) (by exact subxR rfl) (.of (.t0 (.t1 (.t1 (.t1 (.t1 (.d .rf))))))) (fun i hi => ?_)
      by_cases hlt : i < all.length
      · have hmem : (nth all i).w ∈ glists h ys := by rw [← p1, ← nth_map_w hlt, nth_eq (by simpa using hlt)]; exact List.getElem_mem _
        have hmay := glists_may hg hf hmem
        have hwG := (nth all i).ok
        have hR := fun {F : List Assn} [HS F (.slice a2 ys.length c2) SL.Ref refC 5 c2 ys] => r11Row_fn h (nth all i).w (a1 := a2) (c1 := c2) (xs := ys) (F := F) hg hf hwG.2
        have hB1 := fun id {F : List Assn} [HS F (.slice a2 ys.length c2) SL.Ref refC 5 c2 ys] => gBeside_fn h (nth all i).w id (a1 := a2) (c1 := c2) (xs := ys) (F := F) hf
        have hB2 := fun id {F : List Assn} [HS F (.slice a7 (ys ++ [x]).length c7) SL.Ref refC 5 c7 (ys ++ [x])] => gBeside_fn h (nth all i).w id (a1 := a7) (c1 := c7) (xs := ys ++ [x]) (F := F) hf2
        have hnear := fun k hk => near_ok hg hg2 hmay (k := k) hk
        have hBg := fun F => r1Begins_fn x.vec (nth all i).w F hxb hwG.2
        have hB3 := fun {F : List Assn} [HS F (.slice a7 (ys ++ [x]).length c7) SL.Ref refC 5 c7 (ys ++ [x])] => hB2 x.id (F := F)
        have hll := grow_len hg (nth all i).w
        generalize hE3 : gbesE h (ys ++ [x]) (nth all i).w x.id = E3 at *
        generalize hLL : grow h ys (nth all i).w = L at *
        focus
         refine zs <| zc rfl <| zy (.cltT rfl rfl (by omega)) <| zd <| zq <| zt rfl <| zk <| zq <| zb ?_
        refine J.cutE (ι := (Option Addr × Nat) × Nat × Nat) (fun _ => True) (fun z => [(0, i64 h), (1, .slice a2 ys.length c2), (5, ptr b5), (6, .bool false), (7, .slice a7 (ys ++ [x]).length c7), (8, .slice a45 all.length ca), (10, i64 (i : Int)), (11, .slice z.1.1 L.length z.1.2), (12, ptr z.2.1), (13, ptr z.2.2), (14, i64 E3.2.2)]) (fun z => SlT true refC 5 (.slice z.1.1 L.length z.1.2) z.1.2 L :: pc z.2.1 32 (refC E3.1) :: pc z.2.2 32 (refC E3.2.1) :: SlT true lsC 3 (.slice a45 all.length ca) ca all :: SlT true refC 5 (.slice a7 (ys ++ [x]).length c7) c7 (ys ++ [x]) :: SlT false refC 5 (.slice a2 ys.length c2) c2 ys :: SlT false refC 5 (.slice a1 xs.length c1) c1 xs :: pc b5 32 (refC x) :: F) ?_ (fun z _ => ?_)
        · focus
           refine zo <| zy (.iC rfl rfl (by omega)) <| zy (.fe rfl) <| zy (.LEf rfl (by omega) (by decide)) <| yE rfl rfl (.of .rf) hR fun ⟨a11, c11⟩ _ => zy (.iC rfl rfl (by omega)) <| zy (.fe rfl) <| zy (.LEf rfl (by omega) (by decide)) <| zfl rfl rfl rfl <| JT.both ?_ ?_
           refine yD rfl rfl (.of .rf) (hB2 _) <| zc rfl <| zc rfl <| zc rfl <| JT.both ?_ ?_
           refine yN fun b12 => yN fun b13 => yW rfl rfl rfl rfl rfl <| yW rfl rfl rfl rfl rfl <| zc rfl <| zd <| seqQ_n ?_
           rotate_left
           refine yN fun b13 => yN fun b12 => yW rfl rfl rfl rfl rfl <| yW rfl rfl rfl rfl rfl <| zc rfl <| zd <| seqQ_n ?_
           rotate_left
           refine JT.both ?_ ?_
           refine yN fun b12 => JT.both ?_ ?_
           refine yD rfl rfl (.of .rf) (hB2 _) <| zc rfl <| zc rfl <| zc rfl <| yN fun b13 => yW rfl rfl rfl rfl rfl <| yW rfl rfl rfl rfl rfl <| zc rfl <| zd <| seqQ_n ?_
           rotate_left
           refine yN fun b13 => yD rfl rfl (.of .rf) (hB2 _) <| zc rfl <| zc rfl <| zc rfl <| yW rfl rfl rfl rfl rfl <| yW rfl rfl rfl rfl rfl <| zc rfl <| zd <| seqQ_n ?_
           rotate_left
           refine yN fun b13 => JT.both ?_ ?_
           refine yD rfl rfl (.of .rf) (hB2 _) <| zc rfl <| zc rfl <| zc rfl <| yN fun b12 => yW rfl rfl rfl rfl rfl <| yW rfl rfl rfl rfl rfl <| zc rfl <| zd <| seqQ_n ?_
           rotate_left
           refine yN fun b12 => yD rfl rfl (.of .rf) (hB2 _) <| zc rfl <| zc rfl <| zc rfl <| yW rfl rfl rfl rfl rfl <| yW rfl rfl rfl rfl rfl <| zc rfl <| zd <| seqQ_n ?_
           rotate_left
          all_goals simp only [hE3]
          all_goals exact ⟨((a11, c11), b12, b13), trivial, by exact subxR rfl, by exact (.of (.t2 (.t1 (.t0 (.t0 (.t0 (.t0 (.t0 (.t0 .rf)))))))))⟩
        obtain ⟨⟨ra, rc⟩, ba, bb⟩ := z
        dsimp only
        focus
         refine zs <| zc rfl <| zd <| zb ?_
        refine J.lp (ι := Nat) (fun k => k ≤ L.length) (fun k => [(15, i64 (k : Int))]) (fun _ => SlT true refC 5 (.slice ra L.length rc) rc L :: pc ba 32 (refC E3.1) :: pc bb 32 (refC E3.2.1) :: SlT true lsC 3 (.slice a45 all.length ca) ca all :: SlT true refC 5 (.slice a7 (ys ++ [x]).length c7) c7 (ys ++ [x]) :: SlT false refC 5 (.slice a2 ys.length c2) c2 ys :: SlT false refC 5 (.slice a1 xs.length c1) c1 xs :: pc b5 32 (refC x) :: F) (fun k => L.length - k) 0 (by omega) (by exact subxR rfl) (.of (.t0 (.t0 (.t0 (.t0 (.t0 (.t0 (.t0 (.t0 .rf))))))))) (fun k hk => ?_)
        by_cases hkl : k < L.length
        · obtain ⟨n1, n2, n3, n4⟩ := hnear k hkl
          have hB1k := fun {F : List Assn} [HS F (.slice a2 ys.length c2) SL.Ref refC 5 c2 ys] => hB1 (nth L k).id (F := F)
          have hB2k := fun {F : List Assn} [HS F (.slice a7 (ys ++ [x]).length c7) SL.Ref refC 5 c7 (ys ++ [x])] => hB2 (nth L k).id (F := F)
          clear hB1 hB2 hB3 hR
          generalize hE1 : gbesE h ys (nth all i).w (nth L k).id = E1 at *
          generalize hE2 : gbesE h (ys ++ [x]) (nth all i).w (nth L k).id = E2 at *
          focus
           refine zs <| zc rfl <| zy (.cltT rfl rfl (by omega)) <| zd <| zq <| zt rfl <| zk <| zq <| zb ?_
          refine J.cutE (ι := Nat × Nat) (fun _ => True) (fun z => [(0, i64 h), (1, .slice a2 ys.length c2), (5, ptr b5), (6, .bool false), (7, .slice a7 (ys ++ [x]).length c7), (8, .slice a45 all.length ca), (10, i64 (i : Int)), (11, .slice ra L.length rc), (12, ptr ba), (13, ptr bb), (14, i64 E3.2.2), (15, i64 (k : Int)), (16, ptr z.1), (17, ptr z.2), (18, i64 E1.2.2)]) (fun z => pc z.1 32 (refC E1.1) :: pc z.2 32 (refC E1.2.1) :: SlT true refC 5 (.slice ra L.length rc) rc L :: pc ba 32 (refC E3.1) :: pc bb 32 (refC E3.2.1) :: SlT true lsC 3 (.slice a45 all.length ca) ca all :: SlT true refC 5 (.slice a7 (ys ++ [x]).length c7) c7 (ys ++ [x]) :: SlT false refC 5 (.slice a2 ys.length c2) c2 ys :: SlT false refC 5 (.slice a1 xs.length c1) c1 xs :: pc b5 32 (refC x) :: F) ?_ (fun z _ => ?_)
          · focus
             refine zo <| zy (.iC rfl rfl (by omega)) <| zy (.fe rfl) <| zy (.LEf rfl (by omega) (by decide)) <| zy (.iC rfl rfl (by omega)) <| zy (.fe rfl) <| zy (.LE0 rfl (by omega) rfl) <| JT.both ?_ ?_
             refine yD rfl rfl (.of .rf) hB1k <| zc rfl <| zc rfl <| zc rfl <| JT.both ?_ ?_
             refine yN fun b16 => yN fun b17 => yW rfl rfl rfl rfl rfl <| yW rfl rfl rfl rfl rfl <| zc rfl <| zd <| ⟨⟨_, _⟩, ?_, (subxR rfl), (.of (.t1 (.t0 (.t0 (.t0 (.t0 (.t0 (.t0 (.t0 (.t0 (.t0 .rf)))))))))))⟩
             omega
             refine yN fun b17 => yN fun b16 => yW rfl rfl rfl rfl rfl <| yW rfl rfl rfl rfl rfl <| zc rfl <| zd <| ⟨⟨_, _⟩, ?_, (subxR rfl), (.of (.t1 (.t0 (.t0 (.t0 (.t0 (.t0 (.t0 (.t0 (.t0 (.t0 .rf)))))))))))⟩
             omega
             refine JT.both ?_ ?_
             refine yN fun b16 => JT.both ?_ ?_
             refine yD rfl rfl (.of .rf) hB1k <| zc rfl <| zc rfl <| zc rfl <| yN fun b17 => yW rfl rfl rfl rfl rfl <| yW rfl rfl rfl rfl rfl <| zc rfl <| zd <| ⟨⟨_, _⟩, ?_, (subxR rfl), (.of (.t1 (.t0 (.t0 (.t0 (.t0 (.t0 (.t0 (.t0 (.t0 (.t0 .rf)))))))))))⟩
             omega
             refine yN fun b17 => yD rfl rfl (.of .rf) hB1k <| zc rfl <| zc rfl <| zc rfl <| yW rfl rfl rfl rfl rfl <| yW rfl rfl rfl rfl rfl <| zc rfl <| zd <| ⟨⟨_, _⟩, ?_, (subxR rfl), (.of (.t1 (.t0 (.t0 (.t0 (.t0 (.t0 (.t0 (.t0 (.t0 (.t0 .rf)))))))))))⟩
             omega
             refine yN fun b17 => JT.both ?_ ?_
             refine yD rfl rfl (.of .rf) hB1k <| zc rfl <| zc rfl <| zc rfl <| yN fun b16 => yW rfl rfl rfl rfl rfl <| yW rfl rfl rfl rfl rfl <| zc rfl <| zd <| ⟨⟨_, _⟩, ?_, (subxR rfl), (.of (.t1 (.t0 (.t0 (.t0 (.t0 (.t0 (.t0 (.t0 (.t0 (.t0 .rf)))))))))))⟩
             omega
             refine yN fun b16 => yD rfl rfl (.of .rf) hB1k <| zc rfl <| zc rfl <| zc rfl <| yW rfl rfl rfl rfl rfl <| yW rfl rfl rfl rfl rfl <| zc rfl <| zd <| ⟨⟨_, _⟩, ?_, (subxR rfl), (.of (.t1 (.t0 (.t0 (.t0 (.t0 (.t0 (.t0 (.t0 (.t0 (.t0 .rf)))))))))))⟩
             omega
            all_goals exact ⟨(b16, b17), trivial, by exact subxR rfl, by (first | (refine Up.of ?_; (repeat (first | exact Imp.refl _ | (apply Imp.take; (· (repeat (first | exact Has.here | assumption | apply Has.there)))) | fail | apply Imp.dropT | exact Imp.nil _)); done) | (refine Up.frz (by (repeat (first | exact Has.here | assumption | apply Has.there))) ?_; refine Up.of ?_; (repeat (first | exact Imp.refl _ | (apply Imp.take; (· (repeat (first | exact Has.here | assumption | apply Has.there)))) | fail | apply Imp.dropT | exact Imp.nil _)); done))⟩
          obtain ⟨bp, bq⟩ := z
          dsimp only
          focus
          refine J.cutE (ι := Nat × Nat) (fun _ => True) (fun z => [(0, i64 h), (1, .slice a2 ys.length c2), (5, ptr b5), (6, .bool false), (7, .slice a7 (ys ++ [x]).length c7), (8, .slice a45 all.length ca), (10, i64 (i : Int)), (11, .slice ra L.length rc), (12, ptr ba), (13, ptr bb), (14, i64 E3.2.2), (15, i64 (k : Int)), (16, ptr bp), (17, ptr bq), (18, i64 E1.2.2), (19, ptr z.1), (20, ptr z.2), (21, i64 E2.2.2)]) (fun z => pc z.1 32 (refC E2.1) :: pc z.2 32 (refC E2.2.1) :: pc bp 32 (refC E1.1) :: pc bq 32 (refC E1.2.1) :: SlT true refC 5 (.slice ra L.length rc) rc L :: pc ba 32 (refC E3.1) :: pc bb 32 (refC E3.2.1) :: SlT true lsC 3 (.slice a45 all.length ca) ca all :: SlT true refC 5 (.slice a7 (ys ++ [x]).length c7) c7 (ys ++ [x]) :: SlT false refC 5 (.slice a2 ys.length c2) c2 ys :: SlT false refC 5 (.slice a1 xs.length c1) c1 xs :: pc b5 32 (refC x) :: F) ?_ (fun z _ => ?_)
          · focus
             refine zo <| zy (.iC rfl rfl (by omega)) <| zy (.fe rfl) <| zy (.LEf rfl (by omega) (by decide)) <| zy (.iC rfl rfl (by omega)) <| zy (.fe rfl) <| zy (.LE0 rfl (by omega) rfl) <| JT.both ?_ ?_
             refine yD rfl rfl (.of .rf) hB2k <| zc rfl <| zc rfl <| zc rfl <| JT.both ?_ ?_
             refine yN fun b19 => yN fun b20 => yW rfl rfl rfl rfl rfl <| yW rfl rfl rfl rfl rfl <| zc rfl <| zd <| ⟨⟨_, _⟩, ?_, (subxR rfl), (.of (.t1 (.t0 (.t0 (.t0 (.t0 (.t0 (.t0 (.t0 (.t0 (.t0 (.t0 (.t0 .rf)))))))))))))⟩
             omega
             refine yN fun b20 => yN fun b19 => yW rfl rfl rfl rfl rfl <| yW rfl rfl rfl rfl rfl <| zc rfl <| zd <| ⟨⟨_, _⟩, ?_, (subxR rfl), (.of (.t1 (.t0 (.t0 (.t0 (.t0 (.t0 (.t0 (.t0 (.t0 (.t0 (.t0 (.t0 .rf)))))))))))))⟩
             omega
             refine JT.both ?_ ?_
             refine yN fun b19 => JT.both ?_ ?_
             refine yD rfl rfl (.of .rf) hB2k <| zc rfl <| zc rfl <| zc rfl <| yN fun b20 => yW rfl rfl rfl rfl rfl <| yW rfl rfl rfl rfl rfl <| zc rfl <| zd <| ⟨⟨_, _⟩, ?_, (subxR rfl), (.of (.t1 (.t0 (.t0 (.t0 (.t0 (.t0 (.t0 (.t0 (.t0 (.t0 (.t0 (.t0 .rf)))))))))))))⟩
             omega
             refine yN fun b20 => yD rfl rfl (.of .rf) hB2k <| zc rfl <| zc rfl <| zc rfl <| yW rfl rfl rfl rfl rfl <| yW rfl rfl rfl rfl rfl <| zc rfl <| zd <| ⟨⟨_, _⟩, ?_, (subxR rfl), (.of (.t1 (.t0 (.t0 (.t0 (.t0 (.t0 (.t0 (.t0 (.t0 (.t0 (.t0 (.t0 .rf)))))))))))))⟩
             omega
             refine yN fun b20 => JT.both ?_ ?_
             refine yD rfl rfl (.of .rf) hB2k <| zc rfl <| zc rfl <| zc rfl <| yN fun b19 => yW rfl rfl rfl rfl rfl <| yW rfl rfl rfl rfl rfl <| zc rfl <| zd <| ⟨⟨_, _⟩, ?_, (subxR rfl), (.of (.t1 (.t0 (.t0 (.t0 (.t0 (.t0 (.t0 (.t0 (.t0 (.t0 (.t0 (.t0 .rf)))))))))))))⟩
             omega
             refine yN fun b19 => yD rfl rfl (.of .rf) hB2k <| zc rfl <| zc rfl <| zc rfl <| yW rfl rfl rfl rfl rfl <| yW rfl rfl rfl rfl rfl <| zc rfl <| zd <| ⟨⟨_, _⟩, ?_, (subxR rfl), (.of (.t1 (.t0 (.t0 (.t0 (.t0 (.t0 (.t0 (.t0 (.t0 (.t0 (.t0 (.t0 .rf)))))))))))))⟩
             omega
            all_goals exact ⟨(b19, b20), trivial, by exact subxR rfl, by (first | (refine Up.of ?_; (repeat (first | exact Imp.refl _ | (apply Imp.take; (· (repeat (first | exact Has.here | assumption | apply Has.there)))) | fail | apply Imp.dropT | exact Imp.nil _)); done) | (refine Up.frz (by (repeat (first | exact Has.here | assumption | apply Has.there))) ?_; refine Up.of ?_; (repeat (first | exact Imp.refl _ | (apply Imp.take; (· (repeat (first | exact Has.here | assumption | apply Has.there)))) | fail | apply Imp.dropT | exact Imp.nil _)); done))⟩
          obtain ⟨bu, bv'⟩ := z
          dsimp only
          clear hnear hc1 hc2 hL hfw
          focus
           refine zs <| zj rfl rfl rfl <| zp rfl (fun h1 => ?_) (fun h1 => ?_)
           refine zy (.iC rfl rfl (by omega)) <| yT rfl (by assumption) <| zy (.LE rfl (by omega)) <| yT rfl (by assumption) <| zw rfl rfl <| yT rfl (by assumption) ?_
           refine zy (.eqT rfl rfl) <| yT rfl (by assumption) <| zc rfl <| zn rfl (fun h2 => ?_) (fun h2 => ?_)
           refine zy (.iC rfl rfl (by omega)) <| yF rfl (by assumption) <| zy (.LE rfl (by omega)) <| yF rfl (by assumption) <| zw rfl rfl <| yF rfl (by assumption) ?_
           refine zy (.eqT rfl rfl) <| yT rfl (by assumption) <| zy (.pickFp rfl (by assumption) rfl) <| zy (.pickTp rfl (by assumption) rfl) <| zy (.cneF rfl rfl (by omega)) <| yG rfl <| zy (.cneF rfl rfl (by omega)) <| zy (.pickF rfl rfl) <| yG rfl <| zc rfl <| yG rfl <| zc rfl ?_
           refine zp rfl (fun h3 => ?_) (fun h3 => ?_)
           refine zw rfl rfl <| yT rfl (by assumption) <| zw rfl rfl <| yT rfl (by assumption) ?_
           refine zy (.neT rfl rfl) <| yT rfl (by assumption) <| zc rfl <| zn rfl (fun h4 => ?_) (fun h4 => ?_)
           refine zw rfl rfl <| yF rfl (by assumption) <| zw rfl rfl <| yF rfl (by assumption) ?_
           refine zy (.neT rfl rfl) <| yT rfl (by assumption) <| zy (.pickFp rfl (by assumption) rfl) <| yG rfl <| zy (.pickTp rfl (by assumption) rfl) <| zy (.pickF rfl rfl) <| zn rfl (fun h5 => ?_) (fun h5 => ?_)
           refine zy (.ceqT rfl rfl (by omega)) <| yF rfl (by assumption) <| zf 3 rfl rfl <| yF rfl (by assumption) <| zy (.Lf rfl (Nat.le_of_ble_eq_true rfl)) <| yF rfl (by assumption) <| zy (.iC rfl rfl (by omega)) <| yF rfl (by assumption) <| zy (.fe rfl) <| yF rfl (by assumption) <| zy (.LEf rfl (by omega) (by decide)) <| yF rfl (by assumption) ?_
           refine yD rfl rfl (.of .rf) (hBg _) <| yF rfl (by assumption) <| zc rfl <| zy (.pickFp rfl (by assumption) rfl) <| zd <| zi rfl (fun h6 => ?_) (fun h6 => ?_)
           refine zs <| zc rfl <| zd <| zr <| yR (.t rfl .nil) ?_ (.of (.tk (.there (.there (.there (.there (.there (.there (.there (.there (.there (.there .here)))))))))) (.d (.d (.d (.d (.d (.d (.d (.d (.d (.d (.d .rf)))))))))))))
           rotate_left
           refine zk <| zo <| zy (.addN rfl rfl (by omega)) <| zd <| ⟨_, ?_, (by omega), (subxR rfl), (.of (.t4 (.t4 (.t4 (.t4 (.t4 (.t4 (.t4 (.t4 (.d (.d (.d (.d .rf)))))))))))))⟩
           omega
           refine yFs rfl (by assumption) <| yFs rfl (by assumption) <| yFs rfl (by assumption) <| yFs rfl (by assumption) <| yFs rfl (by assumption) <| yFs rfl (by assumption) <| yFs rfl (by assumption) <| zy (.pickTp rfl (by assumption) rfl) <| zd <| zt rfl <| zs <| zc rfl ?_
           refine zd <| zr <| yR (.t rfl .nil) ?_ (.of (.tk (.there (.there (.there (.there (.there (.there (.there (.there (.there (.there .here)))))))))) (.d (.d (.d (.d (.d (.d (.d (.d (.d (.d (.d .rf)))))))))))))
           rotate_left
           refine yFs rfl (by assumption) <| yFs rfl (by assumption) <| yT rfl (by assumption) <| zy (.pickTp rfl (by assumption) rfl) <| yG rfl <| zy (.pickTp rfl (by assumption) rfl) <| zy (.pickF rfl rfl) <| zv rfl rfl <| zv rfl rfl <| zv rfl rfl <| zv rfl rfl <| zv rfl rfl ?_
           refine zv rfl rfl <| zv rfl rfl <| zv rfl rfl <| zy (.pickT rfl rfl) <| zd <| zt rfl <| zs <| zc rfl <| zd <| zr <| yR (.t rfl .nil) ?_ (.of (.tk (.there (.there (.there (.there (.there (.there (.there (.there (.there (.there .here)))))))))) (.d (.d (.d (.d (.d (.d (.d (.d (.d (.d (.d .rf)))))))))))))
           rotate_left
           refine yTs rfl (by assumption) <| yTs rfl (by assumption) <| yTs rfl (by assumption) <| JT.skipU rfl <| JT.skipU rfl <| JT.skipU rfl <| yTs rfl (by assumption) <| yG rfl <| zy (.pickFp rfl (by assumption) rfl) <| zy (.pickF rfl rfl) <| yG rfl <| zy (.ceqT rfl rfl (by omega)) ?_
           refine yG rfl <| zf 3 rfl rfl <| yG rfl <| zy (.Lf rfl (Nat.le_of_ble_eq_true rfl)) <| yG rfl <| zy (.iC rfl rfl (by omega)) <| yG rfl <| zy (.fe rfl) <| yG rfl <| zy (.LEf rfl (by omega) (by decide)) <| yG rfl <| yD rfl rfl (.of .rf) (hBg _) ?_
           refine yG rfl <| zc rfl <| zy (.pickF rfl rfl) <| zd <| zi rfl (fun h4 => ?_) (fun h4 => ?_)
           refine zs <| zc rfl <| zd <| zr <| yR (.t rfl .nil) ?_ (.of (.tk (.there (.there (.there (.there (.there (.there (.there (.there (.there (.there .here)))))))))) (.d (.d (.d (.d (.d (.d (.d (.d (.d (.d (.d .rf)))))))))))))
           rotate_left
           refine zk <| zo <| zy (.addN rfl rfl (by omega)) <| zd <| ⟨_, ?_, (by omega), (subxR rfl), (.of (.t4 (.t4 (.t4 (.t4 (.t4 (.t4 (.t4 (.t4 (.d (.d (.d (.d .rf)))))))))))))⟩
           omega
           refine yFs rfl (by assumption) <| yFs rfl (by assumption) <| yFs rfl (by assumption) <| yT rfl (by assumption) <| zy (.pickTp rfl (by assumption) rfl) <| zy (.pickTp rfl (by assumption) rfl) <| zy (.cneF rfl rfl (by omega)) <| yG rfl <| zy (.cneF rfl rfl (by omega)) <| zy (.pickF rfl rfl) <| yG rfl <| zc rfl ?_
           refine yG rfl <| zc rfl <| zv rfl rfl <| zv rfl rfl <| zv rfl rfl <| zv rfl rfl <| JT.skipU rfl <| JT.skipU rfl <| JT.skipU rfl <| zv rfl rfl <| yG rfl <| zy (.pickF rfl rfl) ?_
           refine zy (.pickF rfl rfl) <| yG rfl <| zy (.ceqT rfl rfl (by omega)) <| yG rfl <| zf 3 rfl rfl <| yG rfl <| zy (.Lf rfl (Nat.le_of_ble_eq_true rfl)) <| yG rfl <| zy (.iC rfl rfl (by omega)) <| yG rfl <| zy (.fe rfl) <| yG rfl ?_
           refine zy (.LEf rfl (by omega) (by decide)) <| yG rfl <| yD rfl rfl (.of .rf) (hBg _) <| yG rfl <| zc rfl <| zy (.pickF rfl rfl) <| zd <| zi rfl (fun h3 => ?_) (fun h3 => ?_)
           refine zs <| zc rfl <| zd <| zr <| yR (.t rfl .nil) ?_ (.of (.tk (.there (.there (.there (.there (.there (.there (.there (.there (.there (.there .here)))))))))) (.d (.d (.d (.d (.d (.d (.d (.d (.d (.d (.d .rf)))))))))))))
           rotate_left
           refine zk <| zo <| zy (.addN rfl rfl (by omega)) <| zd <| ⟨_, ?_, (by omega), (subxR rfl), (.of (.t4 (.t4 (.t4 (.t4 (.t4 (.t4 (.t4 (.t4 (.d (.d (.d (.d .rf)))))))))))))⟩
           omega
           refine yTs rfl (by assumption) <| yTs rfl (by assumption) <| yTs rfl (by assumption) <| yTs rfl (by assumption) <| JT.skipU rfl <| JT.skipU rfl <| JT.skipU rfl <| JT.skipU rfl <| yTs rfl (by assumption) <| zy (.pickFp rfl (by assumption) rfl) <| zy (.cneF rfl rfl (by omega)) <| yG rfl ?_
           refine zy (.cneF rfl rfl (by omega)) <| zy (.pickF rfl rfl) <| yG rfl <| zc rfl <| yG rfl <| zc rfl <| yG rfl <| zw rfl rfl <| yG rfl <| zw rfl rfl <| yG rfl ?_
           refine zy (.neT rfl rfl) <| yG rfl <| zc rfl <| zn rfl (fun h2 => ?_) (fun h2 => ?_)
           refine zw rfl rfl <| yF rfl (by assumption) <| zw rfl rfl <| yF rfl (by assumption) ?_
           refine zy (.neT rfl rfl) <| yG rfl <| zy (.pickFp rfl (by assumption) rfl) <| yG rfl <| zy (.pickT rfl rfl) <| zy (.pickF rfl rfl) <| zn rfl (fun h3 => ?_) (fun h3 => ?_)
           refine zy (.ceqF rfl rfl (by omega)) <| yF rfl (by assumption) <| zf 3 rfl rfl <| yF rfl (by assumption) <| zy (.Lf rfl (Nat.le_of_ble_eq_true rfl)) <| yF rfl (by assumption) <| zy (.iC rfl rfl (by omega)) <| yF rfl (by assumption) <| zy (.fe rfl) <| yF rfl (by assumption) <| zy (.LEf rfl (by omega) (by decide)) <| yF rfl (by assumption) ?_
           refine yD rfl rfl (.of .rf) (hBg _) <| yF rfl (by assumption) <| zc rfl <| zy (.pickFp rfl (by assumption) rfl) <| zd <| zi rfl (fun h4 => ?_) (fun h4 => ?_)
           refine zs <| zc rfl <| zd <| zr <| yR (.t rfl .nil) ?_ (.of (.tk (.there (.there (.there (.there (.there (.there (.there (.there (.there (.there .here)))))))))) (.d (.d (.d (.d (.d (.d (.d (.d (.d (.d (.d .rf)))))))))))))
           rotate_left
           refine zk <| zo <| zy (.addN rfl rfl (by omega)) <| zd <| ⟨_, ?_, (by omega), (subxR rfl), (.of (.t4 (.t4 (.t4 (.t4 (.t4 (.t4 (.t4 (.t4 (.d (.d (.d (.d .rf)))))))))))))⟩
           omega
           refine yFs rfl (by assumption) <| yFs rfl (by assumption) <| yFs rfl (by assumption) <| yFs rfl (by assumption) <| yFs rfl (by assumption) <| yFs rfl (by assumption) <| yFs rfl (by assumption) <| zy (.pickTp rfl (by assumption) rfl) <| zd <| zt rfl <| zs <| zc rfl ?_
           refine zd <| zr <| yR (.t rfl .nil) ?_ (.of (.tk (.there (.there (.there (.there (.there (.there (.there (.there (.there (.there .here)))))))))) (.d (.d (.d (.d (.d (.d (.d (.d (.d (.d (.d .rf)))))))))))))
           rotate_left
           refine yFs rfl (by assumption) <| yFs rfl (by assumption) <| yG rfl <| zy (.pickTp rfl (by assumption) rfl) <| yG rfl <| zy (.pickT rfl rfl) <| zy (.pickF rfl rfl) <| zv rfl rfl <| zv rfl rfl <| zv rfl rfl <| zv rfl rfl <| zv rfl rfl ?_
           refine zv rfl rfl <| zv rfl rfl <| zv rfl rfl <| zy (.pickT rfl rfl) <| zd <| zt rfl <| zs <| zc rfl <| zd <| zr <| yR (.t rfl .nil) ?_ (.of (.tk (.there (.there (.there (.there (.there (.there (.there (.there (.there (.there .here)))))))))) (.d (.d (.d (.d (.d (.d (.d (.d (.d (.d (.d .rf)))))))))))))
           rotate_left
          all_goals (exfalso; clear hBg hB1k hB2k; grind)
        · focus
           refine zs <| zc rfl <| zy (.cltF rfl rfl (by omega)) <| zd <| zq <| zu rfl <| zx <| zo <| zy (.addN rfl rfl (by omega)) <| zd <| ⟨_, ?_, (by omega), (subxR rfl), (.of (.t3 (.t3 (.t3 (.t3 (.t3 (.d (.d (.d .rf)))))))))⟩
           omega
      · focus
         refine zs <| zc rfl <| zy (.cltF rfl rfl (by omega)) <| zd <| zq <| zu rfl <| zx <| zs <| yD rfl rfl (.of .rf) (l11alive_fn _) <| zd <| zr <| yR (.t rfl .nil) rfl (.of (.t3 (.d (.d (.d (.d .rf))))))
    · simp only [if_neg hg2] at hc2
      focus
       refine zs <| yD rfl rfl (.of .rf) hc1 <| zy (.cneF rfl rfl (by decide)) <| yG rfl <| yD rfl rfl (.of .rf) hc2 <| yG rfl <| zy (.cneT rfl rfl (by decide)) <| zy (.pickF rfl rfl) <| zd <| zq <| zt rfl <| zs ?_
       refine yD rfl rfl (.of .rf) (l11alive_fn _) <| zd <| zr <| yR (.t rfl .nil) rfl (.of (.t2 (.d (.d (.d .rf)))))
  · simp only [if_neg hg] at hc1
    focus
     refine zs <| yD rfl rfl (.of .rf) hc1 <| zy (.cneT rfl rfl (by decide)) <| zv rfl rfl <| zv rfl rfl <| zy (.pickT rfl rfl) <| zd <| zq <| zt rfl <| zs <| yD rfl rfl (.of .rf) (l11alive_fn _) <| zd ?_
     refine zr <| yR (.t rfl .nil) rfl (.of (.t2 (.d (.d (.d .rf)))))
end Go.Proofs.Ytgcmglieciaifaa
