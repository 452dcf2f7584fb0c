/- Layer 8: all records, in order: the functions. Conditions: none. -/
import Derived.Test.YtmeajliiloaegaaGreatBp
import Derived.Test.YtmeajliiloaegaaGreatMa
import Derived.Test.YtmeajliiloaegaaGreatVc
import Derived.Test.YtmeajliiloaegaaGreatKe
import Derived.Test.YtmeajliiloaegaaGreatSlU
import Derived.Test.YtmeajliiloaegaaGreatSlS
set_option linter.unusedSimpArgs false
set_option linter.unusedVariables false
set_option maxRecDepth 100000
set_option maxHeartbeats 4000000
namespace Go.Proofs.YtmeajliiloaegaaGreat
open Go Go.SL Go.Sort Go.Lib Go.Shelf
attribute [local irreducible] pc rc SlT Me Mt It pt ro pur ex sep old Meets
attribute [local irreducible] LockP RecP RecsA LinksP LinksH WaitsA

theorem lnAll1_fn (x y : RecE) (F : List Assn) : Meets Tryz.prog 78 [.agg (recEC x).toArray, .agg (recEC y).toArray] F (Det (i64 (vcmp x.s.w y.s.w)) F) := by
  refine Meets.intro b78 k78 (by simp) ?_
  have h1 := x.ok; have h2 := y.ok
  unfold recEC
  focus
   refine zs <| yB rfl fun b2 => yB rfl fun b3 => zc rfl <| zfw [_, _] rfl rfl rfl rfl <| zfw [_, _] rfl rfl rfl rfl <| yD rfl rfl (.of .rf) (vCompare_fn _ _ _ (by assumption) (by assumption)) <| zc rfl <| zc rfl <| zc rfl <| zd <| zr ?_
   refine yR (.t rfl .nil) rfl (.of (.d (.d .rf)))
theorem recE_swo : SWO (ltOf fun (x y : RecE) => vcmp x.s.w y.s.w) where
  irrefl x := by simp only [ltOf, decide_eq_false_iff_not, vcmp_lt]; exact lexLt_irrefl _
  trans x y z h1 h2 := by simp only [ltOf, decide_eq_true_eq, vcmp_lt] at *; exact lexLt_trans h1 h2
  ntrans x y z h1 h2 := by
    simp only [ltOf, decide_eq_true_eq, decide_eq_false_iff_not, vcmp_lt] at *
    intro h
    rcases vlt_total x.ok y.ok with h3 | h3 | h3
    · exact h1 h3
    · rw [h3] at h; exact h2 h
    · exact h2 (lexLt_trans h3 h)
shelf_lay_g SlLaysF0.n6 Slsf 6 at Tryz 77 as sortS
theorem slSortS_fn (xs : List RecE) (a : Option Addr) (c : Nat) (F : List Assn) : Meets Tryz.prog 77 [.slice a xs.length c, .func (.func 78) #[] #[]] (SlT true recEC 16 (.slice a xs.length c) c xs :: F)
    (Some' (fun ys : List RecE => ys.Perm xs ∧ ys.Pairwise (fun x y => ¬ vcmp y.s.w x.s.w < 0)) (fun _ => .tuple #[]) (fun ys => SlT true recEC 16 (.slice a ys.length c) c ys :: F)) :=
  sort_meets sortS 16 (fun w => by kernel_rfl) (fun w => by kernel_rfl) recEC_one recE_swo (g := 78) k78 (cb := []) (CmpFn.of fun x y F => lnAll1_fn x y F) (by kernel_rfl)
instance : TE 55 RecE recEC 16 := ⟨recEC_one, by decide⟩

theorem recState_w (p : Nat) (a : RecA) (w : Vec) (F : List Assn) (hS : a.lk.w.length ≤ 8388608) : Meets Tryz.prog 74 [ptr p, vv w] (RecP p a :: F)
    (Some' (fun _ : Option Addr × Nat => True) (fun x => rsv (a.state w) x.1 x.2) (fun x => SlT false ownerC 2 (.slice x.1 (a.state w).waits.length x.2) x.2 (a.state w).waits :: RecP p a :: F)) := recState_fn p a w F hS
theorem recState_A {g : GM} {i p : Nat} {w0 w : Vec} {a : RecA} {F : List Assn} (hget : g[i]? = some (w0, (p, a))) (hS : a.lk.w.length ≤ 8388608) : Meets Tryz.prog 74 [ptr p, vv w] (RecsA g :: F)
    (Some' (fun _ : Option Addr × Nat => True) (fun x => rsv (a.state w) x.1 x.2) (fun x => SlT false ownerC 2 (.slice x.1 (a.state w).waits.length x.2) x.2 (a.state w).waits :: RecsA g :: F)) := by
  refine Meets.post (Meets.up (Up.of (RecsA.take hget)) (recState_w p a w _ hS)) ?_
  rintro v c ⟨x, _, rfl, rfl⟩
  refine ⟨_, Up.of (Imp.cons (RecsA.put (p := p) (a := a) hget)), x, trivial, rfl, ?_⟩
  rw [set_same hget]
theorem lnAll_fn (b : Nat) (l : LK) (F : List Assn) (hl : l.Inv) (hg : ∀ x ∈ l.m, vecG x.1) (hm : l.m.length ≤ 100000) : Meets Tryz.prog 39 [ptr b] (LinksP b l :: F)
    (Some' (fun x : Option Addr × Nat × List RecE => (x.2.2.map (·.s)).Perm l.allS ∧ x.2.2.Pairwise (fun x y => ¬ vcmp y.s.w x.s.w < 0)) (fun x => .slice x.1 x.2.2.length x.2.1)
      (fun x => SlT true recEC 16 (.slice x.1 x.2.2.length x.2.1) x.2.1 x.2.2 :: WaitsA x.2.2 :: LinksP b l :: F)) := by
  refine Meets.intro b39 k39 (by simp) ?_
  refine J.openLinks Has.here (fun T mb g he => ?_)
  focus
   refine zs <| zc rfl <| yD rfl rfl (.of .rf) lnIs_fn <| zc rfl <| zd <| zq <| zu rfl <| zk <| zs <| zc rfl <| zfl rfl rfl rfl ?_
  refine JT.openM (Has.there Has.here) (fun es c => ?_)
  refine JT.rng rfl Has.here (fun it => ?_)
  focus
   refine zd <| zq <| zb ?_
  refine J.up (fun w hs => hs.imp WaitsA.nil) ?_
  have hgl : g.length = l.m.length := by rw [← he]; simp [GM.er]
  refine J.lp (ι := List Nat × List RecE × Option Addr × Nat) (fun i => i.1.Nodup ∧ (∀ j ∈ i.1, j < l.m.length) ∧ i.2.1.map (·.s) = ((i.1.map (nth l.m)).filter l.sel).map fun x => x.2.state x.1) (fun i => [(3, .slice i.2.2.1 i.2.1.length i.2.2.2)])
    (fun i => It it mb c es i.1 :: Me mb es c vv (fun x => ptr x.1) g :: pc b T (linksC l.me mb) :: RecsA g :: SlT true recEC 16 (.slice i.2.2.1 i.2.1.length i.2.2.2) i.2.2.2 i.2.1 :: WaitsA i.2.1 :: F)
    (fun i => l.m.length - i.1.length) ([], [], none, 0) ⟨by simp, by simp, by simp⟩ (by exact subxR rfl) (Up.nilS (enc := recEC) (sz := 16) true (by decide) (.of (.t2 (.t2 (.t2 (.t2 (.t0 (.t0 .rf)))))))) (fun i hi => ?_)
  obtain ⟨d, xs, a3, c3⟩ := i
  obtain ⟨hd1, hd2, hd3⟩ := hi
  simp only at hd1 hd2 hd3 ⊢
  have hdl := nodup_lt2 hd1 hd2
  have hxl : xs.length ≤ d.length := by
    have := congrArg List.length hd3
    simp only [List.length_map] at this
    rw [this]; exact Nat.le_trans (List.length_filter_le _ _) (by simp)
  refine zs ?_
  refine JT.nxt rfl Has.here Has.here (fun i hi hni => ?_) (fun hall => ?_)
  · focus
     refine zc rfl <| zd <| zq <| zt rfl <| zk <| zb <| zs ?_
    refine JT.ent rfl Has.here Has.here hi ?_
    rcases hgi : g[i] with ⟨w, p, a⟩
    have hget : g[i]? = some (w, (p, a)) := by rw [List.getElem?_eq_getElem hi, hgi]
    have hmi : nth l.m i = (w, a) := by
      have : l.m[i]? = some (w, a) := by rw [← he, GM.er, List.getElem?_map, hget]; rfl
      simp [nth, List.getD, this]
    have hmem : (w, a) ∈ l.m := by rw [← hmi, nth_eq (by omega)]; exact List.getElem_mem _
    have hw := hg _ hmem
    have hS := Nat.le_trans (hl.lk _ hmem).le (by decide : 64 ≤ 8388608)
    have hS1 : l.first.lk.w.length ≤ 8388608 := by unfold LK.first; split <;> simp [LS.new]
    simp only at hw hS
    have hrs := fun F => recState_A (w := w) (F := F) hget hS
    have hrf := fun p F => recState_w p l.first w F hS1
    dsimp only
    have hE : ∀ xs' : List RecE, xs'.map (·.s) = xs.map (·.s) ++ (if l.sel (w, a) then [a.state w] else []) → (d ++ [i]).Nodup ∧ (∀ j ∈ d ++ [i], j < l.m.length) ∧ xs'.map (·.s) = (((d ++ [i]).map (nth l.m)).filter l.sel).map fun x => x.2.state x.1 := by
      intro xs' hx
      refine ⟨?_, fun j hj => ?_, ?_⟩
      · rw [List.nodup_append]; exact ⟨hd1, by simp, fun a ha b hb => by simp at hb; subst hb; rintro rfl; exact hni ha⟩
      · rcases List.mem_append.1 hj with hj | hj
        · exact hd2 j hj
        · simp at hj; omega
      · rw [hx, hd3, List.map_append, List.filter_append, List.map_append, List.map_cons, List.map_nil, hmi]
        congr 1
        rw [List.filter_cons, List.filter_nil]
        cases l.sel (w, a) <;> simp
    have hdl2 : d.length + 1 ≤ l.m.length := by
      have h1 := (hE (xs ++ (if h : l.sel (w, a) = true then [⟨a.state w, none, 0, hw⟩] else [])) (by cases l.sel (w, a) <;> simp))
      simpa using nodup_lt2 h1.1 h1.2.1
    focus
     refine zc rfl <| zc rfl <| yN fun b4 => yW rfl rfl rfl rfl rfl <| zw rfl rfl <| yE rfl rfl (.of (.t4 .rf)) (hrs _) fun ⟨a22, c22⟩ _ => yN fun b6 => yW rfl rfl rfl rfl rfl <| yD rfl rfl (.of .rf) lnEnd_fn <| zc rfl <| zn rfl (fun h1 => ?_) (fun h1 => ?_)
     refine zw rfl rfl <| yF rfl (by assumption) <| zw rfl rfl <| yF rfl (by assumption) <| yE rfl rfl (.of .rf) lnFirst_fn fun x29 _ => JT.gaF rfl (by assumption) rfl (Ev.Lw rfl rfl) ?_
     refine JT.gaF rfl (by assumption) rfl (Ev.Lw rfl rfl) ?_
     refine yF rfl (by assumption) <| yE rfl rfl (.of (.t0 .rf)) (hrf _ _) fun ⟨a31, c31⟩ _ => JT.gaF rfl (by assumption) rfl (Ev.Lw rfl rfl) ?_
     refine yF rfl (by assumption) <| yD rfl rfl (.of .rf) lnSame_fn <| yF rfl (by assumption) <| zc rfl <| zy (.pickFp rfl (by assumption) rfl) <| zd <| zi rfl (fun h2 => ?_) (fun h2 => ?_)
     refine zo <| zw rfl rfl <| JT.bsl1 (by repeat (first | exact Cells.nil | apply Cells.z | (apply Cells.cl; rfl; rfl; rfl))) (by simp only [List.length_cons, List.length_nil, Nat.reduceAdd]; rfl) (by decide) (by rfl) fun a37 => ?_
     rotate_left
     refine zk <| ⟨⟨_, ⟨_, ⟨_, _⟩⟩⟩, ?_, ?_, (subxR rfl), (.of (.t6 (.t6 (.t6 (.t4 (.t5 (.t5 (.d (.d (.d (.d (.d .rf))))))))))))⟩
     rotate_left
     rotate_left
     refine yFs rfl (by assumption) <| yFs rfl (by assumption) <| JT.gaFs rfl (by assumption) rfl ?_
     refine JT.gaFs rfl (by assumption) rfl ?_
     refine yFs rfl (by assumption) <| JT.gaFs rfl (by assumption) rfl ?_
     refine yFs rfl (by assumption) <| yFs rfl (by assumption) <| zy (.pickTp rfl (by assumption) rfl) <| zd <| zt rfl <| zo <| zw rfl rfl <| JT.bsl1 (by repeat (first | exact Cells.nil | apply Cells.z | (apply Cells.cl; rfl; rfl; rfl))) (by simp only [List.length_cons, List.length_nil, Nat.reduceAdd]; rfl) (by decide) (by rfl) fun a37 => ?_
     rotate_left
    · refine JT.A1 (v := ⟨a.state w, a22, c22, hw⟩) rfl rfl (by rfl) rfl (by decide) (by omega) (fun a3' c3' hc3 => ?_)
      refine JT.has (c := WaitsA xs) (by (repeat (first | exact Has.here | assumption | apply Has.there))) (JT.has (c := waitsO ⟨a.state w, a22, c22, hw⟩) (by (repeat (first | exact Has.here | assumption | apply Has.there))) (JT.up (fun w hs => hs.imp WaitsA.snoc) ?_))
      focus
       refine zd <| ⟨⟨_, ⟨_, ⟨_, _⟩⟩⟩, ?_, ?_, (subxR rfl), (.of (.tk (.there (.there (.there (.there (.there (.there (.there (.there .here)))))))) (.tk (.there (.there (.there (.there (.there (.there (.there (.there .here)))))))) (.tk (.there (.there (.there (.there (.there (.there (.there (.there .here)))))))) (.t6 (.t1 (.t0 (.d (.d (.d (.d (.d .rf))))))))))))⟩
       rotate_left
       rotate_left
      · exact hE _ (by rw [show l.sel (w, a) = true by simp [LK.sel, h2]]; simp)
      · simp only [List.length_append, List.length_cons, List.length_nil]; omega
    · exact hE _ (by rw [show l.sel (w, a) = false by simp [LK.sel, h1, h2]]; simp)
    · simp only [List.length_append, List.length_cons, List.length_nil]; omega
    · refine JT.A1 (v := ⟨a.state w, a22, c22, hw⟩) rfl rfl (by rfl) rfl (by decide) (by omega) (fun a3' c3' hc3 => ?_)
      refine JT.has (c := WaitsA xs) (by (repeat (first | exact Has.here | assumption | apply Has.there))) (JT.has (c := waitsO ⟨a.state w, a22, c22, hw⟩) (by (repeat (first | exact Has.here | assumption | apply Has.there))) (JT.up (fun w hs => hs.imp WaitsA.snoc) ?_))
      focus
       refine zd <| ⟨⟨_, ⟨_, ⟨_, _⟩⟩⟩, ?_, ?_, (subxR rfl), (.of (.t6 (.t6 (.t6 (.t4 (.t1 (.t0 (.d (.d (.d .rf))))))))))⟩
       rotate_left
       rotate_left
      · exact hE _ (by rw [show l.sel (w, a) = true by simp [LK.sel, h1]]; simp)
      · simp only [List.length_append, List.length_cons, List.length_nil]; omega
  have hP := visit_perm hd1 hd2 (fun j hj => hall j (by omega))
  focus
   refine zc rfl <| zd <| zq <| zu rfl <| zx <| zs <| yE rfl rfl (.of (.t4 .rf)) (slSortS_fn _ _ _ _) fun x40 hx40 => zc rfl <| zd <| zr ?_
  obtain ⟨hp1, hp2⟩ := hx40
  refine retQ_up (fun w hs => (hs.imp (by (repeat (first | exact Has.here | assumption | apply Has.there)) : Has _ (WaitsA xs) _)).imp (WaitsA.perm hp1.symm)) ?_
  refine retQ_up (fun w hs => hs.imp (Imp.me (by (repeat (first | exact Has.here | assumption | apply Has.there)) : Has _ (Me mb es c vv (fun x => ptr x.1) g) _) (Imp.refl _))) ?_
  rw [← hp1.length_eq]
  refine retQS (a3, c3, x40) (.t rfl .nil) ⟨?_, hp2⟩ rfl (.of (.t2 (.t1 (LinksP.fold (.there (.there .here)) .here (.there .here) (by first | assumption | omega | rfl | decide) (.d .rf)))))
  refine (hp1.map (·.s)).trans ?_
  rw [hd3]
  exact (hP.filter _).map _
end Go.Proofs.YtmeajliiloaegaaGreat
