/- Who is stuck: the function. Conditions: none. Not done yet. -/
import Derived.Test.YtojegknfbgflnaaQe
set_option linter.unusedSimpArgs false
set_option linter.unusedVariables false
set_option maxRecDepth 100000
set_option maxHeartbeats 4000000
namespace Go.Proofs.Ytojegknfbgflnaa
open Go Go.SL
attribute [local irreducible] pc rc SlT Me Mt It pt ro pur ex sep old Meets
attribute [local irreducible] HsA

theorem lkStuck_ok {a1 : Option Addr} {c1 : Nat} {xs : List Cl} {F : List Assn} [Hs : HS F (.slice a1 xs.length c1) Cl clC 4 c1 xs] (hS : xs.length ≤ 4096) (hb : ∀ j, j < xs.length → okO (nth xs j).o) :
    Meets Try.prog 35 [.slice a1 xs.length c1] F (Some' (fun _ : Option Addr × Nat => True) (fun x => .tuple #[.slice x.1 (stuckOf xs).length x.2, i64 0]) (fun x => SlT false ownerC 2 (.slice x.1 (stuckOf xs).length x.2) x.2 (stuckOf xs) :: F)) := by
  refine Meets.intro b35 k35 (by simp) ?_
  focus
    refine J.so ?_
    iterate 2 refine JT.c rfl ?_
    refine JT.done ?_
    refine J.so ?_
  refine JT.mkm (fun n : Int => i64 n) hev (fun hm => ?_)
  refine JT.mkm ckv Value.bool (fun wm => ?_)
  refine JT.mkm ov Value.bool (fun sm => ?_)
  focus
    refine JT.y rfl (Ev.agg (by repeat (first | exact Cells.nil | apply Cells.z | (apply Cells.cl; rfl; rfl; rfl)))) ?_
    refine JT.box rfl (fun b20 => ?_)
    refine JT.c rfl ?_
    refine JT.done ?_
    refine J.seq ?_
    refine J.so ?_
    iterate 3 refine JT.c rfl ?_
    refine JT.done ?_
    refine J.block ?_
  refine J.lp (ι := Nat) (fun k => k ≤ xs.length) (fun k => [(23, i64 (k : Int))])
    (fun _ => pc b20 123 [.map (some hm), .map (some wm), .slice none 0 0, .map (some sm)] :: Mt hm (fun n : Int => i64 n) hev [] :: Mt wm ckv Value.bool [] :: Mt sm ov Value.bool [] :: F) (fun k => xs.length - k) 0 (by omega) (by (repeat (first | exact subx_nil | apply subx_dup rfl | apply subx_cons rfl))) (by (first | (refine Up.of ?_; (repeat (first | exact Imp.refl _ | (apply Imp.take; (· (repeat (first | exact Has.here | assumption | apply Has.there)))) | fail | apply Imp.dropT | exact Imp.nil _)); done) | (refine Up.frz (by (repeat (first | exact Has.here | assumption | apply Has.there))) ?_; refine Up.of ?_; (repeat (first | exact Imp.refl _ | (apply Imp.take; (· (repeat (first | exact Has.here | assumption | apply Has.there)))) | fail | apply Imp.dropT | exact Imp.nil _)); done))) (fun k hk => ?_)
  have hbk := hb k
  focus
    refine J.so ?_
    refine JT.y rfl (Ev.int rfl rfl rfl) ?_
    refine JT.done ?_
    refine J.seq ?_
    refine J.c rfl (fun h1 => ?_) (fun h1 => ?_)
    refine J.skip ?_
    refine seqQ_n ?_
    refine J.seq ?_
    refine J.block ?_
    refine J.so ?_
    refine JT.y rfl (Ev.iC rfl rfl (by omega)) ?_
    refine JT.y rfl (Ev.LE rfl (by omega)) ?_
    refine JT.new (fun b6 => ?_)
    refine JT.w rfl rfl rfl rfl rfl ?_
    refine JT.done ?_
    refine J.so ?_
    refine JT.y rfl (Ev.fa' 0 rfl rfl) ?_
    refine JT.y rfl (Ev.Lp (us := [_, _]) rfl (Nat.le_of_ble_eq_true rfl) rfl) ?_
    refine JT.callD rfl rfl (Up.of (Imp.refl _)) (lkCheck_fn _ _) ?_
    refine JT.c rfl ?_
    refine JT.done ?_
    refine J.so ?_
    refine JT.c rfl ?_
    refine JT.y rfl (Ev.int rfl rfl rfl) ?_
    refine JT.done ?_
    refine J.c rfl (fun h2 => ?_) (fun h2 => ?_)
    refine J.so ?_
    iterate 3 refine JT.c rfl ?_
    refine JT.done ?_
    refine J.ret ?_
    refine blockQ_r ?_
    iterate 2 refine seqQ_r ?_
    refine blockQ_r ?_
    refine seqQ_r ?_
    rotate_left
    refine J.skip ?_
    refine blockQ_n ?_
    refine seqQ_n ?_
    refine J.ops ?_
    refine JT.y rfl (Ev.addN rfl rfl (by omega)) ?_
    refine JT.c rfl ?_
    refine JT.done ?_
    refine seqQ_n ?_
    refine ⟨_, ?_, (by omega), (subx_cons rfl (subx_dup rfl (subx_cons rfl (subx_cons rfl (subx_cons rfl (subx_cons rfl (subx_cons rfl (subx_cons rfl (subx_cons rfl (subx_cons rfl (subx_cons rfl (subx_cons rfl (subx_cons rfl subx_nil))))))))))))), (Up.of (.take (.there .here) (.take (.there .here) (.take (.there .here) (.take (.there .here) (.dropT (Imp.refl _)))))))⟩
    omega
    refine J.exit ?_
    iterate 2 refine seqQ_x ?_
    refine blockQ_hit ?_
    refine seqQ_n ?_
    refine J.seq ?_
    refine J.so ?_
    iterate 2 refine JT.c rfl ?_
    refine JT.y rfl (Ev.cgtF rfl rfl (by omega)) ?_
    refine JT.done ?_
    refine J.condF rfl ?_
    refine J.skip ?_
    refine seqQ_n ?_
    refine J.seq ?_
    refine J.so ?_
    iterate 3 refine JT.c rfl ?_
    refine JT.done ?_
    refine J.block ?_
    rotate_left
  · exact absurd (hbk (by omega)) (by assumption)
  refine J.keep [(4, ptr b20), (37, .slice a1 xs.length c1), (38, i64 xs.length), (39, i64 0)] (by (repeat (first | exact subx_nil | apply subx_dup rfl | apply subx_cons rfl))) ?_
  refine J.up (fun w hs => hs.imp HsA.nil) ?_
  refine J.lp (ι := Nat × List (Int × HE) × List (CK × Bool) × List Owner × Option Addr × Nat) (fun i => i.1 ≤ xs.length ∧ Bk (xs.take i.1) i.2.1 i.2.2.1 ∧ i.2.2.2.1 = (xs.take i.1).map (·.o)) (fun i => [(39, i64 (i.1 : Int))])
    (fun i => pc b20 123 [.map (some hm), .map (some wm), .slice i.2.2.2.2.1 i.2.2.2.1.length i.2.2.2.2.2, .map (some sm)] :: SlT true ownerC 2 (.slice i.2.2.2.2.1 i.2.2.2.1.length i.2.2.2.2.2) i.2.2.2.2.2 i.2.2.2.1 :: Mt hm (fun n : Int => i64 n) hev i.2.1 :: HsA i.2.1 :: Mt wm ckv Value.bool i.2.2.1 :: Mt sm ov Value.bool [] :: F)
    (fun i => xs.length - i.1) (0, [], [], [], none, 0) ⟨by simp, Bk.nil, rfl⟩ (by (repeat (first | exact subx_nil | apply subx_dup rfl | apply subx_cons rfl))) (Up.nilS (enc := ownerC) (sz := 2) true (by decide) (by (first | (refine Up.of ?_; (repeat (first | exact Imp.refl _ | (apply Imp.take; (· (repeat (first | exact Has.here | assumption | apply Has.there)))) | fail | apply Imp.dropT | exact Imp.nil _)); done) | (refine Up.frz (by (repeat (first | exact Has.here | assumption | apply Has.there))) ?_; refine Up.of ?_; (repeat (first | exact Imp.refl _ | (apply Imp.take; (· (repeat (first | exact Has.here | assumption | apply Has.there)))) | fail | apply Imp.dropT | exact Imp.nil _)); done)))) (fun i hi => ?_)
  obtain ⟨k2, g, wl, R, a4, c4⟩ := i
  obtain ⟨hk2, hB, hR⟩ := hi
  simp only at hk2 hB hR ⊢
  have hRl : R.length ≤ xs.length := by rw [hR]; simp; omega
  have hHl : ∀ p, (holders g p).length ≤ xs.length := fun p => Nat.le_trans (hB.2.2 p) (by simp; omega)
  focus
    refine J.so ?_
    refine JT.y rfl (Ev.int rfl rfl rfl) ?_
    refine JT.done ?_
    refine J.seq ?_
    refine J.c rfl (fun h2 => ?_) (fun h2 => ?_)
    refine J.skip ?_
    refine seqQ_n ?_
    refine J.seq ?_
    refine J.block ?_
    refine J.so ?_
    refine JT.y rfl (Ev.iC rfl rfl (by omega)) ?_
    refine JT.y rfl (Ev.LE rfl (by omega)) ?_
    refine JT.new (fun b9 => ?_)
    refine JT.w rfl rfl rfl rfl rfl ?_
    refine JT.done ?_
    refine J.so ?_
    iterate 3 refine JT.c rfl ?_
    refine JT.y rfl (Ev.fa' 2 rfl rfl) ?_
    refine JT.y rfl (Ev.L rfl rfl) ?_
    refine JT.y rfl (Ev.fa' 0 rfl rfl) ?_
    refine JT.y rfl (Ev.Lp (us := [_, _]) rfl (Nat.le_of_ble_eq_true rfl) rfl) ?_
    refine JT.bsl1 (by repeat (first | exact Cells.nil | apply Cells.z | (apply Cells.cl; rfl; rfl; rfl))) (by simp only [List.length_cons, List.length_nil, Nat.reduceAdd]; rfl) (by decide) (by rfl) (fun a50 => ?_)
    (refine JT.A1 rfl rfl (by rfl) rfl (by decide) (by (try simp only [List.length_nil, List.length_cons, List.length_append, List.length_take, List.length_drop, List.length_set]); omega) (fun a51 c51 hc51 => ?_))
    refine JT.c rfl ?_
    refine JT.y rfl (Ev.fa' 2 rfl rfl) ?_
    refine JT.s (us := [_]) rfl rfl rfl rfl rfl (Nat.le_of_ble_eq_true rfl) (by simp only [lput]; rfl) ?_
    refine JT.done ?_
    refine J.so ?_
    refine JT.y rfl (Ev.fa' 3 rfl rfl) ?_
    refine JT.y rfl (Ev.L rfl rfl) ?_
    refine JT.done ?_
    refine J.c rfl (fun h3 => ?_) (fun h3 => ?_)
    refine J.ops ?_
    iterate 2 refine JT.c rfl ?_
    refine JT.y rfl (Ev.fa' 0 rfl rfl) ?_
    refine JT.y rfl (Ev.L rfl rfl) ?_
    refine JT.y rfl (Ev.fa' 2 rfl rfl) ?_
    refine JT.y rfl (Ev.L rfl rfl) ?_
    iterate 2 refine JT.c rfl ?_
    refine JT.y rfl (Ev.fa' 0 rfl rfl) ?_
    refine JT.y rfl (Ev.L rfl rfl) ?_
    refine JT.y rfl (Ev.fa' 2 rfl rfl) ?_
    refine JT.y rfl (Ev.L rfl rfl) ?_
    refine JT.lk1 rfl (by rfl) (fun v68 h4 => ?_) (fun h4 => ?_)
    refine JT.y rfl (Ev.fa' 0 rfl rfl) ?_
    refine JT.y rfl (Ev.Lp (us := [_, _]) rfl (Nat.le_of_ble_eq_true rfl) rfl) ?_
    refine JT.bsl1 (by repeat (first | exact Cells.nil | apply Cells.z | (apply Cells.cl; rfl; rfl; rfl))) (by simp only [List.length_cons, List.length_nil, Nat.reduceAdd]; rfl) (by decide) (by rfl) (fun a71 => ?_)
    rotate_left
    refine JT.y rfl (Ev.fa' 0 rfl rfl) ?_
    refine JT.y rfl (Ev.Lp (us := [_, _]) rfl (Nat.le_of_ble_eq_true rfl) rfl) ?_
    refine JT.bsl1 (by repeat (first | exact Cells.nil | apply Cells.z | (apply Cells.cl; rfl; rfl; rfl))) (by simp only [List.length_cons, List.length_nil, Nat.reduceAdd]; rfl) (by decide) (by rfl) (fun a71 => ?_)
    rotate_left
    refine J.ops ?_
    iterate 2 refine JT.c rfl ?_
    refine JT.y rfl (Ev.fa' 1 rfl rfl) ?_
    refine JT.y rfl (Ev.L rfl rfl) ?_
    refine JT.y rfl (Ev.fa' 0 rfl rfl) ?_
    refine JT.y rfl (Ev.Lp (us := [_, _]) rfl (Nat.le_of_ble_eq_true rfl) rfl) ?_
    refine JT.y rfl (Ev.fa' 2 rfl rfl) ?_
    refine JT.y rfl (Ev.L rfl rfl) ?_
    refine JT.y rfl (Ev.agg (by repeat (first | exact Cells.nil | apply Cells.z | (apply Cells.cl; rfl; rfl; rfl)))) ?_
    rotate_left
    refine J.exit ?_
    iterate 2 refine seqQ_x ?_
    refine blockQ_hit ?_
    refine seqQ_n ?_
    refine J.so ?_
    iterate 2 refine JT.c rfl ?_
    refine JT.y rfl (Ev.fa' 2 rfl rfl) ?_
    refine JT.y rfl (Ev.L rfl rfl) ?_
    rotate_left
  · have hl9 := hHl (nth xs k2).place
    rw [holders_some h4] at hl9
    obtain ⟨ix, hget, hput⟩ := HsA.aput_in h4
    refine JT.has (Has.there (Has.there (Has.there (Has.there (Has.there (Has.there Has.here)))))) (JT.up (fun w hs => hs.imp (HsA.take hget)) ?_)
    focus
      (refine JT.A1 rfl rfl (by rfl) rfl (by decide) (by (try simp only [List.length_nil, List.length_cons, List.length_append, List.length_take, List.length_drop, List.length_set]); omega) (fun a72 c72 hc72 => ?_))
      iterate 2 refine JT.yA rfl (Ev.L rfl rfl) ?_
    refine JT.mup (ke := fun n : Int => i64 n) (ve := hev) (kk := (nth xs k2).place) (vv := (a72, c72, v68.2.2 ++ [(nth xs k2).o])) rfl rfl rfl (Has.there (Has.there (Has.there (Has.there (Has.there (Has.there (Has.there Has.here))))))) KO.h ?_
    refine JT.up (fun w hs => hs.imp (Imp.cons (hput (a72, c72, v68.2.2 ++ [(nth xs k2).o]) _))) ?_
    focus
      refine JT.done ?_
      refine blockQ_n ?_
      refine seqQ_n ?_
      refine J.ops ?_
      refine JT.y rfl (Ev.addN rfl rfl (by omega)) ?_
      refine JT.c rfl ?_
      refine JT.done ?_
      refine seqQ_n ?_
    refine ⟨(k2 + 1, aput g (nth xs k2).place (a72, c72, v68.2.2 ++ [(nth xs k2).o]), wl, R ++ [(nth xs k2).o], a51, c51), ⟨by simp only; omega, ?_, ?_⟩, by simp only; omega, by (repeat (first | exact subx_nil | apply subx_dup rfl | apply subx_cons rfl)), by (first | (refine Up.of ?_; (repeat (first | exact Imp.refl _ | (apply Imp.take; (· (repeat (first | exact Has.here | assumption | apply Has.there)))) | fail | apply Imp.dropT | exact Imp.nil _)); done) | (refine Up.frz (by (repeat (first | exact Has.here | assumption | apply Has.there))) ?_; refine Up.of ?_; (repeat (first | exact Imp.refl _ | (apply Imp.take; (· (repeat (first | exact Has.here | assumption | apply Has.there)))) | fail | apply Imp.dropT | exact Imp.nil _)); done))⟩
    · simp only; rw [take_succ_nth (by omega)]; exact hB.held h3 (by rw [holders_some h4])
    · simp only; rw [take_succ_nth (by omega), hR]; simp
  · refine JT.nilS ownerC 2 true (by decide) ?_
    focus
      (refine JT.A1 rfl rfl (by rfl) rfl (by decide) (by (try simp only [List.length_nil, List.length_cons, List.length_append, List.length_take, List.length_drop, List.length_set]); omega) (fun a72 c72 hc72 => ?_))
      iterate 2 refine JT.yA rfl (Ev.L rfl rfl) ?_
    refine JT.mup (ke := fun n : Int => i64 n) (ve := hev) (kk := (nth xs k2).place) (vv := (a72, c72, [] ++ [(nth xs k2).o])) rfl rfl rfl (Has.there (Has.there (Has.there (Has.there (Has.there (Has.there Has.here)))))) KO.h ?_
    refine JT.has (Has.there (Has.there (Has.there (Has.there (Has.there (Has.there (Has.there Has.here))))))) ?_
    refine JT.has (Has.there (Has.there Has.here)) (JT.up (fun w hs => hs.imp (HsA.aput_no (v := (a72, c72, [] ++ [(nth xs k2).o])) h4)) ?_)
    focus
      refine JT.done ?_
      refine blockQ_n ?_
      refine seqQ_n ?_
      refine J.ops ?_
      refine JT.y rfl (Ev.addN rfl rfl (by omega)) ?_
      refine JT.c rfl ?_
      refine JT.done ?_
      refine seqQ_n ?_
    refine ⟨(k2 + 1, aput g (nth xs k2).place (a72, c72, [] ++ [(nth xs k2).o]), wl, R ++ [(nth xs k2).o], a51, c51), ⟨by simp only; omega, ?_, ?_⟩, by simp only; omega, by (repeat (first | exact subx_nil | apply subx_dup rfl | apply subx_cons rfl)), by (first | (refine Up.of ?_; (repeat (first | exact Imp.refl _ | (apply Imp.take; (· (repeat (first | exact Has.here | assumption | apply Has.there)))) | fail | apply Imp.dropT | exact Imp.nil _)); done) | (refine Up.frz (by (repeat (first | exact Has.here | assumption | apply Has.there))) ?_; refine Up.of ?_; (repeat (first | exact Imp.refl _ | (apply Imp.take; (· (repeat (first | exact Has.here | assumption | apply Has.there)))) | fail | apply Imp.dropT | exact Imp.nil _)); done))⟩
    · simp only; rw [take_succ_nth (by omega)]; exact hB.held h3 (by rw [holders, h4])
    · simp only; rw [take_succ_nth (by omega), hR]; simp
  · refine JT.mup (ke := ckv) (ve := Value.bool) (kk := ((nth xs k2).o, (nth xs k2).place)) (vv := true) rfl rfl rfl (Has.there (Has.there (Has.there (Has.there (Has.there (Has.there Has.here)))))) KO.h ?_
    focus
      refine JT.done ?_
      refine blockQ_n ?_
      refine seqQ_n ?_
      refine J.ops ?_
      refine JT.y rfl (Ev.addN rfl rfl (by omega)) ?_
      refine JT.c rfl ?_
      refine JT.done ?_
      refine seqQ_n ?_
    refine ⟨(k2 + 1, g, aput wl ((nth xs k2).o, (nth xs k2).place) true, R ++ [(nth xs k2).o], a51, c51), ⟨by simp only; omega, ?_, ?_⟩, by simp only; omega, by (repeat (first | exact subx_nil | apply subx_dup rfl | apply subx_cons rfl)), by (first | (refine Up.of ?_; (repeat (first | exact Imp.refl _ | (apply Imp.take; (· (repeat (first | exact Has.here | assumption | apply Has.there)))) | fail | apply Imp.dropT | exact Imp.nil _)); done) | (refine Up.frz (by (repeat (first | exact Has.here | assumption | apply Has.there))) ?_; refine Up.of ?_; (repeat (first | exact Imp.refl _ | (apply Imp.take; (· (repeat (first | exact Has.here | assumption | apply Has.there)))) | fail | apply Imp.dropT | exact Imp.nil _)); done))⟩
    · simp only; rw [take_succ_nth (by omega)]; exact hB.waits h3 true
    · simp only; rw [take_succ_nth (by omega), hR]; simp
  have hk2' : k2 = xs.length := by omega
  rw [hk2', List.take_length] at hB hR
  have hrd : ∀ S o, rdyM g wl S o = rdy xs S o := fun S o => rdyM_eq hB.1 hB.2.1
  refine JT.callS rfl rfl (Up.of (.take (.there .here) (Imp.refl _))) (slSortO_fn R a4 c4 _) (fun ys hys => ?_)
  have hda : dedup ys = alls xs := dedup_alls (by rw [← hR]; exact hys.1) hys.2
  have hyl : R.length = ys.length := hys.1.length_eq.symm
  have hCo : ∀ (F : List Assn), Meets Try.prog 70 [.slice a4 ys.length c4] (SlT true ownerC 2 (.slice a4 ys.length c4) c4 ys :: F) (Some' (fun _ : Option Addr × Nat => True) (fun x => .slice x.1 (alls xs).length x.2) (fun x => SlT true ownerC 2 (.slice x.1 (alls xs).length x.2) x.2 (alls xs) :: F)) := fun F => by
    rw [← hda]; exact slCompO_fn ys a4 c4 F
  rw [hyl]
  focus
    refine JT.done ?_
    refine J.so ?_
    iterate 3 refine JT.c rfl ?_
    refine JT.y rfl (Ev.fa' 2 rfl rfl) ?_
    refine JT.y rfl (Ev.L rfl rfl) ?_
    refine JT.callS rfl rfl (Up.of (.take .here (Imp.refl _))) (hCo _) (fun ⟨a93, c93⟩ _ => ?_)
    refine JT.c rfl ?_
    refine JT.y rfl (Ev.fa' 2 rfl rfl) ?_
    refine JT.s (us := [_]) rfl rfl rfl rfl rfl (Nat.le_of_ble_eq_true rfl) (by simp only [lput]; rfl) ?_
    refine JT.done ?_
    refine J.seq ?_
    refine J.so ?_
    refine JT.c rfl ?_
    refine JT.done ?_
    refine J.block ?_
  have hRdy : ∀ (S : List Owner) (o : Owner) (F : List Assn), Meets Try.prog 71 [ptr b20, ov o] (pc b20 123 [.map (some hm), .map (some wm), .slice a93 (alls xs).length c93, .map (some sm)] :: Mt hm (fun n : Int => i64 n) hev g :: HsA g :: Mt wm ckv Value.bool wl :: Mt sm ov Value.bool (S.map fun x => (x, true)) :: F)
      (Det (.bool (rdy xs S o)) (pc b20 123 [.map (some hm), .map (some wm), .slice a93 (alls xs).length c93, .map (some sm)] :: Mt hm (fun n : Int => i64 n) hev g :: HsA g :: Mt wm ckv Value.bool wl :: Mt sm ov Value.bool (S.map fun x => (x, true)) :: F)) := fun S o F => by
    rw [← hrd]; exact lkReady_fn g wl S o F
  have hal : (alls xs).length ≤ xs.length := by rw [← allsK_end]; exact allsK_len xs xs.length
  refine J.keep [(4, ptr b20), (10, .bool true)] (by (repeat (first | exact subx_nil | apply subx_dup rfl | apply subx_cons rfl))) ?_
  refine J.lp (ι := Nat × Bool × List Owner) (fun i => i.2.2 = passes xs (alls xs) i.1 ∧ (i.2.1 = false → pass xs (alls xs) i.2.2 = i.2.2)) (fun i => [(10, .bool i.2.1)])
    (fun i => pc b20 123 [.map (some hm), .map (some wm), .slice a93 (alls xs).length c93, .map (some sm)] :: SlT true ownerC 2 (.slice a93 (alls xs).length c93) c93 (alls xs) :: Mt hm (fun n : Int => i64 n) hev g :: HsA g :: Mt wm ckv Value.bool wl :: Mt sm ov Value.bool (i.2.2.map fun x => (x, true)) :: F)
    (fun i => (if i.2.1 then 1 else 0) + ((alls xs).length - i.2.2.length)) (0, true, []) ⟨rfl, fun h => by cases h⟩ (by (repeat (first | exact subx_nil | apply subx_dup rfl | apply subx_cons rfl))) (by (first | (refine Up.of ?_; (repeat (first | exact Imp.refl _ | (apply Imp.take; (· (repeat (first | exact Has.here | assumption | apply Has.there)))) | fail | apply Imp.dropT | exact Imp.nil _)); done) | (refine Up.frz (by (repeat (first | exact Has.here | assumption | apply Has.there))) ?_; refine Up.of ?_; (repeat (first | exact Imp.refl _ | (apply Imp.take; (· (repeat (first | exact Has.here | assumption | apply Has.there)))) | fail | apply Imp.dropT | exact Imp.nil _)); done))) (fun i hi => ?_)
  obtain ⟨n, more, S⟩ := i
  obtain ⟨hS1, hS2⟩ := hi
  simp only at hS1 hS2 ⊢
  focus
    refine J.seq ?_
    refine J.so ?_
    refine JT.c rfl ?_
    refine JT.done ?_
    refine J.c rfl (fun h3 => ?_) (fun h3 => ?_)
    refine J.skip ?_
    refine seqQ_n ?_
    refine J.block ?_
    refine J.so ?_
    refine JT.c rfl ?_
    refine JT.done ?_
    refine J.so ?_
    iterate 2 refine JT.c rfl ?_
    refine JT.y rfl (Ev.fa' 2 rfl rfl) ?_
    refine JT.y rfl (Ev.L rfl rfl) ?_
    iterate 2 refine JT.c rfl ?_
    refine JT.done ?_
    refine J.block ?_
    rotate_left
    refine J.exit ?_
    iterate 2 refine seqQ_x ?_
    refine blockQ_hit ?_
    refine seqQ_n ?_
    refine J.so ?_
    refine JT.c rfl ?_
    refine JT.done ?_
    refine J.seq ?_
    refine J.so ?_
    iterate 2 refine JT.c rfl ?_
    refine JT.y rfl (Ev.fa' 2 rfl rfl) ?_
    refine JT.y rfl (Ev.L rfl rfl) ?_
    iterate 2 refine JT.c rfl ?_
    refine JT.done ?_
    refine J.block ?_
    rotate_left
  · refine J.lp (ι := Nat × Bool × List Owner) (fun i => i.1 ≤ (alls xs).length ∧ i.2.2 = passK xs n i.1 ∧ (i.2.1 = false → i.2.2 = S) ∧ (i.2.1 = true → S.length < i.2.2.length)) (fun i => [(102, i64 (i.1 : Int)), (10, .bool i.2.1)])
      (fun i => pc b20 123 [.map (some hm), .map (some wm), .slice a93 (alls xs).length c93, .map (some sm)] :: SlT true ownerC 2 (.slice a93 (alls xs).length c93) c93 (alls xs) :: Mt hm (fun n : Int => i64 n) hev g :: HsA g :: Mt wm ckv Value.bool wl :: Mt sm ov Value.bool (i.2.2.map fun x => (x, true)) :: F)
      (fun i => (alls xs).length - i.1) (0, false, S) ⟨by simp, hS1, fun _ => rfl, fun h => by cases h⟩ (by (repeat (first | exact subx_nil | apply subx_dup rfl | apply subx_cons rfl))) (by (first | (refine Up.of ?_; (repeat (first | exact Imp.refl _ | (apply Imp.take; (· (repeat (first | exact Has.here | assumption | apply Has.there)))) | fail | apply Imp.dropT | exact Imp.nil _)); done) | (refine Up.frz (by (repeat (first | exact Has.here | assumption | apply Has.there))) ?_; refine Up.of ?_; (repeat (first | exact Imp.refl _ | (apply Imp.take; (· (repeat (first | exact Has.here | assumption | apply Has.there)))) | fail | apply Imp.dropT | exact Imp.nil _)); done))) (fun i hi => ?_)
    obtain ⟨j, m, S'⟩ := i
    obtain ⟨hj, hS7, hm1, hm2⟩ := hi
    simp only at hj hS7 hm1 hm2 ⊢
    focus
      refine J.so ?_
      refine JT.y rfl (Ev.int rfl rfl rfl) ?_
      refine JT.done ?_
      refine J.seq ?_
      refine J.c rfl (fun h4 => ?_) (fun h4 => ?_)
      refine J.skip ?_
      refine seqQ_n ?_
      refine J.seq ?_
      refine J.block ?_
      refine J.so ?_
      refine JT.y rfl (Ev.iC rfl rfl (by omega)) ?_
      refine JT.y rfl (Ev.LE rfl (by omega)) ?_
      refine JT.new (fun b12 => ?_)
      refine JT.w rfl rfl rfl rfl rfl ?_
      refine JT.done ?_
      refine J.so ?_
      iterate 2 refine JT.c rfl ?_
      refine JT.y rfl (Ev.fa' 3 rfl rfl) ?_
      refine JT.y rfl (Ev.L rfl rfl) ?_
      refine JT.y rfl (Ev.Lw rfl rfl) ?_
      refine JT.lk1 rfl (by rfl) (fun v111 h5 => ?_) (fun h5 => ?_)
      iterate 2 refine JT.c rfl ?_
      refine JT.gp rfl (fun h6 => ?_) (fun h6 => ?_)
      refine JT.c rfl ?_
      refine JT.gT rfl (by first | assumption | omega) ?_
      refine JT.y rfl (Ev.Lw rfl rfl) ?_
      refine JT.gT rfl (by first | assumption | omega) ?_
      refine JT.callD rfl rfl (Up.of (.take (.there .here) (.take (.there (.there .here)) (.take (.there (.there .here)) (.take (.there (.there .here)) (.take (.there (.there .here)) (Imp.refl _))))))) (hRdy _ _ _) ?_
      refine JT.y rfl (Ev.pickTp rfl (by first | assumption | omega) rfl) ?_
      refine JT.done ?_
      refine J.c rfl (fun h7 => ?_) (fun h7 => ?_)
      refine J.ops ?_
      iterate 2 refine JT.c rfl ?_
      refine JT.y rfl (Ev.fa' 3 rfl rfl) ?_
      refine JT.y rfl (Ev.L rfl rfl) ?_
      refine JT.y rfl (Ev.Lw rfl rfl) ?_
      rotate_left
      refine J.skip ?_
      refine blockQ_n ?_
      refine seqQ_n ?_
      refine J.ops ?_
      refine JT.y rfl (Ev.addN rfl rfl (by omega)) ?_
      refine JT.c rfl ?_
      refine JT.done ?_
      refine seqQ_n ?_
      refine ⟨⟨_, ⟨_, _⟩⟩, ?_, (by omega), (subx_cons rfl (subx_cons rfl (subx_dup rfl (subx_cons rfl (subx_cons rfl (subx_cons rfl (subx_cons rfl (subx_cons rfl (subx_dup rfl (subx_cons rfl (subx_dup rfl (subx_cons rfl (subx_dup rfl subx_nil))))))))))))), (Up.of (.take .here (.take (.there (.there (.there (.there (.there .here))))) (.take .here (.take .here (.take .here (.take .here (.dropT (Imp.refl _)))))))))⟩
      rotate_left
      iterate 2 refine JT.gTs rfl (by first | assumption | omega) ?_
      refine JT.y rfl (Ev.pickFp rfl (by first | assumption | omega) rfl) ?_
      refine JT.done ?_
      refine J.condF rfl ?_
      refine J.skip ?_
      refine blockQ_n ?_
      refine seqQ_n ?_
      refine J.ops ?_
      refine JT.y rfl (Ev.addN rfl rfl (by omega)) ?_
      refine JT.c rfl ?_
      refine JT.done ?_
      refine seqQ_n ?_
      refine ⟨⟨_, ⟨_, _⟩⟩, ?_, (by omega), (subx_cons rfl (subx_cons rfl (subx_dup rfl (subx_cons rfl (subx_cons rfl (subx_cons rfl (subx_cons rfl (subx_cons rfl (subx_dup rfl (subx_cons rfl (subx_dup rfl (subx_cons rfl (subx_dup rfl subx_nil))))))))))))), (Up.of (.take (.there .here) (.take (.there .here) (.take (.there .here) (.take (.there .here) (.take (.there .here) (.take (.there .here) (.dropT (Imp.refl _)))))))))⟩
      rotate_left
      iterate 2 refine JT.c rfl ?_
      refine JT.gk rfl ?_
      refine JT.c rfl ?_
      refine JT.gk rfl ?_
      refine JT.y rfl (Ev.Lw rfl rfl) ?_
      refine JT.gk rfl ?_
      refine JT.callD rfl rfl (Up.of (.take (.there .here) (.take (.there (.there .here)) (.take (.there (.there .here)) (.take (.there (.there .here)) (.take (.there (.there .here)) (Imp.refl _))))))) (hRdy _ _ _) ?_
      refine JT.y rfl (Ev.pickT rfl rfl) ?_
      refine JT.done ?_
      refine J.c rfl (fun h6 => ?_) (fun h6 => ?_)
      refine J.ops ?_
      iterate 2 refine JT.c rfl ?_
      refine JT.y rfl (Ev.fa' 3 rfl rfl) ?_
      refine JT.y rfl (Ev.L rfl rfl) ?_
      refine JT.y rfl (Ev.Lw rfl rfl) ?_
      rotate_left
      refine J.skip ?_
      refine blockQ_n ?_
      refine seqQ_n ?_
      refine J.ops ?_
      refine JT.y rfl (Ev.addN rfl rfl (by omega)) ?_
      refine JT.c rfl ?_
      refine JT.done ?_
      refine seqQ_n ?_
      refine ⟨⟨_, ⟨_, _⟩⟩, ?_, (by omega), (subx_cons rfl (subx_cons rfl (subx_dup rfl (subx_cons rfl (subx_cons rfl (subx_cons rfl (subx_cons rfl (subx_cons rfl (subx_dup rfl (subx_cons rfl (subx_dup rfl (subx_cons rfl (subx_dup rfl subx_nil))))))))))))), (Up.of (.take .here (.take (.there (.there (.there (.there (.there .here))))) (.take .here (.take .here (.take .here (.take .here (.dropT (Imp.refl _)))))))))⟩
      rotate_left
      refine J.exit ?_
      iterate 2 refine seqQ_x ?_
      refine blockQ_hit ?_
      refine blockQ_n ?_
      refine seqQ_n ?_
      rotate_left
    · rw [alkS] at h5; subst h6; split at h5 <;> simp at h5
    · rw [alkS] at h5; subst h6; split at h5 <;> simp at h5
    · refine ⟨by simp only; omega, ?_, hm1, hm2⟩
      simp only
      rw [alkS] at h5
      split at h5
      · rw [passK_succ (by omega), ← hS7, serve1, if_pos (.inl (by assumption))]
      · simp at h5
    · have hno : nth (alls xs) j ∉ S' := by intro h; rw [alkS, if_pos h] at h5; cases h5
      refine JT.mpes (ke := ov) (ve := Value.bool) (kk := nth (alls xs) j) (vv := true) rfl rfl (fun _ _ => rfl) (fun _ _ => rfl) (by simp) (Has.there (Has.there (Has.there (Has.there Has.here)))) KO.h (fun _ _ => ?_)
      rw [mapS_put hno]
      focus
        refine JT.c rfl ?_
        refine JT.done ?_
        refine blockQ_n ?_
        refine seqQ_n ?_
        refine J.ops ?_
        refine JT.y rfl (Ev.addN rfl rfl (by omega)) ?_
        refine JT.c rfl ?_
        refine JT.done ?_
        refine seqQ_n ?_
        refine ⟨⟨_, ⟨_, _⟩⟩, ?_, (by omega), (subx_cons rfl (subx_cons rfl (subx_dup rfl (subx_cons rfl (subx_cons rfl (subx_cons rfl (subx_cons rfl (subx_cons rfl (subx_dup rfl (subx_cons rfl (subx_dup rfl (subx_cons rfl (subx_dup rfl subx_nil))))))))))))), (Up.of (.take (.there .here) (.take (.there (.there (.there (.there (.there .here))))) (.take (.there .here) (.take (.there .here) (.take (.there .here) (.take .here (.dropT (Imp.refl _)))))))))⟩
      refine ⟨by simp only; omega, ?_, fun h => (by cases h), fun _ => ?_⟩
      · simp only
        rw [passK_succ (by omega), ← hS7, serve1, if_neg (by
          rintro (h | h)
          · exact hno h
          · rw [h6] at h; cases h)]
      · simp only [List.length_append, List.length_cons, List.length_nil]
        cases m with
        | false => rw [hm1 rfl]; omega
        | true => have := hm2 rfl; omega
    · have hno : nth (alls xs) j ∉ S' := by intro h; rw [alkS, if_pos h] at h5; cases h5
      refine ⟨by simp only; omega, ?_, hm1, hm2⟩
      simp only
      rw [passK_succ (by omega), ← hS7, serve1, if_pos (.inr (by assumption))]
    have hj' : j = (alls xs).length := by omega
    rw [hj', passK_end] at hS7
    have hpl : S'.length ≤ (alls xs).length := by rw [hS7]; exact passes_len xs (alls xs) (n + 1)
    refine ⟨(n + 1, m, S'), ⟨hS7, fun h => ?_⟩, ?_, by (repeat (first | exact subx_nil | apply subx_dup rfl | apply subx_cons rfl)), by (first | (refine Up.of ?_; (repeat (first | exact Imp.refl _ | (apply Imp.take; (· (repeat (first | exact Has.here | assumption | apply Has.there)))) | fail | apply Imp.dropT | exact Imp.nil _)); done) | (refine Up.frz (by (repeat (first | exact Has.here | assumption | apply Has.there))) ?_; refine Up.of ?_; (repeat (first | exact Imp.refl _ | (apply Imp.take; (· (repeat (first | exact Has.here | assumption | apply Has.there)))) | fail | apply Imp.dropT | exact Imp.nil _)); done))⟩
    · simp only at h ⊢
      have e := hm1 h
      rw [e] at hS7 ⊢
      exact (hS7.trans (by rw [passes, ← hS1])).symm
    · simp only
      rw [h3]
      cases m with
      | false => rw [hm1 rfl]; simp
      | true => have := hm2 rfl; simp; omega
  have e6 : S = SL.served xs (alls xs) := by rw [hS1]; exact passes_end (by rw [← hS1]; exact hS2 h3)
  refine J.keep [(4, ptr b20), (13, .slice none 0 0), (129, .slice a93 (alls xs).length c93), (130, i64 ((alls xs).length : Int)), (131, i64 0)] (by (repeat (first | exact subx_nil | apply subx_dup rfl | apply subx_cons rfl))) ?_
  refine J.lp (ι := Nat × List Owner × Option Addr × Nat) (fun i => i.1 ≤ (alls xs).length ∧ i.2.1 = outK xs i.1) (fun i => [(13, .slice i.2.2.1 i.2.1.length i.2.2.2), (131, i64 (i.1 : Int))])
    (fun i => SlT true ownerC 2 (.slice i.2.2.1 i.2.1.length i.2.2.2) i.2.2.2 i.2.1 :: pc b20 123 [.map (some hm), .map (some wm), .slice a93 (alls xs).length c93, .map (some sm)] :: SlT true ownerC 2 (.slice a93 (alls xs).length c93) c93 (alls xs) :: Mt sm ov Value.bool (S.map fun x => (x, true)) :: F)
    (fun i => (alls xs).length - i.1) (0, [], none, 0) ⟨by simp, rfl⟩ (by (repeat (first | exact subx_nil | apply subx_dup rfl | apply subx_cons rfl))) (Up.nilS (enc := ownerC) (sz := 2) true (by decide) (by (first | (refine Up.of ?_; (repeat (first | exact Imp.refl _ | (apply Imp.take; (· (repeat (first | exact Has.here | assumption | apply Has.there)))) | fail | apply Imp.dropT | exact Imp.nil _)); done) | (refine Up.frz (by (repeat (first | exact Has.here | assumption | apply Has.there))) ?_; refine Up.of ?_; (repeat (first | exact Imp.refl _ | (apply Imp.take; (· (repeat (first | exact Has.here | assumption | apply Has.there)))) | fail | apply Imp.dropT | exact Imp.nil _)); done)))) (fun i hi => ?_)
  obtain ⟨j, O, a7, c7⟩ := i
  obtain ⟨hj, hO⟩ := hi
  simp only at hj hO ⊢
  have hpl : O.length ≤ (alls xs).length := by rw [hO]; exact outK_len xs j
  focus
    refine J.so ?_
    refine JT.y rfl (Ev.int rfl rfl rfl) ?_
    refine JT.done ?_
    refine J.seq ?_
    refine J.c rfl (fun h4 => ?_) (fun h4 => ?_)
    refine J.skip ?_
    refine seqQ_n ?_
    refine J.seq ?_
    refine J.block ?_
    refine J.so ?_
    refine JT.y rfl (Ev.iC rfl rfl (by omega)) ?_
    refine JT.y rfl (Ev.LE rfl (by omega)) ?_
    refine JT.new (fun b15 => ?_)
    refine JT.w rfl rfl rfl rfl rfl ?_
    refine JT.done ?_
    refine J.so ?_
    iterate 2 refine JT.c rfl ?_
    refine JT.y rfl (Ev.fa' 3 rfl rfl) ?_
    refine JT.y rfl (Ev.L rfl rfl) ?_
    refine JT.y rfl (Ev.Lw rfl rfl) ?_
    refine JT.lk1 rfl (by rfl) (fun v140 h5 => ?_) (fun h5 => ?_)
    refine JT.c rfl ?_
    refine JT.done ?_
    refine J.c rfl (fun h6 => ?_) (fun h6 => ?_)
    refine J.ops ?_
    refine JT.c rfl ?_
    refine JT.y rfl (Ev.Lw rfl rfl) ?_
    refine JT.bsl1 (by repeat (first | exact Cells.nil | apply Cells.z | (apply Cells.cl; rfl; rfl; rfl))) (by simp only [List.length_cons, List.length_nil, Nat.reduceAdd]; rfl) (by decide) (by rfl) (fun a144 => ?_)
    (refine JT.A1 rfl rfl (by rfl) rfl (by decide) (by (try simp only [List.length_nil, List.length_cons, List.length_append, List.length_take, List.length_drop, List.length_set]); omega) (fun a145 c145 hc145 => ?_))
    refine JT.c rfl ?_
    refine JT.done ?_
    refine blockQ_n ?_
    refine seqQ_n ?_
    refine J.ops ?_
    refine JT.y rfl (Ev.addN rfl rfl (by omega)) ?_
    refine JT.c rfl ?_
    refine JT.done ?_
    refine seqQ_n ?_
    refine ⟨⟨_, ⟨_, ⟨_, _⟩⟩⟩, ?_, (by omega), (subx_cons rfl (subx_cons rfl (subx_cons rfl (subx_dup rfl (subx_cons rfl (subx_cons rfl (subx_dup rfl subx_nil))))))), (Up.of (.take .here (.take (.there (.there .here)) (.take (.there (.there .here)) (.take (.there (.there .here)) (.dropT (.dropT (Imp.refl _))))))))⟩
    rotate_left
    refine J.skip ?_
    refine blockQ_n ?_
    refine seqQ_n ?_
    refine J.ops ?_
    refine JT.y rfl (Ev.addN rfl rfl (by omega)) ?_
    refine JT.c rfl ?_
    refine JT.done ?_
    refine seqQ_n ?_
    refine ⟨⟨_, ⟨_, ⟨_, _⟩⟩⟩, ?_, (by omega), (subx_cons rfl (subx_cons rfl (subx_cons rfl (subx_dup rfl (subx_cons rfl (subx_cons rfl (subx_dup rfl subx_nil))))))), (Up.of (.take (.there .here) (.take (.there .here) (.take (.there .here) (.take (.there .here) (.dropT (Imp.refl _)))))))⟩
    rotate_left
    refine JT.c rfl ?_
    refine JT.done ?_
    refine J.condT rfl ?_
    refine J.ops ?_
    refine JT.c rfl ?_
    refine JT.y rfl (Ev.Lw rfl rfl) ?_
    refine JT.bsl1 (by repeat (first | exact Cells.nil | apply Cells.z | (apply Cells.cl; rfl; rfl; rfl))) (by simp only [List.length_cons, List.length_nil, Nat.reduceAdd]; rfl) (by decide) (by rfl) (fun a144 => ?_)
    (refine JT.A1 rfl rfl (by rfl) rfl (by decide) (by (try simp only [List.length_nil, List.length_cons, List.length_append, List.length_take, List.length_drop, List.length_set]); omega) (fun a145 c145 hc145 => ?_))
    refine JT.c rfl ?_
    refine JT.done ?_
    refine blockQ_n ?_
    refine seqQ_n ?_
    refine J.ops ?_
    refine JT.y rfl (Ev.addN rfl rfl (by omega)) ?_
    refine JT.c rfl ?_
    refine JT.done ?_
    refine seqQ_n ?_
    refine ⟨⟨_, ⟨_, ⟨_, _⟩⟩⟩, ?_, (by omega), (subx_cons rfl (subx_cons rfl (subx_cons rfl (subx_dup rfl (subx_cons rfl (subx_cons rfl (subx_dup rfl subx_nil))))))), (Up.of (.take .here (.take (.there (.there .here)) (.take (.there (.there .here)) (.take (.there (.there .here)) (.dropT (.dropT (Imp.refl _))))))))⟩
    rotate_left
    refine J.exit ?_
    iterate 2 refine seqQ_x ?_
    refine blockQ_hit ?_
    refine seqQ_n ?_
    refine J.so ?_
    iterate 3 refine JT.c rfl ?_
    refine JT.done ?_
    refine J.ret ?_
    rotate_left
  · rw [alkS] at h5; subst h6; split at h5 <;> simp at h5
  · refine ⟨by simp only; omega, ?_⟩
    simp only
    rw [alkS] at h5
    split at h5
    · rw [outK_succ (by omega), ← hO, if_pos (by rw [← e6]; assumption)]
    · simp at h5
  · have hno : nth (alls xs) j ∉ S := by intro h; rw [alkS, if_pos h] at h5; cases h5
    refine ⟨by simp only; omega, ?_⟩
    simp only
    rw [outK_succ (by omega), ← hO, if_neg (by rw [← e6]; exact hno)]
  rw [← outK_end, show (alls xs).length = j by omega, ← hO]
  focus
    refine retQS ⟨_, _⟩ (.t rfl (.t rfl .nil)) trivial rfl (Up.frz .here (Up.of (.take .here (.dropT (.dropT (.dropT (Imp.refl _)))))))
end Go.Proofs.Ytojegknfbgflnaa
