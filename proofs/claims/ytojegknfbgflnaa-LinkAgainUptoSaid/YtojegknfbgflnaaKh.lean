/- The law LinkAgain: what its functions do. Conditions: none. -/
import Derived.Test.YtojegknfbgflnaaKf
set_option linter.unusedSimpArgs false
set_option linter.unusedVariables false
set_option maxRecDepth 100000
set_option maxHeartbeats 2000000
namespace Go.Proofs.Ytojegknfbgflnaa
open Go Go.SL
attribute [local irreducible] pc rc SlT Me Mt It pt ro pur ex sep old Meets
attribute [local irreducible] LockP RecP RecsA LinksP LinksH

theorem lnGet_is (b : Nat) (l : LK) (w : Vec) (F : List Assn) (hl : l.Inv) {s : RecS} {y : Bool} (hb : l.getB w = y) (hs : l.getS w = s) : Meets Try.prog 30 [ptr b, vv w] (LinksP b l :: F)
    (Some' (fun _ : Option Addr × Nat => True) (fun x => .tuple #[rsv s x.1 x.2, .bool y]) (fun x => SlT false ownerC 2 (.slice x.1 s.waits.length x.2) x.2 s.waits :: LinksP b (l.touch w) :: F)) := by
  subst hb hs; exact lnGet_I b l w F hl
theorem lnOut_is (b : Nat) (l : LK) (w : Vec) (o : Owner) (F : List Assn) (hl : l.Inv) {l' : LK} {ws : List Owner} {e : Int} (he : l.out w o = (l', ws, e)) : Meets Try.prog 32 [ptr b, vv w, ov o] (LinksP b l :: F)
    (Some' (fun _ : Option Addr × Nat => True) (fun x => .tuple #[.slice x.1 ws.length x.2, i64 e]) (fun x => SlT false ownerC 2 (.slice x.1 ws.length x.2) x.2 ws :: LinksP b l' :: F)) := by
  have := lnOut_fn b l w o F hl; rw [he] at this; exact this
theorem lnPut_is (b : Nat) (l : LK) (w : Vec) (x y : Ref) (o : Owner) (F : List Assn) {l' : LK} {e : Int} (he : l.put w x y o = (l', e)) : Meets Try.prog 34 [ptr b, vv w, rv x, rv y, ov o] (LinksP b l :: F) (Det (i64 e) (LinksP b l' :: F)) := by
  have := lnPut_fn b l w x y o F; rw [he] at this; exact this

theorem LinkAgain_fn {a1 : Option Addr} {c1 : Nat} {xs : List KOp} (me : Ref) (w : Vec) (p q : Ref) (o : Owner) {F : List Assn} [Hs : HS F (.slice a1 xs.length c1) KOp kopC 15 c1 xs] :
    Meets Try.prog 9 [rv me, .slice a1 xs.length c1, vv w, rv p, rv q, ov o] F (Det (.bool true) F) := by
  refine Meets.intro b9 k9 (by simp) ?_
  by_cases hme : keyOk me.key ∧ vecOk me.vec
  · obtain ⟨h1, h2⟩ := hme
    obtain ⟨L, hL⟩ : ∃ L, L = LK.run me xs (min xs.length 60) := ⟨_, rfl⟩
    have I : L.Inv := by rw [hL]; exact LK.run_inv me xs _ (by omega)
    have hM : L.me = me := by rw [hL]; exact LK.run_me me xs _ (by omega)
    have hP : ∀ {F : List Assn} [HS F (.slice a1 xs.length c1) KOp kopC 15 c1 xs], Meets Try.prog 29 [rv me, .slice a1 xs.length c1] F (Some' (fun _ : Nat => True) (fun b => ptr b) (fun b => LinksP b L :: F)) := by
      intro F _; rw [hL]; exact l08play_ok me h1 h2
    clear hL
    obtain ⟨L3, e3, hp3⟩ : ∃ l e, (⟨me, []⟩ : LK).put w p q o = (l, e) := ⟨_, _, rfl⟩
    have I3 : L3.Inv := by
      have := (LK.Inv.new me).act ⟨1, w, p, q, o⟩
      unfold LK.act at this; simp only [if_true] at this; rw [hp3] at this; exact this
    have fin : ∀ (l l2 : LK) (e : Int), l.Inv → l.me = me → alk l.m w = none → ¬ (l.isEnd ∧ l.may w) → l.put w p q o = (l2, e) → e = e3 ∧ l2.Inv ∧ l2.getB w = L3.getB w ∧ l2.getS w = L3.getS w := by
      intro l l2 e Il hm g1 g2 hp
      obtain ⟨f1, f2⟩ := put_fresh hm g1 g2 p q o
      rw [hp, hp3] at f1 f2
      have Ia := Il.act ⟨1, w, p, q, o⟩
      unfold LK.act at Ia; simp only [if_true] at Ia; rw [hp] at Ia
      exact ⟨f1, Ia, get_of f2⟩
    cases hr : L.rec? w with
    | none =>
      obtain ⟨g1, g2, g3⟩ := rec?_no hr
      have hb : L.getB w = false := by unfold LK.getB; rw [hr]; rfl
      obtain ⟨s0, hs0⟩ : ∃ s, L.getS w = s := ⟨_, rfl⟩
      obtain ⟨L2, e2, hp2⟩ : ∃ l e, L.put w p q o = (l, e) := ⟨_, _, rfl⟩
      obtain ⟨rfl, I2, hb2, hs2⟩ := fin L L2 e2 I hM g1 g2 hp2
      obtain ⟨y, hy⟩ : ∃ y, L3.getB w = y := ⟨_, rfl⟩
      obtain ⟨s, hs⟩ : ∃ y, L3.getS w = y := ⟨_, rfl⟩
      rw [hy] at hb2; rw [hs] at hs2
      rw [← g3] at hp2
      focus
        refine J.so ?_
        refine JT.box rfl (fun b6 => ?_)
        refine JT.box rfl (fun b8 => ?_)
        refine JT.box rfl (fun b9 => ?_)
        refine JT.box rfl (fun b10 => ?_)
        refine JT.box rfl (fun b11 => ?_)
        refine JT.c rfl ?_
        refine JT.done ?_
        refine J.seq ?_
        refine J.so ?_
        refine JT.callD rfl rfl (Up.of (Imp.refl _)) (l08awake_fn _) ?_
        refine JT.c rfl ?_
        refine JT.done ?_
        refine J.condF rfl ?_
        refine J.skip ?_
        refine seqQ_n ?_
        refine J.so ?_
        refine JT.y rfl (Ev.Lw rfl rfl) ?_
        refine JT.c rfl ?_
        refine JT.callS rfl rfl (Up.of (Imp.refl _)) hP (fun x30 _ => ?_)
        refine JT.c rfl ?_
        refine JT.done ?_
        refine J.seq ?_
        refine J.so ?_
        iterate 2 refine JT.c rfl ?_
        refine JT.done ?_
        refine J.condF rfl ?_
        refine J.skip ?_
        refine seqQ_n ?_
        refine J.so ?_
        refine JT.c rfl ?_
        refine JT.y rfl (Ev.Lw rfl rfl) ?_
        refine JT.callS rfl rfl (Up.of (.take .here (Imp.refl _))) (lnGet_is _ _ _ _ (by first | assumption | omega | decide | exact rfl) (by first | assumption | omega | decide | exact rfl) (by first | assumption | omega | decide | exact rfl)) (fun ⟨a36, c36⟩ _ => ?_)
        iterate 3 refine JT.c rfl ?_
        refine JT.new (fun b14 => ?_)
        refine JT.w rfl rfl rfl rfl rfl ?_
        refine JT.c rfl ?_
        refine JT.done ?_
        refine J.seq ?_
        refine J.so ?_
        refine JT.c rfl ?_
        refine JT.done ?_
        refine J.condF rfl ?_
        refine J.skip ?_
        refine seqQ_n ?_
        refine J.so ?_
        refine JT.y rfl (Ev.Lw rfl rfl) ?_
        refine JT.callS rfl rfl (Up.of (Imp.refl _)) (lnNew_ok _ _ (by first | assumption | omega | decide | exact rfl) (by first | assumption | omega | decide | exact rfl)) (fun x63 _ => ?_)
        iterate 5 refine JT.c rfl ?_
        refine JT.done ?_
        refine J.so ?_
        refine JT.c rfl ?_
        iterate 4 refine JT.y rfl (Ev.Lw rfl rfl) ?_
        refine JT.c rfl ?_
        iterate 4 refine JT.y rfl (Ev.Lw rfl rfl) ?_
        refine JT.callD rfl rfl (Up.of (.take (.there (.there (.there .here))) (Imp.refl _))) (lnPut_is _ _ _ _ _ _ _ (by first | assumption | omega | decide | exact rfl)) ?_
        iterate 4 refine JT.yA rfl (Ev.Lw rfl rfl) ?_
        refine JT.callD rfl rfl (Up.of (.take (.there .here) (Imp.refl _))) (lnPut_is _ ⟨_, _⟩ _ _ _ _ _ (by first | assumption | omega | decide | exact rfl)) ?_
        iterate 2 refine JT.c rfl ?_
        refine JT.done ?_
        refine J.so ?_
        refine JT.c rfl ?_
        refine JT.y rfl (Ev.Lw rfl rfl) ?_
        refine JT.callS rfl rfl (Up.of (.take (.there .here) (Imp.refl _))) (lnGet_is _ _ _ _ (by first | assumption | omega | decide | exact rfl) (by first | assumption | omega | decide | exact rfl) (by first | assumption | omega | decide | exact rfl)) (fun ⟨a81, c81⟩ _ => ?_)
        iterate 3 refine JT.c rfl ?_
        refine JT.new (fun b22 => ?_)
        refine JT.w rfl rfl rfl rfl rfl ?_
        refine JT.c rfl ?_
        refine JT.done ?_
        refine J.so ?_
        refine JT.c rfl ?_
        refine JT.y rfl (Ev.Lw rfl rfl) ?_
        refine JT.callS rfl rfl (Up.of (.take (.there (.there (.there .here))) (Imp.refl _))) (lnGet_is _ _ _ _ (by first | assumption | omega | decide | exact rfl) (by first | assumption | omega | decide | exact rfl) (by first | assumption | omega | decide | exact rfl)) (fun ⟨a87, c87⟩ _ => ?_)
        iterate 3 refine JT.c rfl ?_
        refine JT.new (fun b24 => ?_)
        refine JT.w rfl rfl rfl rfl rfl ?_
        refine JT.c rfl ?_
        refine JT.done ?_
        refine J.so ?_
        iterate 2 refine JT.c rfl ?_
        refine JT.y rfl (Ev.ceqT rfl rfl (by omega)) ?_
        refine JT.c rfl ?_
        refine JT.gk rfl ?_
        refine JT.c rfl ?_
        refine JT.gk rfl ?_
        refine JT.c rfl ?_
        refine JT.gk rfl ?_
        refine JT.c rfl ?_
        refine JT.y rfl (Ev.pickT rfl rfl) ?_
        refine JT.c rfl ?_
        refine JT.gT rfl (by first | assumption | omega) ?_
        refine JT.y rfl (Ev.Lw rfl rfl) ?_
        refine JT.gT rfl (by first | assumption | omega) ?_
        refine JT.y rfl (Ev.Lw rfl rfl) ?_
        refine JT.gT rfl (by first | assumption | omega) ?_
        refine JT.callD rfl rfl (Up.of (Imp.refl _)) r8Same_fn ?_
        refine JT.y rfl (Ev.pickTp rfl (by first | assumption | omega) rfl) ?_
        refine JT.c rfl ?_
        refine JT.done ?_
        refine J.ret ?_
        refine retQD (.t rfl .nil) ?_ (Up.of (.dropT (.dropT (.dropT (.dropT (.dropT (.dropT (.dropT (.dropT (.dropT (.dropT (.dropT (.dropT (.dropT (Imp.refl _)))))))))))))))
      simp [mkRet]
    | some a =>
      have hb : L.getB w = true := by unfold LK.getB; rw [hr]; rfl
      have hs0 : L.getS w = a.state w := by unfold LK.getS; rw [hr]
      have I1 := I.touch w
      have hr1 : (L.touch w).rec? w = some a := by rw [rec?_touch]; exact hr
      have hkm : keyOk (L.touch w).me.key := by rw [touch_me, hM]; exact h1
      obtain ⟨L2, ws, e, ho⟩ : ∃ l ws e, (L.touch w).out w a.lk.holder = (l, ws, e) := ⟨_, _, _, rfl⟩
      have hout := out_holder I1 hkm hr1
      have hgone := fun h => out_gone I1 hr1 (o := a.lk.holder) h
      rw [ho] at hout hgone
      simp only [touch_me, hM] at hout hgone
      have I2 : L2.Inv := by
        have := I1.act ⟨2, w, p, q, a.lk.holder⟩
        unfold LK.act at this
        rw [if_neg (by simp), if_pos rfl, ho] at this; exact this
      by_cases hc : a.lk.held = true ∧ me.key.rank = 2
      · have he := hout.2 hc
        obtain ⟨d1, d2, d3⟩ := hgone he
        obtain ⟨L4, e4, hp4⟩ : ∃ l e, L2.put w p q o = (l, e) := ⟨_, _, rfl⟩
        obtain ⟨rfl, I4, hb2, hs2⟩ := fin L2 L4 e4 I2 d3 d1 (fun h => d2 h.1) hp4
        obtain ⟨y, hy⟩ : ∃ y, L3.getB w = y := ⟨_, rfl⟩
        obtain ⟨s, hs⟩ : ∃ y, L3.getS w = y := ⟨_, rfl⟩
        rw [hy] at hb2; rw [hs] at hs2
        obtain ⟨hc1, hc2⟩ := hc
        focus
          refine J.so ?_
          refine JT.box rfl (fun b6 => ?_)
          refine JT.box rfl (fun b8 => ?_)
          refine JT.box rfl (fun b9 => ?_)
          refine JT.box rfl (fun b10 => ?_)
          refine JT.box rfl (fun b11 => ?_)
          refine JT.c rfl ?_
          refine JT.done ?_
          refine J.seq ?_
          refine J.so ?_
          refine JT.callD rfl rfl (Up.of (Imp.refl _)) (l08awake_fn _) ?_
          refine JT.c rfl ?_
          refine JT.done ?_
          refine J.condF rfl ?_
          refine J.skip ?_
          refine seqQ_n ?_
          refine J.so ?_
          refine JT.y rfl (Ev.Lw rfl rfl) ?_
          refine JT.c rfl ?_
          refine JT.callS rfl rfl (Up.of (Imp.refl _)) hP (fun x30 _ => ?_)
          refine JT.c rfl ?_
          refine JT.done ?_
          refine J.seq ?_
          refine J.so ?_
          iterate 2 refine JT.c rfl ?_
          refine JT.done ?_
          refine J.condF rfl ?_
          refine J.skip ?_
          refine seqQ_n ?_
          refine J.so ?_
          refine JT.c rfl ?_
          refine JT.y rfl (Ev.Lw rfl rfl) ?_
          refine JT.callS rfl rfl (Up.of (.take .here (Imp.refl _))) (lnGet_is _ _ _ _ (by first | assumption | omega | decide | exact rfl) (by first | assumption | omega | decide | exact rfl) (by first | assumption | omega | decide | exact rfl)) (fun ⟨a36, c36⟩ _ => ?_)
          iterate 3 refine JT.c rfl ?_
          refine JT.new (fun b14 => ?_)
          refine JT.w rfl rfl rfl rfl rfl ?_
          refine JT.c rfl ?_
          refine JT.done ?_
          refine J.seq ?_
          refine J.so ?_
          refine JT.c rfl ?_
          refine JT.done ?_
          refine J.condT rfl ?_
          refine J.so ?_
          refine JT.c rfl ?_
          refine JT.y rfl (Ev.Lw rfl rfl) ?_
          refine JT.y rfl (Ev.fa' 13 rfl rfl) ?_
          refine JT.y rfl (Ev.Lp (us := [_, _]) rfl (Nat.le_of_ble_eq_true rfl) rfl) ?_
          refine JT.callS rfl rfl (Up.of (.take (.there (.there .here)) (Imp.refl _))) (lnOut_is _ _ _ _ _ (by first | assumption | omega | decide | exact rfl) (by first | assumption | omega | decide | exact rfl)) (fun ⟨a45, c45⟩ _ => ?_)
          iterate 5 refine JT.c rfl ?_
          refine JT.done ?_
          refine J.seq ?_
          refine J.so ?_
          refine JT.c rfl ?_
          refine JT.y rfl (Ev.ceqT rfl rfl (by omega)) ?_
          refine JT.y rfl (Ev.fa' 12 rfl rfl) ?_
          refine JT.y rfl (Ev.L rfl rfl) ?_
          refine JT.c rfl ?_
          refine JT.gT rfl (by first | assumption | omega) ?_
          refine JT.y rfl (Ev.fa' 1 rfl rfl) ?_
          refine JT.gT rfl (by first | assumption | omega) ?_
          refine JT.y rfl (Ev.fa' 1 rfl rfl) ?_
          refine JT.gT rfl (by first | assumption | omega) ?_
          refine JT.y rfl (Ev.L rfl rfl) ?_
          refine JT.gT rfl (by first | assumption | omega) ?_
          refine JT.y rfl (Ev.ceqT rfl rfl (by omega)) ?_
          refine JT.y rfl (Ev.pickTp rfl (by first | assumption | omega) rfl) ?_
          refine JT.c rfl ?_
          refine JT.done ?_
          refine J.condF rfl ?_
          refine J.skip ?_
          refine seqQ_n ?_
          refine J.so ?_
          refine JT.c rfl ?_
          refine JT.y rfl (Ev.cneF rfl rfl (by omega)) ?_
          refine JT.done ?_
          refine J.condF rfl ?_
          refine J.skip ?_
          refine seqQ_n ?_
          refine J.so ?_
          refine JT.y rfl (Ev.Lw rfl rfl) ?_
          refine JT.callS rfl rfl (Up.of (Imp.refl _)) (lnNew_ok _ _ (by first | assumption | omega | decide | exact rfl) (by first | assumption | omega | decide | exact rfl)) (fun x63 _ => ?_)
          iterate 5 refine JT.c rfl ?_
          refine JT.done ?_
          refine J.so ?_
          refine JT.c rfl ?_
          iterate 4 refine JT.y rfl (Ev.Lw rfl rfl) ?_
          refine JT.c rfl ?_
          iterate 4 refine JT.y rfl (Ev.Lw rfl rfl) ?_
          refine JT.callD rfl rfl (Up.of (.take (.there (.there .here)) (Imp.refl _))) (lnPut_is _ _ _ _ _ _ _ (by first | assumption | omega | decide | exact rfl)) ?_
          iterate 4 refine JT.yA rfl (Ev.Lw rfl rfl) ?_
          refine JT.callD rfl rfl (Up.of (.take (.there .here) (Imp.refl _))) (lnPut_is _ ⟨_, _⟩ _ _ _ _ _ (by first | assumption | omega | decide | exact rfl)) ?_
          iterate 2 refine JT.c rfl ?_
          refine JT.done ?_
          refine J.so ?_
          refine JT.c rfl ?_
          refine JT.y rfl (Ev.Lw rfl rfl) ?_
          refine JT.callS rfl rfl (Up.of (.take (.there .here) (Imp.refl _))) (lnGet_is _ _ _ _ (by first | assumption | omega | decide | exact rfl) (by first | assumption | omega | decide | exact rfl) (by first | assumption | omega | decide | exact rfl)) (fun ⟨a81, c81⟩ _ => ?_)
          iterate 3 refine JT.c rfl ?_
          refine JT.new (fun b22 => ?_)
          refine JT.w rfl rfl rfl rfl rfl ?_
          refine JT.c rfl ?_
          refine JT.done ?_
          refine J.so ?_
          refine JT.c rfl ?_
          refine JT.y rfl (Ev.Lw rfl rfl) ?_
          refine JT.callS rfl rfl (Up.of (.take (.there (.there (.there .here))) (Imp.refl _))) (lnGet_is _ _ _ _ (by first | assumption | omega | decide | exact rfl) (by first | assumption | omega | decide | exact rfl) (by first | assumption | omega | decide | exact rfl)) (fun ⟨a87, c87⟩ _ => ?_)
          iterate 3 refine JT.c rfl ?_
          refine JT.new (fun b24 => ?_)
          refine JT.w rfl rfl rfl rfl rfl ?_
          refine JT.c rfl ?_
          refine JT.done ?_
          refine J.so ?_
          iterate 2 refine JT.c rfl ?_
          refine JT.y rfl (Ev.ceqT rfl rfl (by omega)) ?_
          refine JT.c rfl ?_
          refine JT.gk rfl ?_
          refine JT.c rfl ?_
          refine JT.gk rfl ?_
          refine JT.c rfl ?_
          refine JT.gk rfl ?_
          refine JT.c rfl ?_
          refine JT.y rfl (Ev.pickT rfl rfl) ?_
          refine JT.c rfl ?_
          refine JT.gT rfl (by first | assumption | omega) ?_
          refine JT.y rfl (Ev.Lw rfl rfl) ?_
          refine JT.gT rfl (by first | assumption | omega) ?_
          refine JT.y rfl (Ev.Lw rfl rfl) ?_
          refine JT.gT rfl (by first | assumption | omega) ?_
          refine JT.callD rfl rfl (Up.of (Imp.refl _)) r8Same_fn ?_
          refine JT.y rfl (Ev.pickTp rfl (by first | assumption | omega) rfl) ?_
          refine JT.c rfl ?_
          refine JT.done ?_
          refine J.ret ?_
          refine retQD (.t rfl .nil) ?_ (Up.of (.dropT (.dropT (.dropT (.dropT (.dropT (.dropT (.dropT (.dropT (.dropT (.dropT (.dropT (.dropT (.dropT (.dropT (Imp.refl _))))))))))))))))
        simp [mkRet]
      · have he : ¬ e = 0 := fun h => hc (hout.1 h)
        focus
          refine J.so ?_
          refine JT.box rfl (fun b6 => ?_)
          refine JT.box rfl (fun b8 => ?_)
          refine JT.box rfl (fun b9 => ?_)
          refine JT.box rfl (fun b10 => ?_)
          refine JT.box rfl (fun b11 => ?_)
          refine JT.c rfl ?_
          refine JT.done ?_
          refine J.seq ?_
          refine J.so ?_
          refine JT.callD rfl rfl (Up.of (Imp.refl _)) (l08awake_fn _) ?_
          refine JT.c rfl ?_
          refine JT.done ?_
          refine J.condF rfl ?_
          refine J.skip ?_
          refine seqQ_n ?_
          refine J.so ?_
          refine JT.y rfl (Ev.Lw rfl rfl) ?_
          refine JT.c rfl ?_
          refine JT.callS rfl rfl (Up.of (Imp.refl _)) hP (fun x30 _ => ?_)
          refine JT.c rfl ?_
          refine JT.done ?_
          refine J.seq ?_
          refine J.so ?_
          iterate 2 refine JT.c rfl ?_
          refine JT.done ?_
          refine J.condF rfl ?_
          refine J.skip ?_
          refine seqQ_n ?_
          refine J.so ?_
          refine JT.c rfl ?_
          refine JT.y rfl (Ev.Lw rfl rfl) ?_
          refine JT.callS rfl rfl (Up.of (.take .here (Imp.refl _))) (lnGet_is _ _ _ _ (by first | assumption | omega | decide | exact rfl) (by first | assumption | omega | decide | exact rfl) (by first | assumption | omega | decide | exact rfl)) (fun ⟨a36, c36⟩ _ => ?_)
          iterate 3 refine JT.c rfl ?_
          refine JT.new (fun b14 => ?_)
          refine JT.w rfl rfl rfl rfl rfl ?_
          refine JT.c rfl ?_
          refine JT.done ?_
          refine J.seq ?_
          refine J.so ?_
          refine JT.c rfl ?_
          refine JT.done ?_
          refine J.condT rfl ?_
          refine J.so ?_
          refine JT.c rfl ?_
          refine JT.y rfl (Ev.Lw rfl rfl) ?_
          refine JT.y rfl (Ev.fa' 13 rfl rfl) ?_
          refine JT.y rfl (Ev.Lp (us := [_, _]) rfl (Nat.le_of_ble_eq_true rfl) rfl) ?_
          refine JT.callS rfl rfl (Up.of (.take (.there (.there .here)) (Imp.refl _))) (lnOut_is _ _ _ _ _ (by first | assumption | omega | decide | exact rfl) (by first | assumption | omega | decide | exact rfl)) (fun ⟨a45, c45⟩ _ => ?_)
          iterate 5 refine JT.c rfl ?_
          refine JT.done ?_
          refine J.seq ?_
          refine J.so ?_
          refine JT.c rfl ?_
          refine JT.y rfl (Ev.ceqF rfl rfl (by omega)) ?_
          refine JT.y rfl (Ev.fa' 12 rfl rfl) ?_
          refine JT.y rfl (Ev.L rfl rfl) ?_
          refine JT.c rfl ?_
          refine JT.yg rfl rfl (fun h3 => Ev.fa' 1 rfl rfl) ?_
          refine JT.yg rfl rfl (fun h3 => by simp only [h3, gd_true, gd_false, Bool.not_false, Bool.not_true, Bool.true_and, Bool.and_true]; exact Ev.calc rfl) ?_
          refine JT.yg rfl rfl (fun h3 => by simp only [h3, gd_true, gd_false, Bool.not_false, Bool.not_true, Bool.true_and, Bool.and_true]; exact Ev.L rfl rfl) ?_
          refine JT.yg rfl rfl (fun h3 => by simp only [h3, gd_true, gd_false, Bool.not_false, Bool.not_true, Bool.true_and, Bool.and_true]; exact Ev.int rfl rfl rfl) ?_
          refine JT.y rfl (Ev.pickA rfl rfl rfl) ?_
          refine JT.c rfl ?_
          refine JT.done ?_
          refine J.c rfl (fun h3 => ?_) (fun h3 => ?_)
          refine J.so ?_
          refine JT.c rfl ?_
          refine JT.done ?_
          refine J.ret ?_
          iterate 2 refine seqQ_r ?_
          refine retQD (.t rfl .nil) ?_ (Up.of (.dropT (.dropT (.dropT (.dropT (.dropT (.dropT (.dropT (.dropT (.dropT (Imp.refl _)))))))))))
          rotate_left
          refine J.skip ?_
          refine seqQ_n ?_
          refine J.so ?_
          refine JT.c rfl ?_
          refine JT.y rfl (Ev.cneT rfl rfl (by omega)) ?_
          refine JT.done ?_
          refine J.condT rfl ?_
          refine J.so ?_
          refine JT.c rfl ?_
          refine JT.done ?_
          refine J.ret ?_
          refine seqQ_r ?_
          refine retQD (.t rfl .nil) rfl (Up.of (.dropT (.dropT (.dropT (.dropT (.dropT (.dropT (.dropT (.dropT (.dropT (Imp.refl _)))))))))))
        rcases h3 with ⟨h, _⟩ | ⟨_, h, h'⟩
        · cases h
        · exact absurd ⟨h, h'⟩ hc
  · focus
      refine J.so ?_
      refine JT.box rfl (fun b6 => ?_)
      refine JT.box rfl (fun b8 => ?_)
      refine JT.box rfl (fun b9 => ?_)
      refine JT.box rfl (fun b10 => ?_)
      refine JT.box rfl (fun b11 => ?_)
      refine JT.c rfl ?_
      refine JT.done ?_
      refine J.seq ?_
      refine J.so ?_
      refine JT.callD rfl rfl (Up.of (Imp.refl _)) (l08awake_fn _) ?_
      refine JT.c rfl ?_
      refine JT.done ?_
      refine J.condF rfl ?_
      refine J.skip ?_
      refine seqQ_n ?_
      refine J.so ?_
      refine JT.y rfl (Ev.Lw rfl rfl) ?_
      refine JT.c rfl ?_
      refine JT.callD rfl rfl (Up.of (Imp.refl _)) (l08play_no _ (by first | assumption | omega | decide | exact rfl)) ?_
      refine JT.c rfl ?_
      refine JT.done ?_
      refine J.seq ?_
      refine J.so ?_
      iterate 2 refine JT.c rfl ?_
      refine JT.done ?_
      refine J.condT rfl ?_
      refine J.so ?_
      refine JT.c rfl ?_
      refine JT.done ?_
      refine J.ret ?_
      refine seqQ_r ?_
      refine retQD (.t rfl .nil) rfl (Up.of (.dropT (.dropT (.dropT (.dropT (.dropT (Imp.refl _)))))))
end Go.Proofs.Ytojegknfbgflnaa
