/- Layer 8: the reference's records: memory, and its small functions. Conditions: none. -/
import Derived.Test.YtnipmjpdklbbcaaGreatBt
import Derived.Test.YtnipmjpdklbbcaaGreatMp
import Derived.Test.YtnipmjpdklbbcaaGreatMd
import Derived.Test.YtnipmjpdklbbcaaGreatVc
import Derived.Test.YtnipmjpdklbbcaaGreatLr
set_option linter.unusedSimpArgs false
set_option linter.unusedVariables false
set_option maxRecDepth 100000
set_option maxHeartbeats 2000000
namespace Go.SL
open Go
def rfC (me : Ref) (n : Nat) (a : Option Addr) (c : Nat) : List Value := [i64 me.id, i64 me.key.rank, u64 me.key.n, i64 me.vec.len, u64 me.vec.bits, .slice a n c]
/-- The reference's records at a place. -/
def RfP (b : Nat) (l : LK) : Assn := ex fun x : Nat × Option Addr × Nat × List RecE => sep [pc b x.1 (rfC l.me x.2.2.2.length x.2.1 x.2.2.1), SlT false recEC 16 (.slice x.2.1 x.2.2.2.length x.2.2.1) x.2.2.1 x.2.2.2, WaitsA x.2.2.2, pur (RRel l (x.2.2.2.map (·.s)))]
section
variable {P : Program} {N : Nat} {ρ : Env} {cs r r1 r2 ds : List Assn} {cc : CC} {t : Tr} {K : Env → List Assn → Prop} {Q : Exit → Env → List Assn → Prop} {b T c : Nat} {l : LK} {a : Option Addr} {xs : List RecE}
theorem J.openRf (hh : Has cs (RfP b l) r) (h : ∀ T a c (xs : List RecE), RRel l (xs.map (·.s)) → xs.length ≤ c → xs.length ≤ 140737488355328 → J P N cc ρ (pc b T (rfC l.me xs.length a c) :: SlT false recEC 16 (.slice a xs.length c) c xs :: WaitsA xs :: r) Q) : J P N cc ρ cs Q :=
  J.has hh (J.ex fun x => J.sep (J.has (Has.there (Has.there (Has.there Has.here))) (J.pur fun e => J.slF (Has.there Has.here) fun h1 h2 _ => h x.1 x.2.1 x.2.2.1 x.2.2.2 e h1 h2)))
theorem JT.openRf (hh : Has cs (RfP b l) r) (h : ∀ T a c (xs : List RecE), RRel l (xs.map (·.s)) → xs.length ≤ c → xs.length ≤ 140737488355328 → JT P t ρ (pc b T (rfC l.me xs.length a c) :: SlT false recEC 16 (.slice a xs.length c) c xs :: WaitsA xs :: r) K) : JT P t ρ cs K :=
  JT.has hh (JT.ex fun x => JT.sep (JT.has (Has.there (Has.there (Has.there Has.here))) (JT.pur fun e => JT.fact (fun _ hs => hs.capF (Has.there Has.here)) fun h1 => JT.fact (fun _ hs => hs.lenF (Has.there Has.here)) fun h2 => h x.1 x.2.1 x.2.2.1 x.2.2.2 e h1 h2)))
theorem RfP.fold (h1 : Has cs (pc b T (rfC l.me xs.length a c)) r) (h2 : Has r (SlT false recEC 16 (.slice a xs.length c) c xs) r1) (h3 : Has r1 (WaitsA xs) r2) (R : RRel l (xs.map (·.s))) (h4 : Imp r2 ds) : Imp cs (RfP b l :: ds) :=
  Imp.trans (Imp.take h1 (Imp.take h2 (Imp.take h3 (Imp.trans (Imp.trans h4 (Imp.pur_in R)) (Imp.refl _)))))
    (Imp.trans (Imp.sep_in (cs := [_, _, _, _])) (Imp.ex_in (A := fun x : Nat × Option Addr × Nat × List RecE => sep [pc b x.1 (rfC l.me x.2.2.2.length x.2.1 x.2.2.1), SlT false recEC 16 (.slice x.2.1 x.2.2.2.length x.2.2.1) x.2.2.1 x.2.2.2, WaitsA x.2.2.2, pur (RRel l (x.2.2.2.map (·.s)))]) (T, a, c, xs)))
end
theorem WaitsA.cons {x : RecE} {xs r : _} : Imp (waitsO x :: WaitsA xs :: r) (WaitsA (x :: xs) :: r) := sep_push (A := [])
theorem WaitsA.of {xs : List RecE} {r : List Assn} : ∀ {ys : List RecE}, (∀ y ∈ ys, y ∈ xs) → Imp (WaitsA xs :: r) (WaitsA ys :: WaitsA xs :: r)
  | [], _ => WaitsA.nil
  | y :: ys, h => by
    obtain ⟨i, hi, e⟩ := List.mem_iff_getElem.1 (h y (by simp))
    have h1 := WaitsA.get (r := r) hi
    rw [nth_eq hi, e] at h1
    exact Imp.trans h1 (Imp.trans (Imp.cons (WaitsA.of fun z hz => h z (by simp [hz]))) WaitsA.cons)
theorem WaitsA.put {xs A B : List RecE} {x : RecE} {r : List Assn} (h : ∀ y ∈ A ++ B, y ∈ xs) : Imp (waitsO x :: WaitsA xs :: r) (WaitsA (A ++ [x] ++ B) :: r) := by
  refine Imp.trans (Imp.cons (Imp.trans (WaitsA.of h) (Imp.cons Imp.drop))) (Imp.trans WaitsA.cons (WaitsA.perm ?_))
  rw [List.append_assoc]
  exact List.perm_middle.symm
end Go.SL
namespace Go.Proofs.YtnipmjpdklbbcaaGreat
open Go Go.SL
attribute [local irreducible] pc rc SlT Me Mt It pt ro pur ex sep old Meets
attribute [local irreducible] LockP RecP RecsA LinksP LinksH WaitsA RlockP

theorem isEnd_ne {l : LK} (hk : keyOk l.me.key) : (¬ l.me.key.rank = 2) = l.isEnd := by unfold LK.isEnd; unfold keyOk at hk; apply propext; omega
theorem r8end_fn {b T n : Nat} {a : Option Addr} {c : Nat} {l : LK} {F r : List Assn} [Hs : HP F b T (rfC l.me n a c) r] (hk : keyOk l.me.key) : Meets Tryz.prog 82 [ptr b] F (Det (.bool (decide l.isEnd)) F) := by
  refine Meets.intro b82 k82 (by simp) ?_
  focus
   refine zs <| zc rfl <| zf 0 rfl rfl <| zf 1 rfl rfl <| zfl rfl rfl rfl <| zj rfl rfl rfl <| zd <| zr <| yR (.t rfl .nil) ?_ (.of .rf)
  simp only [mkRet]; congr 1; rw [Bool.eq_iff_iff]; simp only [decide_eq_true_eq, ← isEnd_ne hk]; simp
theorem r8May_fn {b T n : Nat} {a : Option Addr} {c : Nat} {l : LK} {F r : List Assn} [Hs : HP F b T (rfC l.me n a c) r] (w : Vec) (hk : keyOk l.me.key) (hv : 0 ≤ l.me.vec.bits) (hw : 0 ≤ w.bits) : Meets Tryz.prog 31 [ptr b, vv w] F (Det (.bool (decide (l.may w))) F) := by
  refine Meets.intro b31 k31 (by simp) ?_
  by_cases hE : l.isEnd
  · by_cases ho : vecOk w
    · focus
       refine zs <| yB rfl fun b3 => zc rfl <| yD rfl rfl (.of .rf) (r8end_fn (by first | assumption | omega | decide | exact rfl)) ?_
       refine zd <| zq <| zi rfl (fun h1 => ?_) (fun h1 => ?_)
       refine zs <| zw rfl rfl <| yD rfl rfl (.of .rf) (r1Right_fn _ _) <| yT rfl (by assumption) <| zf 0 rfl rfl <| yT rfl (by assumption) <| zl rfl rfl <| yT rfl (by assumption) <| zf 0 rfl rfl <| yT rfl (by assumption) <| zf 3 rfl rfl <| yT rfl (by assumption) ?_
       refine zf 3 rfl rfl <| yT rfl (by assumption) <| zl rfl rfl <| yT rfl (by assumption) <| zj rfl rfl rfl <| zy (.pickTp rfl (by assumption) rfl) <| zd <| zr <| yR (.t rfl .nil) ?_ (.of (.d .rf))
       rotate_left
       contradiction
      simp only [mkRet]; congr 1; rw [Bool.eq_iff_iff]; simp [LK.may, hE, ho]
    · focus
       refine zs <| yB rfl fun b3 => zc rfl <| yD rfl rfl (.of .rf) (r8end_fn (by first | assumption | omega | decide | exact rfl)) ?_
       refine zd <| zq <| zi rfl (fun h1 => ?_) (fun h1 => ?_)
       refine zs <| zw rfl rfl <| yD rfl rfl (.of .rf) (r1Right_fn _ _) <| yTs rfl (by assumption) <| yTs rfl (by assumption) <| yTs rfl (by assumption) <| yTs rfl (by assumption) <| yTs rfl (by assumption) <| yTs rfl (by assumption) <| yTs rfl (by assumption) <| zy (.pickFp rfl (by assumption) rfl) <| zd ?_
       refine zr <| yR (.t rfl .nil) ?_ (.of (.d .rf))
       rotate_left
       contradiction
      simp only [mkRet]; congr 1; rw [Bool.eq_iff_iff]; simp [LK.may, hE, ho]
  · focus
     refine zs <| yB rfl fun b3 => zc rfl <| yD rfl rfl (.of .rf) (r8end_fn (by first | assumption | omega | decide | exact rfl)) ?_
     refine zd <| zq <| zi rfl (fun h1 => ?_) (fun h1 => ?_)
     contradiction
     refine zk <| zs <| zf 0 rfl rfl <| zfw [_, _] rfl rfl rfl rfl <| zw rfl rfl <| yD rfl rfl (.of .rf) (r1Begins_fn _ _ _ (by assumption) (by assumption)) <| zd <| zr <| yR (.t rfl .nil) ?_ (.of (.d .rf))
    simp only [mkRet]; congr 1; rw [Bool.eq_iff_iff]; simp [LK.may, hE]
theorem r8other_fn {b T n : Nat} {a : Option Addr} {c : Nat} {l : LK} {F r : List Assn} [Hs : HP F b T (rfC l.me n a c) r] : Meets Tryz.prog 144 [ptr b] F (Det (rv (if l.me.key.rank = 1 then ⟨1, ⟨3, 0⟩, l.me.vec⟩ else ⟨0, ⟨1, 0⟩, l.me.vec⟩)) F) := by
  refine Meets.intro b144 k144 (by simp) ?_
  focus
   refine zs <| yN fun b2 => zf 0 rfl rfl <| zf 1 rfl rfl <| zfl rfl rfl rfl <| zj rfl rfl rfl <| zd <| zq <| zi rfl (fun h1 => ?_) (fun h1 => ?_)
   refine zs <| zg rfl <| zf 0 rfl rfl <| zfw [_, _] rfl rfl rfl rfl <| zg rfl <| yW rfl rfl rfl rfl rfl <| zd <| zr <| yR (.w rfl rfl .nil) ?_ (.of (.d .rf))
   rotate_left
   refine zk <| zs <| zg rfl <| zf 0 rfl rfl <| zfw [_, _] rfl rfl rfl rfl <| zg rfl <| yW rfl rfl rfl rfl rfl <| zd <| zr <| yR (.w rfl rfl .nil) ?_ (.of (.d .rf))
   rotate_left
  all_goals (repeat (first | rw [if_pos (by (first | assumption | omega | grind))] | rw [if_neg (by (first | assumption | omega | grind))]))
  all_goals (simp only [mkRet]; rfl)
theorem r8first_fn {b T n : Nat} {a : Option Addr} {c : Nat} {l : LK} {F r : List Assn} [Hs : HP F b T (rfC l.me n a c) r] (w : Vec) : Meets Tryz.prog 83 [ptr b, vv w] F (Det (rsv (l.first.state w) none 0) F) := by
  refine Meets.intro b83 k83 (by simp) ?_
  focus
   refine zs <| yB rfl fun b3 => yN fun b4 => zf 0 rfl rfl <| zf 1 rfl rfl <| zfl rfl rfl rfl <| zj rfl rfl rfl <| zd <| zq <| zi rfl (fun h1 => ?_) (fun h1 => ?_)
   refine zs <| zw rfl rfl <| yD rfl rfl (.of .rf) r8other_fn <| JT.yA rfl (Ev.Lw rfl rfl) <| zg rfl <| yW rfl rfl rfl rfl rfl <| zd <| zr <| yR (.w rfl rfl .nil) ?_ (.of (.d (.d .rf)))
   rotate_left
   refine zk <| zs <| zw rfl rfl <| yD rfl rfl (.of .rf) r8other_fn <| JT.yA rfl (Ev.Lw rfl rfl) <| zg rfl <| yW rfl rfl rfl rfl rfl <| zd <| zr <| yR (.w rfl rfl .nil) ?_ (.of (.d (.d .rf)))
   rotate_left
  all_goals (unfold LK.first; (repeat (first | rw [if_pos (by (first | assumption | omega | grind))] | rw [if_neg (by (first | assumption | omega | grind))])))
  all_goals (simp only [mkRet]; rfl)
theorem r8left_fn {b T n : Nat} {a : Option Addr} {c : Nat} {l : LK} {F r : List Assn} [Hs : HP F b T (rfC l.me n a c) r] (x : Ref) : Meets Tryz.prog 150 [ptr b, rv x] F (Det (.bool (decide (l.toLeft x))) F) := by
  refine Meets.intro b150 k150 (by simp) ?_
  focus
   refine zs <| yB rfl fun b3 => zc rfl <| zfw [_, _] rfl rfl rfl rfl <| yD rfl rfl (.of .rf) (r2Check_fn _ _) <| zj rfl rfl rfl <| zp rfl (fun h1 => ?_) (fun h1 => ?_)
   refine zf 1 rfl rfl <| yT rfl (by assumption) <| zy (.Lf rfl (Nat.le_of_ble_eq_true rfl)) <| yT rfl (by assumption) <| zf 0 rfl rfl <| yT rfl (by assumption) <| zf 1 rfl rfl <| yT rfl (by assumption) <| zy (.Lp (us := [_, _]) rfl (Nat.le_of_ble_eq_true rfl) rfl) <| yT rfl (by assumption) <| yD rfl rfl (.of .rf) (r2Less_fn _ _ _) <| zy (.pickTp rfl (by assumption) rfl) ?_
   refine zd <| zr <| yR (.t rfl .nil) ?_ (.of (.d .rf))
   rotate_left
   refine yTs rfl (by assumption) <| yTs rfl (by assumption) <| yTs rfl (by assumption) <| yTs rfl (by assumption) <| yTs rfl (by assumption) <| zy (.pickFp rfl (by assumption) rfl) <| zd <| zr <| yR (.t rfl .nil) ?_ (.of (.d .rf))
   rotate_left
  all_goals (simp only [mkRet]; congr 1; rw [Bool.eq_iff_iff]; simp [LK.toLeft, h1])
theorem r8right_fn {b T n : Nat} {a : Option Addr} {c : Nat} {l : LK} {F r : List Assn} [Hs : HP F b T (rfC l.me n a c) r] (x : Ref) : Meets Tryz.prog 151 [ptr b, rv x] F (Det (.bool (decide (l.toRight x))) F) := by
  refine Meets.intro b151 k151 (by simp) ?_
  focus
   refine zs <| yB rfl fun b3 => zc rfl <| zfw [_, _] rfl rfl rfl rfl <| yD rfl rfl (.of .rf) (r2Check_fn _ _) <| zj rfl rfl rfl <| zp rfl (fun h1 => ?_) (fun h1 => ?_)
   refine zf 0 rfl rfl <| yT rfl (by assumption) <| zf 1 rfl rfl <| yT rfl (by assumption) <| zy (.Lp (us := [_, _]) rfl (Nat.le_of_ble_eq_true rfl) rfl) <| yT rfl (by assumption) <| zf 1 rfl rfl <| yT rfl (by assumption) <| zy (.Lf rfl (Nat.le_of_ble_eq_true rfl)) <| yT rfl (by assumption) <| yD rfl rfl (.of .rf) (r2Less_fn _ _ _) <| zy (.pickTp rfl (by assumption) rfl) ?_
   refine zd <| zr <| yR (.t rfl .nil) ?_ (.of (.d .rf))
   rotate_left
   refine yTs rfl (by assumption) <| yTs rfl (by assumption) <| yTs rfl (by assumption) <| yTs rfl (by assumption) <| yTs rfl (by assumption) <| zy (.pickFp rfl (by assumption) rfl) <| zd <| zr <| yR (.t rfl .nil) ?_ (.of (.d .rf))
   rotate_left
  all_goals (simp only [mkRet]; congr 1; rw [Bool.eq_iff_iff]; simp [LK.toRight, h1])
theorem r8owner_fn (o : Owner) (F : List Assn) : Meets Tryz.prog 152 [ov o] F (Det (i64 (ckE o)) F) := by
  refine Meets.intro b152 k152 (by simp) ?_
  focus
   refine zs <| yB rfl fun b1 => zc rfl <| zw rfl rfl <| yD rfl rfl (.of .rf) (r7IsOwner_fn _ _) <| zc rfl <| zd <| zq <| zi rfl (fun h1 => ?_) (fun h1 => ?_)
   refine zs <| zc rfl <| zd <| zr <| yR (.t rfl .nil) ?_ (.of (.d .rf))
   rotate_left
   refine zk <| zs <| zc rfl <| zd <| zr <| yR (.t rfl .nil) ?_ (.of (.d .rf))
   rotate_left
  all_goals (simp only [mkRet]; unfold ckE; (repeat (first | rw [if_pos (by (first | assumption | omega | grind))] | rw [if_neg (by (first | assumption | omega | grind))])))
/-- Why a record is not an owner's. -/
def hldE (s : RecS) (o : Owner) : Int := if ckE o ≠ 0 then ckE o else if s.held = false ∨ s.owner ≠ o then 71 else 0
theorem r8held_fn (s : RecS) (a : Option Addr) (c : Nat) (o : Owner) (F : List Assn) : Meets Tryz.prog 154 [rsv s a c, ov o] F (Det (i64 (hldE s o)) F) := by
  refine Meets.intro b154 k154 (by simp) ?_
  by_cases ho : okO o
  · have hc : ckE o = 0 := if_pos ho
    focus
     refine zs <| yB rfl fun b2 => yB rfl fun b3 => zc rfl <| zd <| zq <| zb <| zs <| zw rfl rfl <| yD rfl rfl (.of .rf) (r8owner_fn _ _) <| zy (.cneF rfl rfl (by omega)) <| zd ?_
     refine zu rfl <| zs <| zfl rfl rfl rfl <| zc rfl <| zh rfl rfl (fun h1 => .fa' 13 rfl rfl) <| zh rfl rfl (fun h1 => by rw [h1]; exact .Lp (us := [_, _]) rfl (Nat.le_of_ble_eq_true rfl) rfl) <| zh rfl rfl (fun h1 => .Lw rfl rfl) <| zh rfl rfl (fun h1 => by rw [h1]; exact .eqs rfl rfl (by repeat (first | exact EqC.nil | apply EqC.i | apply EqC.b | apply EqC.s))) ?_
     refine zy (.pickO rfl rfl rfl) <| zd <| zi rfl (fun h1 => ?_) (fun h1 => ?_)
     refine zs <| zc rfl <| zd <| zr <| yR (.t rfl .nil) ?_ (.of (.d (.d .rf)))
     rotate_left
     refine zk <| zs <| zc rfl <| zd <| zr <| yR (.t rfl .nil) ?_ (.of (.d (.d .rf)))
     rotate_left
    all_goals (simp only [mkRet]; unfold hldE; rw [hc]; (repeat (first | rw [if_pos (by (first | assumption | omega | grind))] | rw [if_neg (by (first | assumption | omega | grind))])))
  · have hc : ckE o = 70 := if_neg ho
    focus
     refine zs <| yB rfl fun b2 => yB rfl fun b3 => zc rfl <| zd <| zq <| zb <| zs <| zw rfl rfl <| yD rfl rfl (.of .rf) (r8owner_fn _ _) <| zy (.cneT rfl rfl (by omega)) <| zd ?_
     refine zt rfl <| zs <| zc rfl <| zd <| zr <| yR (.t rfl .nil) ?_ (.of (.d (.d .rf)))
    all_goals (simp only [mkRet]; unfold hldE; rw [hc]; (repeat (first | rw [if_pos (by (first | assumption | omega | grind))] | rw [if_neg (by (first | assumption | omega | grind))])))
theorem r8lock_fn (a : Option Addr) (c : Nat) (s : RecS) (F : List Assn) : Meets Tryz.prog 155 [rsv s a c] (SlT false ownerC 2 (.slice a s.waits.length c) c s.waits :: F) (Some' (fun _ : Nat => True) (fun p => ptr p) (fun p => RlockP p ⟨s.held, s.owner, s.waits⟩ :: F)) := by
  refine Meets.intro b155 k155 (by simp) ?_
  focus
   refine zs <| yB rfl fun b1 => zc rfl <| zfl rfl rfl rfl <| zfw [_, _] rfl rfl rfl rfl <| zfl rfl rfl rfl <| zg rfl <| yB rfl fun b2 => zd <| zr <| yQ _ (.t rfl .nil) trivial rfl (.of (RlockP.fold .here (.there .here) (.d .rf)))
theorem r8back_fn (s : RecS) (a : Option Addr) (c : Nat) (k : Nat) (t : LS) (F : List Assn) : Meets Tryz.prog 157 [rsv s a c, ptr k] (RlockP k t :: F)
    (Some' (fun _ : Option Addr × Nat => True) (fun x => rsv { s with held := t.held, owner := t.holder, waits := t.w } x.1 x.2) (fun x => SlT false ownerC 2 (.slice x.1 t.w.length x.2) x.2 t.w :: RlockP k t :: F)) := by
  refine Meets.intro b157 k157 (by simp) ?_
  refine J.openRlock Has.here (fun T a2 c2 hC hL => ?_)
  refine J.imp (Has.dup (c := SlT false ownerC 2 (.slice a2 t.w.length c2) c2 t.w) (SlT_pers _ _ _ _ _) (by (repeat (first | exact Has.here | assumption | apply Has.there)))) ?_
  focus
   refine zs <| yB rfl fun b2 => yN fun b4 => zfl rfl rfl rfl <| zf 1 rfl rfl <| zy (.Lp (us := [_, _]) rfl (Nat.le_of_ble_eq_true rfl) rfl) <| zf 3 rfl rfl <| zl rfl rfl <| zf 12 rfl rfl <| yS rfl rfl rfl rfl rfl (Nat.le_of_ble_eq_true rfl) rfl <| JT.yA rfl (Ev.Lp (us := [_, _]) rfl (Nat.le_of_ble_eq_true rfl) rfl) <| JT.yA rfl (Ev.L rfl rfl) ?_
   refine zf 13 rfl rfl <| yS rfl rfl rfl rfl rfl (Nat.le_of_ble_eq_true rfl) rfl <| JT.yA rfl (Ev.L rfl rfl) <| zf 15 rfl rfl <| yS rfl rfl rfl rfl rfl (Nat.le_of_ble_eq_true rfl) rfl <| zw rfl rfl <| yW rfl rfl rfl rfl rfl <| zd <| zr ?_
  refine yQ (a2, c2) (.w rfl rfl .nil) trivial rfl (.of (.t2 (RlockP.fold (.there (.there (.there .here))) (.there (.there .here)) (.d (.d .rf)))))
theorem nth_map {α β : Type} [Inhabited α] [Inhabited β] {xs : List α} {f : α → β} {k : Nat} (h : k < xs.length) : nth (xs.map f) k = f (nth xs k) := by
  rw [nth_eq (by simpa using h), nth_eq h, List.getElem_map]
theorem r8at_fn {b T : Nat} {a : Option Addr} {c : Nat} {me : Ref} {xs : List RecE} {F r : List Assn} [H1 : HP F b T (rfC me xs.length a c) r] [H2 : HS F (.slice a xs.length c) RecE recEC 16 c xs] (w : Vec) (hb : 0 ≤ w.bits) :
    Meets Tryz.prog 81 [ptr b, vv w] F (Det (.tuple #[i64 (((rat w (xs.map (·.s))).1 : Nat) : Int), .bool (rat w (xs.map (·.s))).2]) F) := by
  refine Meets.intro b81 k81 (by simp) ?_
  refine J.sl H2 (fun hC hL _ => ?_)
  have hlen : (xs.map (·.s)).length = xs.length := by simp
  focus
   refine zs <| yB rfl fun b3 => zc rfl <| zc rfl <| zc rfl <| zd <| zq <| zb ?_
  refine J.lp (ι := Nat) (fun k => k ≤ xs.length ∧ ∀ j, j < k → rgo w (nth (xs.map (·.s)) j)) (fun k => [(6, i64 (k : Int))]) (fun _ => pc b3 36 (vecC w) :: F) (fun k => xs.length - k) 0 ⟨by omega, fun j hj => by omega⟩ (by exact subxR rfl) (.of (.t0 .rf)) (fun k hk => ?_)
  obtain ⟨hk, hg⟩ := hk
  by_cases hlt : k < xs.length
  · have hn := nth_map (f := fun x : RecE => x.s) hlt
    have hlt' : k < (xs.map (·.s)).length := by omega
    by_cases e : (nth xs k).s.w = w
    · have hr := rat_hit hlt' hg (by rw [hn]; exact e)
      focus
       refine zs <| zfl rfl rfl rfl <| zc rfl <| zy (.cltT rfl rfl (by omega)) <| zd <| zq <| zt rfl <| zk <| zq <| zb <| zs <| zfl rfl rfl rfl ?_
       refine zy (.iC rfl rfl (by omega)) <| zy (.fe rfl) <| zy (.LEf rfl (by omega) (by decide)) <| zw rfl rfl <| zy (.eqTt rfl rfl (by assumption)) <| zd <| zq <| zt rfl <| zs <| zc rfl <| zc rfl <| zd ?_
       refine zr <| yR (.t rfl (.t rfl .nil)) ?_ (.of (.d .rf))
      simp only [mkRet]; rw [hr]
    · have hgo := (nth xs k).ok
      by_cases hw : vecOk w
      · have hw' : vecG w := ⟨hw, hb⟩
        by_cases hc : vcmp w (nth xs k).s.w < 0
        · have hr := rat_stop hlt' hg (by rw [hn]; exact e) ⟨hw, by rw [hn]; exact hc⟩
          focus
           refine zs <| zfl rfl rfl rfl <| zc rfl <| zy (.cltT rfl rfl (by omega)) <| zd <| zq <| zt rfl <| zk <| zq <| zb <| zs <| zfl rfl rfl rfl ?_
           refine zy (.iC rfl rfl (by omega)) <| zy (.fe rfl) <| zy (.LEf rfl (by omega) (by decide)) <| zw rfl rfl <| zy (.eqTf rfl rfl (by assumption)) <| zd <| zq <| zu rfl <| zk <| zs <| zw rfl rfl <| zfl rfl rfl rfl ?_
           refine zy (.iC rfl rfl (by omega)) <| zy (.fe rfl) <| zy (.LEf rfl (by omega) (by decide)) <| yD rfl rfl (.of .rf) (r1Compare_fn _ _ _ (by assumption) (by assumption)) <| zc rfl <| zc rfl <| zy (.cltT rfl rfl (by omega)) <| zd <| zt rfl <| zs <| zc rfl <| zc rfl ?_
           refine zd <| zr <| yR (.t rfl (.t rfl .nil)) ?_ (.of (.d .rf))
          simp only [mkRet]; rw [hr]
        · focus
           refine zs <| zfl rfl rfl rfl <| zc rfl <| zy (.cltT rfl rfl (by omega)) <| zd <| zq <| zt rfl <| zk <| zq <| zb <| zs <| zfl rfl rfl rfl ?_
           refine zy (.iC rfl rfl (by omega)) <| zy (.fe rfl) <| zy (.LEf rfl (by omega) (by decide)) <| zw rfl rfl <| zy (.eqTf rfl rfl (by assumption)) <| zd <| zq <| zu rfl <| zk <| zs <| zw rfl rfl <| zfl rfl rfl rfl ?_
           refine zy (.iC rfl rfl (by omega)) <| zy (.fe rfl) <| zy (.LEf rfl (by omega) (by decide)) <| yD rfl rfl (.of .rf) (r1Compare_fn _ _ _ (by assumption) (by assumption)) <| zc rfl <| zc rfl <| zy (.cltF rfl rfl (by omega)) <| zd <| zu rfl <| zk <| zo <| zy (.addN rfl rfl (by omega)) ?_
           refine zd <| ⟨_, ?_, (by omega), (subxR rfl), (.of (.t0 .rf))⟩
          refine ⟨by omega, fun j hj => ?_⟩
          rcases Nat.lt_succ_iff_lt_or_eq.1 hj with h | h
          · exact hg j h
          · subst h; rw [hn]; exact ⟨e, fun h => hc h.2⟩
      · have hP := fun F => r1Compare_no w (nth xs k).s.w F (fun h => hw h.1)
        focus
         refine zs <| zfl rfl rfl rfl <| zc rfl <| zy (.cltT rfl rfl (by omega)) <| zd <| zq <| zt rfl <| zk <| zq <| zb <| zs <| zfl rfl rfl rfl ?_
         refine zy (.iC rfl rfl (by omega)) <| zy (.fe rfl) <| zy (.LEf rfl (by omega) (by decide)) <| zw rfl rfl <| zy (.eqTf rfl rfl (by assumption)) <| zd <| zq <| zu rfl <| zk <| zs <| zw rfl rfl <| zfl rfl rfl rfl ?_
         refine zy (.iC rfl rfl (by omega)) <| zy (.fe rfl) <| zy (.LEf rfl (by omega) (by decide)) <| yD rfl rfl (.of .rf) (hP _) <| zc rfl <| zc rfl <| zy (.cltF rfl rfl (by decide)) <| zd <| zu rfl <| zk <| zo <| zy (.addN rfl rfl (by omega)) ?_
         refine zd <| ⟨_, ?_, (by omega), (subxR rfl), (.of (.t0 .rf))⟩
        refine ⟨by omega, fun j hj => ?_⟩
        rcases Nat.lt_succ_iff_lt_or_eq.1 hj with h | h
        · exact hg j h
        · subst h; rw [hn]; exact ⟨e, fun h => hw h.1⟩
  · have hr := rat_end (w := w) (m := xs.map (·.s)) (fun j hj => hg j (by omega))
    focus
     refine zs <| zfl rfl rfl rfl <| zc rfl <| zy (.cltF rfl rfl (by omega)) <| zd <| zq <| zu rfl <| zx <| zs <| zfl rfl rfl rfl <| zc rfl <| zc rfl ?_
     refine zd <| zr <| yR (.t rfl (.t rfl .nil)) ?_ (.of (.d .rf))
    simp only [mkRet]; rw [hr, hlen]
end Go.Proofs.YtnipmjpdklbbcaaGreat
