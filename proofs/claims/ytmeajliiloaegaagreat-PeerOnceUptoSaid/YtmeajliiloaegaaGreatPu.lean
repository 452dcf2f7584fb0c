/- Layer 9: the law PeerOnce: what its function does. Conditions: none. -/
import Derived.Test.YtmeajliiloaegaaGreatPt
set_option linter.unusedSimpArgs false
set_option linter.unusedVariables false
set_option maxRecDepth 100000
set_option maxHeartbeats 4000000
namespace Go.SL
open Go
/-- Which tickets are those of asks that would mark. -/
def mks (xs : List Ask) : Nat → List (Int × Bool)
  | 0 => []
  | k + 1 => if (nth xs k).ok then aput (mks xs k) (k : Int) (decide ((nth xs k).kind = 9)) else mks xs k
theorem StpE.rank {s : StpE} (ho : s.ok) : (s.ref.key.rank ≠ 2 → s.pe.joined = true) ∧ (s.ref.key.rank = 2 → ¬ s.isEnd) ∧ s.pe.joined = (decide (s.en = 1) || decide (s.en = 2)) ∧ s.pe.marked = false ∧ s.pe.me = s.ref ∧ s.pe.value = s.val ∧ s.pe.waits = [] := by
  unfold StpE.ref StpE.pe StpE.val
  unfold StpE.ok at ho
  by_cases h : s.isEnd
  · simp only [if_pos h] at ho ⊢
    refine ⟨fun _ => rfl, fun h2 => ?_, ?_, rfl, rfl, rfl, rfl⟩
    · unfold endR at h2; split at h2 <;> simp at h2
    · rcases h with h | h <;> simp [Pe.new, h]
  · simp only [if_neg h] at ho ⊢
    refine ⟨fun h2 => absurd ho.1.1 h2, fun _ => h, ?_, rfl, rfl, rfl, rfl⟩
    unfold StpE.isEnd at h
    simp [Pe.new]; omega
theorem on_asks {s : StpE} (ho : s.ok) (xs : List Ask) : ∀ k, OnG (mks xs k) k (s.pe.asks xs k) ∧ (s.pe.asks xs k).me = s.ref ∧ (s.pe.asks xs k).value = s.val ∧ (s.ref.key.rank ≠ 2 → (s.pe.asks xs k).joined = true)
  | 0 => by
    obtain ⟨h1, _, _, _, h2, h3, h4⟩ := StpE.rank ho
    exact ⟨⟨fun x hx => by change x ∈ s.pe.waits at hx; rw [h4] at hx; cases hx⟩, h2, h3, h1⟩
  | k + 1 => by
    obtain ⟨h1, h2, h3, h4⟩ := on_asks ho xs k
    rw [Pe.asks_succ]
    unfold mks
    by_cases ha : (nth xs k).ok
    · rw [if_pos ha]
      have H := h1.ask ha (by rw [h2]; exact h4)
      refine ⟨⟨H.wts⟩, H.eme.trans h2, H.val.trans h3, fun h => ?_⟩
      rw [H.jn, h4 h]; rfl
    · rw [if_neg ha]
      have e : ((s.pe.asks xs k).ask (k : Int) (nth xs k)).1 = s.pe.asks xs k := by unfold Pe.ask; rw [if_neg ha]
      rw [e]
      exact ⟨⟨fun x hx => ⟨⟨(h1.wts x hx).1.1, by have := (h1.wts x hx).1.2; omega⟩, (h1.wts x hx).2⟩⟩, h2, h3, h4⟩
theorem on_step {s : StpE} (ho : s.ok) {xs : List Ask} {k : Nat} (ha : (nth xs k).ok) :
    Mid (mget (mks xs (k + 1))) (k + 1) s.ref s.val (s.pe.asks xs k).marked ((s.pe.asks xs k).joined || decide ((nth xs k).kind = 10)) (s.pe.asks xs (k + 1)) := by
  obtain ⟨h1, h2, h3, h4⟩ := on_asks ho xs k
  have H := h1.ask ha (by rw [h2]; exact h4)
  rw [h2, h3] at H
  rw [Pe.asks_succ, show mks xs (k + 1) = aput (mks xs k) (k : Int) (decide ((nth xs k).kind = 9)) from if_pos ha]
  exact H
def hitE (M : Int → Bool) (y : RdyE) : Bool := hit M y.pl
def hcnt (M : Int → Bool) (ys : List RdyE) (j : Nat) : Nat := (ys.take j).countP (hitE M)
theorem hcnt_succ {M : Int → Bool} {ys : List RdyE} {j : Nat} (h : j < ys.length) : hcnt M ys (j + 1) = hcnt M ys j + (hitE M (nth ys j)).toNat := by
  unfold hcnt
  rw [List.take_succ_eq_append_getElem h, List.countP_append, List.countP_singleton, nth_eq h]
  cases hitE M ys[j] <;> rfl
theorem hcnt_le {M : Int → Bool} {ys : List RdyE} {j : Nat} : hcnt M ys j ≤ ys.length := Nat.le_trans List.countP_le_length (by simp; omega)
theorem hcnt_all {M : Int → Bool} {ys : List RdyE} : hcnt M ys ys.length = (ys.map RdyE.pl).countP (hit M) := by
  unfold hcnt; rw [List.take_length, List.countP_map]; rfl
theorem sepP_get {α : Type} [Inhabited α] {f : α → Assn} (hp : ∀ x, (f x).pers) {l : List α} {i : Nat} (h : i < l.length) {r : List Assn} : Imp (sep (l.map f) :: r) (f (nth l i) :: sep (l.map f) :: r) := by
  have h1 : Imp (sep (l.map f) :: sep (l.map f) :: r) (f (nth l i) :: sep ((l.eraseIdx i).map f) :: sep (l.map f) :: r) := by
    obtain ⟨A, B, e1, e2, e3⟩ : ∃ A B, l = A ++ nth l i :: B ∧ A.length = i ∧ l.eraseIdx i = A ++ B := ⟨l.take i, l.drop (i + 1), by rw [nth_eq h]; simp, by simp; omega, by rw [List.eraseIdx_eq_take_drop_succ]⟩
    rw [e3]
    have : Imp (sep (l.map f) :: sep (l.map f) :: r) (f (nth l i) :: sep (A.map f ++ B.map f) :: sep (l.map f) :: r) := by
      conv => lhs; arg 1; rw [e1]
      rw [List.map_append, List.map_cons]; exact sep_pull
    rw [List.map_append]; exact this
  refine Imp.trans (Has.dup (sep_pers fun c hc => ?_) Has.here) (Imp.trans h1 (Imp.cons Imp.drop))
  obtain ⟨x, _, rfl⟩ := List.mem_map.1 hc; exact hp x
theorem RdA.get {ys : List RdyE} {i : Nat} (h : i < ys.length) {r : List Assn} : Imp (RdA ys :: r) (byO (nth ys i).x.a (nth ys i).x.c (nth ys i).x.x.value :: RdA ys :: r) := sepP_get (f := fun y : RdyE => byO y.x.a y.x.c y.x.x.value) (fun _ => SlT_pers _ _ _ _ _) h
end Go.SL
namespace Go.Proofs.YtmeajliiloaegaaGreat
open Go Go.SL
attribute [local irreducible] pc rc SlT Me Mt It pt ro pur ex sep old Meets
attribute [local irreducible] LockP RecP RecsA LinksP LinksH RdA PeW PeP PeI WaitsA R9P
def bv (x : Bool) : Value := .bool x
instance : KO Tryz.prog 3 i64 := ⟨KeyOk.int (k' := .i64) .i64 (by kernel_rfl)⟩
theorem PeerOnce_fn (s : StpE) {a1 : Option Addr} {c1 : Nat} {xs : List SL.Ask} (hx : ∀ x ∈ xs, 0 ≤ x.w.bits) (hb : 0 ≤ s.me.vec.bits) (F : List Assn) :
    Meets Tryz.prog 4 [stv s, .slice a1 xs.length c1] (byO s.a s.c s.v :: SlT false askC 15 (.slice a1 xs.length c1) c1 xs :: F) (Det (.bool true) (byO s.a s.c s.v :: SlT false askC 15 (.slice a1 xs.length c1) c1 xs :: F)) := by
  refine Meets.intro b4 k4 (by simp) ?_
  by_cases ho : s.ok
  · have hok := fun F => l09made_ok s F ho
    obtain ⟨_, hne, hj0, hm0, _, _, _⟩ := StpE.rank ho
    focus
     refine zs <| yB rfl fun b2 => zc rfl <| zw rfl rfl <| yE rfl rfl (.of (.t1 .rf)) (hok _) fun ⟨a17, c17⟩ _ => zc rfl <| zc rfl <| zc rfl <| zc rfl <| zc rfl <| zc rfl <| zc rfl ?_
     refine zc rfl <| zc rfl <| zc rfl <| yG rfl <| zc rfl <| yG rfl <| zc rfl <| zy (.pickF rfl rfl) <| zd <| zq <| zu rfl <| zk ?_
     refine zs ?_
    refine JT.mkm i64 bv (fun b31 => ?_)
    focus
     refine zc rfl <| zc rfl <| zfl rfl rfl rfl <| zj rfl rfl rfl <| zc rfl <| zh rfl rfl (fun h1 => .fa' 0 rfl rfl) <| zh rfl rfl (fun h1 => by rw [h1]; exact .L rfl rfl) <| zh rfl rfl (fun h1 => by rw [h1]; exact .int rfl rfl rfl) <| zy (.pickO rfl rfl rfl) <| zc rfl <| zc rfl <| zd ?_
     refine zq <| zb ?_
    refine J.keep [(1, .slice a1 xs.length c1), (2, ptr b2), (4, .bool false), (5, ptr a17), (6, ptr c17), (8, .map (some b31)), (9, i64 0), (10, .bool (decide (s.en = 1) || decide (s.en = 2))), (11, i64 0)] (by exact subxR rfl) ?_
    clear hok
    refine J.lp (ι := Nat × Int × Bool × Pe × List (Int × Bool)) (fun i => i.1 ≤ xs.length ∧ i.1 ≤ 80 ∧ i.2.1 = i.2.2.2.1.marked.toNat ∧ i.2.2.1 = i.2.2.2.1.joined ∧ i.2.2.2.1 = s.pe.asks xs i.1 ∧ i.2.2.2.2 = mks xs i.1)
      (fun i => [(9, i64 i.2.1), (10, .bool i.2.2.1), (11, i64 (i.1 : Int))]) (fun i => Mt b31 i64 bv i.2.2.2.2 :: PeI a17 i.2.2.2.1 :: R9P c17 s.ref :: byO s.a s.c s.v :: pc b2 32 (stpC s) :: SlT false askC 15 (.slice a1 xs.length c1) c1 xs :: F) (fun i => xs.length - i.1)
      (0, 0, (decide (s.en = 1) || decide (s.en = 2)), s.pe, []) ⟨by simp, by simp, by simp [hm0], by simp [hj0], rfl, rfl⟩ (by exact subxR rfl) (.of (.t0 (.t0 (.t0 (.t0 (.t0 (.t0 .rf))))))) (fun i hi => ?_)
    obtain ⟨k, n, jn, P, mk⟩ := i
    obtain ⟨hk1, hk2, hn, hj, hP, hmk⟩ := hi
    dsimp only at hk1 hk2 hn hj hP hmk ⊢
    have G := Pe.asks_G s.good hx k hk1 (by omega)
    rw [← hP] at G
    have hv := s.val_le ho
    have hn1 : n ≤ 1 := by rw [hn]; cases P.marked <;> simp
    have hn2 : P.marked = decide (n = 1) := by rw [hn]; cases P.marked <;> simp
    by_cases hlt : k < xs.length
    · by_cases h80 : k < 80
      · have hA := fun F => peAsk_fn a17 P (k : Int) (nth xs k) F G.lk.inv (by have := G.wts; omega) (by rw [G.val]; omega)
        by_cases ha : (nth xs k).ok
        · have H := on_step ho ha
          have he : (P.ask (k : Int) (nth xs k)).2 = 0 := by unfold Pe.ask; rw [if_pos ha]
          have hP' : (P.ask (k : Int) (nth xs k)).1 = s.pe.asks xs (k + 1) := by rw [Pe.asks_succ, hP]
          have hmk' : aput mk (k : Int) (decide ((nth xs k).kind = 9)) = mks xs (k + 1) := by rw [hmk]; exact (if_pos ha).symm
          rw [he] at hA
          rw [if_pos ha] at hA
          rw [← hP', ← hmk', ← hP, ← hj] at H
          generalize (P.ask (k : Int) (nth xs k)).1 = P' at hA hP' H
          cases jn
          · focus
             refine zs <| zc rfl <| zc rfl <| zc rfl <| zy (.cltT rfl rfl (by omega)) <| zc rfl <| yG rfl <| zc rfl <| yG rfl <| zy (.cltT rfl rfl (by omega)) <| zy (.pickT rfl rfl) <| zd ?_
             refine zq <| zt rfl <| zk <| zq <| zb <| zs <| zc rfl <| zc rfl <| zc rfl <| zc rfl <| zy (.iC rfl rfl (by omega)) <| zy (.LE rfl (by omega)) ?_
             refine yE rfl rfl (.of (.t1 .rf)) (hA _) fun ⟨a57, c57⟩ hx57 => zc rfl <| zc rfl <| zc rfl <| zc rfl <| zc rfl <| zc rfl <| zy (.cneF rfl rfl (by decide)) <| zd <| zq <| zu rfl <| zk ?_
             refine zs <| zc rfl <| zc rfl <| zc rfl <| zc rfl <| zy (.iC rfl rfl (by omega)) <| zy (.fe rfl) <| zy (.LE0 rfl (by omega) rfl) <| zj rfl rfl rfl <| JT.mu rfl (by rfl) (by rfl) ?_
             refine zc rfl <| zc rfl <| yG rfl <| zc rfl <| yG rfl <| zc rfl <| yG rfl <| zy (.iC rfl rfl (by omega)) <| yG rfl <| zy (.fe rfl) <| yG rfl <| zy (.LE0 rfl (by omega) rfl) ?_
             refine yG rfl <| zj rfl rfl rfl <| zy (.pickF rfl rfl) <| zc rfl <| zc rfl <| zd <| zb ?_
            obtain ⟨rc, ys⟩ := c57
            dsimp only at hx57 ⊢
            have hall := H.all
            have hcn := H.cnt
            have hjn := H.jn
            rw [← hx57] at hall hcn
            rw [← hcnt_all] at hcn
            refine J.keep [(1, .slice a1 xs.length c1), (2, ptr b2), (4, .bool false), (5, ptr a17), (6, ptr c17), (8, .map (some b31)), (9, i64 n), (10, .bool (decide ((nth xs k).kind = 10))), (11, i64 (k : Int)), (12, .slice a57 ys.length rc), (14, i64 0)] (by exact subxR rfl) ?_
            have h0 : n = n + ((hcnt (mget (aput mk (k : Int) (decide ((nth xs k).kind = 9)))) ys 0 : Nat) : Int) := by simp [hcnt]
            refine J.slF (enc := rdyC) (xs := ys) (by (repeat (first | exact Has.here | assumption | apply Has.there))) (fun hy1 hy2 _ => ?_)
            generalize aput mk (k : Int) (decide ((nth xs k).kind = 9)) = mk' at *
            refine J.lp (ι := Nat × Int) (fun i => i.1 ≤ ys.length ∧ i.2 = n + ((hcnt (mget mk') ys i.1 : Nat) : Int)) (fun i => [(9, i64 i.2), (14, i64 (i.1 : Int))]) (fun _ => Mt b31 i64 bv mk' :: SlT true rdyC 14 (.slice a57 ys.length rc) rc ys :: RdA ys :: PeI a17 P' :: R9P c17 s.ref :: byO s.a s.c s.v :: pc b2 32 (stpC s) :: SlT false askC 15 (.slice a1 xs.length c1) c1 xs :: F)
              (fun i => ys.length - i.1) (0, n) ⟨by simp, h0⟩ (by exact subxR rfl) (.of (.t0 (.t0 (.t0 (.t0 (.t0 (.t0 (.t0 (.t0 .rf))))))))) (fun i hi => ?_)
            obtain ⟨i, m⟩ := i
            obtain ⟨hi, hm⟩ := hi
            dsimp only at hi hm ⊢
            by_cases hlt2 : i < ys.length
            · have hsucc := hcnt_succ (M := mget mk') hlt2
              have hle := hcnt_le (M := mget mk') (ys := ys) (j := i)
              have hn0 : 0 ≤ n := by rw [hn]; omega
              have hmb : 0 ≤ m ∧ m ≤ 140737488355340 := by omega
              have hmem : (nth ys i).pl ∈ ys.map RdyE.pl := List.mem_map.2 ⟨_, by rw [nth_eq hlt2]; exact List.getElem_mem hlt2, rfl⟩
              have hal := hall _ hmem
              refine J.imp (Imp.trans (Imp.take (c := RdA ys) (by (repeat (first | exact Has.here | assumption | apply Has.there))) (Imp.refl _)) (RdA.get hlt2)) ?_
              have ehit : hitE (mget mk') (nth ys i) = ((alk mk' (nth ys i).ticket).getD false && decide ((nth ys i).x.x.kind = 1)) := rfl
              change hitE (mget mk') (nth ys i) = true → _ at hal
              cases ea : alk mk' (nth ys i).ticket with
              | none =>
                rw [ea] at ehit
                rw [show hitE (mget mk') (nth ys i) = false from ehit] at hsucc
                focus
                 refine zs <| zc rfl <| zc rfl <| zc rfl <| zy (.cltT rfl rfl (by omega)) <| zd <| zq <| zt rfl <| zk <| zq <| zb <| zs ?_
                 refine zc rfl <| zc rfl <| zc rfl <| zy (.iC rfl rfl (by omega)) <| zy (.fe rfl) <| zy (.LE0 rfl (by omega) rfl) <| JT.lk1n rfl (by rfl) (by assumption) ?_
                 refine zc rfl <| zv rfl rfl <| zv rfl rfl <| zv rfl rfl <| zv rfl rfl <| zv rfl rfl <| zv rfl rfl <| zv rfl rfl <| zy (.pickF rfl rfl) <| zd <| zu rfl <| zk ?_
                 refine zo <| zc rfl <| zy (.addN rfl rfl (by omega)) <| zc rfl <| zd <| ⟨⟨_, _⟩, ?_, (by omega), (subxR rfl), (.of (.t2 (.t2 (.t1 (.t1 (.t1 (.t1 (.t1 (.t1 (.d .rf))))))))))⟩
                exact ⟨by dsimp only; omega, by dsimp only; rw [hsucc, hm]; rfl⟩
              | some v =>
                rw [ea] at ehit
                cases v
                · rw [show hitE (mget mk') (nth ys i) = false from ehit] at hsucc
                  focus
                   refine zs <| zc rfl <| zc rfl <| zc rfl <| zy (.cltT rfl rfl (by omega)) <| zd <| zq <| zt rfl <| zk <| zq <| zb <| zs ?_
                   refine zc rfl <| zc rfl <| zc rfl <| zy (.iC rfl rfl (by omega)) <| zy (.fe rfl) <| zy (.LE0 rfl (by omega) rfl) <| JT.lk1s rfl (by rfl) (by assumption) ?_
                   refine zc rfl <| zv rfl rfl <| zv rfl rfl <| zv rfl rfl <| zv rfl rfl <| zv rfl rfl <| zv rfl rfl <| zv rfl rfl <| zy (.pickF rfl rfl) <| zd <| zu rfl <| zk ?_
                   refine zo <| zc rfl <| zy (.addN rfl rfl (by omega)) <| zc rfl <| zd <| ⟨⟨_, _⟩, ?_, (by omega), (subxR rfl), (.of (.t2 (.t2 (.t1 (.t1 (.t1 (.t1 (.t1 (.t1 (.d .rf))))))))))⟩
                  exact ⟨by dsimp only; omega, by dsimp only; rw [hsucc, hm]; rfl⟩
                · by_cases hk1 : (nth ys i).x.x.kind = 1
                  · have eh : hitE (mget mk') (nth ys i) = true := by rw [ehit, hk1]; rfl
                    obtain ⟨hj2, hv2, hr2⟩ := hal eh
                    have hE := hne hr2
                    have hv3 : (nth ys i).x.x.value = s.v := by
                      have e : s.val = s.v := if_neg hE
                      rw [← e]; exact hv2
                    have hE1 : s.en ≠ 1 := fun e => hE (.inl e)
                    have hE2 : s.en ≠ 2 := fun e => hE (.inr e)
                    rw [eh] at hsucc
                    have hk10 : (nth xs k).kind = 10 := by simpa using hj2
                    rw [decide_eq_true hk10]
                    focus
                     refine zs <| zc rfl <| zc rfl <| zc rfl <| zy (.cltT rfl rfl (by omega)) <| zd <| zq <| zt rfl <| zk <| zq <| zb <| zs ?_
                     refine zc rfl <| zc rfl <| zc rfl <| zy (.iC rfl rfl (by omega)) <| zy (.fe rfl) <| zy (.LE0 rfl (by omega) rfl) <| JT.lk1s rfl (by rfl) (by assumption) ?_
                     refine zc rfl <| yG rfl <| zc rfl <| yG rfl <| zc rfl <| yG rfl <| zy (.iC rfl rfl (by omega)) <| yG rfl <| zy (.fe rfl) <| yG rfl <| zy (.fe2 1 rfl rfl) <| yG rfl ?_
                     refine zy (.LE1 rfl (by omega) rfl (by decide)) <| yG rfl <| zy (.ceqT rfl rfl (by omega)) <| zy (.pickT rfl rfl) <| zd <| zt rfl <| zs <| zc rfl <| zy (.add rfl rfl (Wr.i64 (by omega) (by omega))) <| zc rfl <| zc rfl <| zc rfl ?_
                     refine zc rfl <| yG rfl <| zc rfl <| yG rfl <| zc rfl <| yG rfl <| zy (.iC rfl rfl (by omega)) <| yG rfl <| zy (.fe rfl) <| yG rfl <| zy (.fe2 13 rfl rfl) <| yG rfl ?_
                     refine zy (.LE1 rfl (by omega) rfl (by decide)) <| yG rfl <| zf 7 rfl rfl <| yG rfl <| zl rfl rfl <| JT.both ?_ ?_
                     refine yG rfl ?_
                     rotate_left
                     refine yG rfl ?_
                     rotate_left
                    · refine JT.bst (e := 5) (xs := (nth ys i).x.x.value) (c := (nth ys i).x.c) rfl (by kernel_rfl) (by kernel_rfl) (by kernel_rfl) rfl ?_
                      focus
                       refine JT.yB rfl rfl (Ev.L rfl rfl) <| yG rfl ?_
                      refine JT.bst (e := 5) (xs := s.v) (c := s.c) rfl (by kernel_rfl) (by kernel_rfl) (by kernel_rfl) rfl ?_
                      focus
                       refine JT.yB rfl rfl (Ev.LE1 rfl (by omega) rfl (by decide)) <| yG rfl <| zc rfl <| zy (.pickF rfl rfl) <| zc rfl <| zh rfl rfl (fun h1 => .fa' 0 rfl rfl) <| zh rfl rfl (fun h1 => by rw [h1]; exact .L rfl rfl) <| zh rfl rfl (fun h1 => by rw [h1]; exact .ceqF rfl rfl (by omega)) <| zy (.pickO rfl rfl rfl) <| zc rfl <| zh rfl rfl (fun h1 => .fa' 0 rfl rfl) <| zh rfl rfl (fun h1 => by rw [h1]; exact .L rfl rfl) ?_
                       refine zh rfl rfl (fun h1 => by rw [h1]; exact .ceqF rfl rfl (by omega)) <| zy (.pickO rfl rfl rfl) <| zd <| zi rfl (fun h1 => ?_) (fun h1 => ?_)
                       refine zs <| zc rfl <| zd <| zr <| yR (.t rfl .nil) ?_ (.of (.t6 (.tk (.there (.there (.there (.there (.there (.there (.there .here))))))) (.d (.d (.d (.d (.d (.d (.d .rf))))))))))
                       rotate_left
                       refine zk <| zo <| zc rfl <| zy (.addN rfl rfl (by omega)) <| zc rfl <| zd <| ⟨⟨_, _⟩, ?_, (by omega), (subxR rfl), (.of (.t2 (.t2 (.t1 (.t1 (.t1 (.t1 (.t1 (.t1 (.d .rf))))))))))⟩
                       rotate_left
                      · exfalso; rw [hv3] at h1; simp at h1
                      · exact ⟨by dsimp only; omega, by dsimp only; rw [hsucc, hm]; simp; omega⟩
                    · refine JT.bst (e := 5) (xs := s.v) (c := s.c) rfl (by kernel_rfl) (by kernel_rfl) (by kernel_rfl) rfl ?_
                      focus
                       refine JT.yB rfl rfl (Ev.LE1 rfl (by omega) rfl (by decide)) <| yG rfl ?_
                      refine JT.bst (e := 5) (xs := (nth ys i).x.x.value) (c := (nth ys i).x.c) rfl (by kernel_rfl) (by kernel_rfl) (by kernel_rfl) rfl ?_
                      focus
                       refine JT.yB rfl rfl (Ev.L rfl rfl) <| yG rfl <| zc rfl <| zy (.pickF rfl rfl) <| zc rfl <| zh rfl rfl (fun h1 => .fa' 0 rfl rfl) <| zh rfl rfl (fun h1 => by rw [h1]; exact .L rfl rfl) <| zh rfl rfl (fun h1 => by rw [h1]; exact .ceqF rfl rfl (by omega)) <| zy (.pickO rfl rfl rfl) <| zc rfl <| zh rfl rfl (fun h1 => .fa' 0 rfl rfl) <| zh rfl rfl (fun h1 => by rw [h1]; exact .L rfl rfl) ?_
                       refine zh rfl rfl (fun h1 => by rw [h1]; exact .ceqF rfl rfl (by omega)) <| zy (.pickO rfl rfl rfl) <| zd <| zi rfl (fun h1 => ?_) (fun h1 => ?_)
                       refine zs <| zc rfl <| zd <| zr <| yR (.t rfl .nil) ?_ (.of (.t6 (.tk (.there (.there (.there (.there (.there (.there (.there .here))))))) (.d (.d (.d (.d (.d (.d (.d .rf))))))))))
                       rotate_left
                       refine zk <| zo <| zc rfl <| zy (.addN rfl rfl (by omega)) <| zc rfl <| zd <| ⟨⟨_, _⟩, ?_, (by omega), (subxR rfl), (.of (.t2 (.t2 (.t1 (.t1 (.t1 (.t1 (.t1 (.t1 (.d .rf))))))))))⟩
                       rotate_left
                      · exfalso; rw [hv3] at h1; simp at h1
                      · exact ⟨by dsimp only; omega, by dsimp only; rw [hsucc, hm]; simp; omega⟩
                  · rw [show hitE (mget mk') (nth ys i) = false from by rw [ehit]; simp [hk1]] at hsucc
                    focus
                     refine zs <| zc rfl <| zc rfl <| zc rfl <| zy (.cltT rfl rfl (by omega)) <| zd <| zq <| zt rfl <| zk <| zq <| zb <| zs ?_
                     refine zc rfl <| zc rfl <| zc rfl <| zy (.iC rfl rfl (by omega)) <| zy (.fe rfl) <| zy (.LE0 rfl (by omega) rfl) <| JT.lk1s rfl (by rfl) (by assumption) ?_
                     refine zc rfl <| yG rfl <| zc rfl <| yG rfl <| zc rfl <| yG rfl <| zy (.iC rfl rfl (by omega)) <| yG rfl <| zy (.fe rfl) <| yG rfl <| zy (.fe2 1 rfl rfl) <| yG rfl ?_
                     refine zy (.LE1 rfl (by omega) rfl (by decide)) <| yG rfl <| zy (.ceqF rfl rfl (by omega)) <| zy (.pickT rfl rfl) <| zd <| zu rfl <| zk <| zo <| zc rfl <| zy (.addN rfl rfl (by omega)) <| zc rfl <| zd ?_
                     refine ⟨⟨_, _⟩, ?_, (by omega), (subxR rfl), (.of (.t2 (.t2 (.t1 (.t1 (.t1 (.t1 (.t1 (.t1 (.d .rf))))))))))⟩
                    exact ⟨by dsimp only; omega, by dsimp only; rw [hsucc, hm]; rfl⟩
            · have ei : i = ys.length := by omega
              focus
               refine zs <| zc rfl <| zc rfl <| zc rfl <| zy (.cltF rfl rfl (by omega)) <| zd <| zq <| zu rfl <| zx <| zo <| zc rfl <| zy (.addN rfl rfl (by omega)) ?_
               refine zc rfl <| zd <| ⟨⟨_, ⟨_, ⟨_, ⟨_, _⟩⟩⟩⟩, ?_, (by omega), (subxR rfl), (.of (.t0 (.t2 (.t2 (.t2 (.t2 (.t2 (.d (.d .rf)))))))))⟩
              exact ⟨by dsimp only; omega, by dsimp only; omega, by dsimp only; rw [hm, hn, ei, ← hcn]; omega, by dsimp only; rw [hjn]; rfl, hP', hmk'⟩
          · focus
             refine zs <| zc rfl <| zc rfl <| zc rfl <| zy (.cltT rfl rfl (by omega)) <| zc rfl <| yG rfl <| zc rfl <| yG rfl <| zy (.cltT rfl rfl (by omega)) <| zy (.pickT rfl rfl) <| zd ?_
             refine zq <| zt rfl <| zk <| zq <| zb <| zs <| zc rfl <| zc rfl <| zc rfl <| zc rfl <| zy (.iC rfl rfl (by omega)) <| zy (.LE rfl (by omega)) ?_
             refine yE rfl rfl (.of (.t1 .rf)) (hA _) fun ⟨a57, c57⟩ hx57 => zc rfl <| zc rfl <| zc rfl <| zc rfl <| zc rfl <| zc rfl <| zy (.cneF rfl rfl (by decide)) <| zd <| zq <| zu rfl <| zk ?_
             refine zs <| zc rfl <| zc rfl <| zc rfl <| zc rfl <| zy (.iC rfl rfl (by omega)) <| zy (.fe rfl) <| zy (.LE0 rfl (by omega) rfl) <| zj rfl rfl rfl <| JT.mu rfl (by rfl) (by rfl) ?_
             refine zc rfl <| zc rfl <| zv rfl rfl <| zv rfl rfl <| zv rfl rfl <| zv rfl rfl <| zv rfl rfl <| zv rfl rfl <| zy (.pickT rfl rfl) <| zc rfl <| zc rfl <| zd ?_
             refine zb ?_
            obtain ⟨rc, ys⟩ := c57
            dsimp only at hx57 ⊢
            have hall := H.all
            have hcn := H.cnt
            have hjn := H.jn
            rw [← hx57] at hall hcn
            rw [← hcnt_all] at hcn
            refine J.keep [(1, .slice a1 xs.length c1), (2, ptr b2), (4, .bool false), (5, ptr a17), (6, ptr c17), (8, .map (some b31)), (9, i64 n), (10, .bool true), (11, i64 (k : Int)), (12, .slice a57 ys.length rc), (14, i64 0)] (by exact subxR rfl) ?_
            have h0 : n = n + ((hcnt (mget (aput mk (k : Int) (decide ((nth xs k).kind = 9)))) ys 0 : Nat) : Int) := by simp [hcnt]
            refine J.slF (enc := rdyC) (xs := ys) (by (repeat (first | exact Has.here | assumption | apply Has.there))) (fun hy1 hy2 _ => ?_)
            generalize aput mk (k : Int) (decide ((nth xs k).kind = 9)) = mk' at *
            refine J.lp (ι := Nat × Int) (fun i => i.1 ≤ ys.length ∧ i.2 = n + ((hcnt (mget mk') ys i.1 : Nat) : Int)) (fun i => [(9, i64 i.2), (14, i64 (i.1 : Int))]) (fun _ => Mt b31 i64 bv mk' :: SlT true rdyC 14 (.slice a57 ys.length rc) rc ys :: RdA ys :: PeI a17 P' :: R9P c17 s.ref :: byO s.a s.c s.v :: pc b2 32 (stpC s) :: SlT false askC 15 (.slice a1 xs.length c1) c1 xs :: F)
              (fun i => ys.length - i.1) (0, n) ⟨by simp, h0⟩ (by exact subxR rfl) (.of (.t0 (.t0 (.t0 (.t0 (.t0 (.t0 (.t0 (.t0 .rf))))))))) (fun i hi => ?_)
            obtain ⟨i, m⟩ := i
            obtain ⟨hi, hm⟩ := hi
            dsimp only at hi hm ⊢
            by_cases hlt2 : i < ys.length
            · have hsucc := hcnt_succ (M := mget mk') hlt2
              have hle := hcnt_le (M := mget mk') (ys := ys) (j := i)
              have hn0 : 0 ≤ n := by rw [hn]; omega
              have hmb : 0 ≤ m ∧ m ≤ 140737488355340 := by omega
              have hmem : (nth ys i).pl ∈ ys.map RdyE.pl := List.mem_map.2 ⟨_, by rw [nth_eq hlt2]; exact List.getElem_mem hlt2, rfl⟩
              have hal := hall _ hmem
              refine J.imp (Imp.trans (Imp.take (c := RdA ys) (by (repeat (first | exact Has.here | assumption | apply Has.there))) (Imp.refl _)) (RdA.get hlt2)) ?_
              have ehit : hitE (mget mk') (nth ys i) = ((alk mk' (nth ys i).ticket).getD false && decide ((nth ys i).x.x.kind = 1)) := rfl
              change hitE (mget mk') (nth ys i) = true → _ at hal
              cases ea : alk mk' (nth ys i).ticket with
              | none =>
                rw [ea] at ehit
                rw [show hitE (mget mk') (nth ys i) = false from ehit] at hsucc
                focus
                 refine zs <| zc rfl <| zc rfl <| zc rfl <| zy (.cltT rfl rfl (by omega)) <| zd <| zq <| zt rfl <| zk <| zq <| zb <| zs ?_
                 refine zc rfl <| zc rfl <| zc rfl <| zy (.iC rfl rfl (by omega)) <| zy (.fe rfl) <| zy (.LE0 rfl (by omega) rfl) <| JT.lk1n rfl (by rfl) (by assumption) ?_
                 refine zc rfl <| zv rfl rfl <| zv rfl rfl <| zv rfl rfl <| zv rfl rfl <| zv rfl rfl <| zv rfl rfl <| zv rfl rfl <| zy (.pickF rfl rfl) <| zd <| zu rfl <| zk ?_
                 refine zo <| zc rfl <| zy (.addN rfl rfl (by omega)) <| zc rfl <| zd <| ⟨⟨_, _⟩, ?_, (by omega), (subxR rfl), (.of (.t2 (.t2 (.t1 (.t1 (.t1 (.t1 (.t1 (.t1 (.d .rf))))))))))⟩
                exact ⟨by dsimp only; omega, by dsimp only; rw [hsucc, hm]; rfl⟩
              | some v =>
                rw [ea] at ehit
                cases v
                · rw [show hitE (mget mk') (nth ys i) = false from ehit] at hsucc
                  focus
                   refine zs <| zc rfl <| zc rfl <| zc rfl <| zy (.cltT rfl rfl (by omega)) <| zd <| zq <| zt rfl <| zk <| zq <| zb <| zs ?_
                   refine zc rfl <| zc rfl <| zc rfl <| zy (.iC rfl rfl (by omega)) <| zy (.fe rfl) <| zy (.LE0 rfl (by omega) rfl) <| JT.lk1s rfl (by rfl) (by assumption) ?_
                   refine zc rfl <| zv rfl rfl <| zv rfl rfl <| zv rfl rfl <| zv rfl rfl <| zv rfl rfl <| zv rfl rfl <| zv rfl rfl <| zy (.pickF rfl rfl) <| zd <| zu rfl <| zk ?_
                   refine zo <| zc rfl <| zy (.addN rfl rfl (by omega)) <| zc rfl <| zd <| ⟨⟨_, _⟩, ?_, (by omega), (subxR rfl), (.of (.t2 (.t2 (.t1 (.t1 (.t1 (.t1 (.t1 (.t1 (.d .rf))))))))))⟩
                  exact ⟨by dsimp only; omega, by dsimp only; rw [hsucc, hm]; rfl⟩
                · by_cases hk1 : (nth ys i).x.x.kind = 1
                  · have eh : hitE (mget mk') (nth ys i) = true := by rw [ehit, hk1]; rfl
                    obtain ⟨hj2, hv2, hr2⟩ := hal eh
                    have hE := hne hr2
                    have hv3 : (nth ys i).x.x.value = s.v := by
                      have e : s.val = s.v := if_neg hE
                      rw [← e]; exact hv2
                    have hE1 : s.en ≠ 1 := fun e => hE (.inl e)
                    have hE2 : s.en ≠ 2 := fun e => hE (.inr e)
                    rw [eh] at hsucc
                    focus
                     refine zs <| zc rfl <| zc rfl <| zc rfl <| zy (.cltT rfl rfl (by omega)) <| zd <| zq <| zt rfl <| zk <| zq <| zb <| zs ?_
                     refine zc rfl <| zc rfl <| zc rfl <| zy (.iC rfl rfl (by omega)) <| zy (.fe rfl) <| zy (.LE0 rfl (by omega) rfl) <| JT.lk1s rfl (by rfl) (by assumption) ?_
                     refine zc rfl <| yG rfl <| zc rfl <| yG rfl <| zc rfl <| yG rfl <| zy (.iC rfl rfl (by omega)) <| yG rfl <| zy (.fe rfl) <| yG rfl <| zy (.fe2 1 rfl rfl) <| yG rfl ?_
                     refine zy (.LE1 rfl (by omega) rfl (by decide)) <| yG rfl <| zy (.ceqT rfl rfl (by omega)) <| zy (.pickT rfl rfl) <| zd <| zt rfl <| zs <| zc rfl <| zy (.add rfl rfl (Wr.i64 (by omega) (by omega))) <| zc rfl <| zc rfl <| zc rfl ?_
                     refine zc rfl <| yG rfl <| zc rfl <| yG rfl <| zc rfl <| yG rfl <| zy (.iC rfl rfl (by omega)) <| yG rfl <| zy (.fe rfl) <| yG rfl <| zy (.fe2 13 rfl rfl) <| yG rfl ?_
                     refine zy (.LE1 rfl (by omega) rfl (by decide)) <| yG rfl <| zf 7 rfl rfl <| yG rfl <| zl rfl rfl <| JT.both ?_ ?_
                     refine yG rfl ?_
                     rotate_left
                     refine yG rfl ?_
                     rotate_left
                    · refine JT.bst (e := 5) (xs := (nth ys i).x.x.value) (c := (nth ys i).x.c) rfl (by kernel_rfl) (by kernel_rfl) (by kernel_rfl) rfl ?_
                      focus
                       refine JT.yB rfl rfl (Ev.L rfl rfl) <| yG rfl ?_
                      refine JT.bst (e := 5) (xs := s.v) (c := s.c) rfl (by kernel_rfl) (by kernel_rfl) (by kernel_rfl) rfl ?_
                      focus
                       refine JT.yB rfl rfl (Ev.LE1 rfl (by omega) rfl (by decide)) <| yG rfl <| zc rfl <| zy (.pickF rfl rfl) <| zc rfl <| zh rfl rfl (fun h1 => .fa' 0 rfl rfl) <| zh rfl rfl (fun h1 => by rw [h1]; exact .L rfl rfl) <| zh rfl rfl (fun h1 => by rw [h1]; exact .ceqF rfl rfl (by omega)) <| zy (.pickO rfl rfl rfl) <| zc rfl <| zh rfl rfl (fun h1 => .fa' 0 rfl rfl) <| zh rfl rfl (fun h1 => by rw [h1]; exact .L rfl rfl) ?_
                       refine zh rfl rfl (fun h1 => by rw [h1]; exact .ceqF rfl rfl (by omega)) <| zy (.pickO rfl rfl rfl) <| zd <| zi rfl (fun h1 => ?_) (fun h1 => ?_)
                       refine zs <| zc rfl <| zd <| zr <| yR (.t rfl .nil) ?_ (.of (.t6 (.tk (.there (.there (.there (.there (.there (.there (.there .here))))))) (.d (.d (.d (.d (.d (.d (.d .rf))))))))))
                       rotate_left
                       refine zk <| zo <| zc rfl <| zy (.addN rfl rfl (by omega)) <| zc rfl <| zd <| ⟨⟨_, _⟩, ?_, (by omega), (subxR rfl), (.of (.t2 (.t2 (.t1 (.t1 (.t1 (.t1 (.t1 (.t1 (.d .rf))))))))))⟩
                       rotate_left
                      · exfalso; rw [hv3] at h1; simp at h1
                      · exact ⟨by dsimp only; omega, by dsimp only; rw [hsucc, hm]; simp; omega⟩
                    · refine JT.bst (e := 5) (xs := s.v) (c := s.c) rfl (by kernel_rfl) (by kernel_rfl) (by kernel_rfl) rfl ?_
                      focus
                       refine JT.yB rfl rfl (Ev.LE1 rfl (by omega) rfl (by decide)) <| yG rfl ?_
                      refine JT.bst (e := 5) (xs := (nth ys i).x.x.value) (c := (nth ys i).x.c) rfl (by kernel_rfl) (by kernel_rfl) (by kernel_rfl) rfl ?_
                      focus
                       refine JT.yB rfl rfl (Ev.L rfl rfl) <| yG rfl <| zc rfl <| zy (.pickF rfl rfl) <| zc rfl <| zh rfl rfl (fun h1 => .fa' 0 rfl rfl) <| zh rfl rfl (fun h1 => by rw [h1]; exact .L rfl rfl) <| zh rfl rfl (fun h1 => by rw [h1]; exact .ceqF rfl rfl (by omega)) <| zy (.pickO rfl rfl rfl) <| zc rfl <| zh rfl rfl (fun h1 => .fa' 0 rfl rfl) <| zh rfl rfl (fun h1 => by rw [h1]; exact .L rfl rfl) ?_
                       refine zh rfl rfl (fun h1 => by rw [h1]; exact .ceqF rfl rfl (by omega)) <| zy (.pickO rfl rfl rfl) <| zd <| zi rfl (fun h1 => ?_) (fun h1 => ?_)
                       refine zs <| zc rfl <| zd <| zr <| yR (.t rfl .nil) ?_ (.of (.t6 (.tk (.there (.there (.there (.there (.there (.there (.there .here))))))) (.d (.d (.d (.d (.d (.d (.d .rf))))))))))
                       rotate_left
                       refine zk <| zo <| zc rfl <| zy (.addN rfl rfl (by omega)) <| zc rfl <| zd <| ⟨⟨_, _⟩, ?_, (by omega), (subxR rfl), (.of (.t2 (.t2 (.t1 (.t1 (.t1 (.t1 (.t1 (.t1 (.d .rf))))))))))⟩
                       rotate_left
                      · exfalso; rw [hv3] at h1; simp at h1
                      · exact ⟨by dsimp only; omega, by dsimp only; rw [hsucc, hm]; simp; omega⟩
                  · rw [show hitE (mget mk') (nth ys i) = false from by rw [ehit]; simp [hk1]] at hsucc
                    focus
                     refine zs <| zc rfl <| zc rfl <| zc rfl <| zy (.cltT rfl rfl (by omega)) <| zd <| zq <| zt rfl <| zk <| zq <| zb <| zs ?_
                     refine zc rfl <| zc rfl <| zc rfl <| zy (.iC rfl rfl (by omega)) <| zy (.fe rfl) <| zy (.LE0 rfl (by omega) rfl) <| JT.lk1s rfl (by rfl) (by assumption) ?_
                     refine zc rfl <| yG rfl <| zc rfl <| yG rfl <| zc rfl <| yG rfl <| zy (.iC rfl rfl (by omega)) <| yG rfl <| zy (.fe rfl) <| yG rfl <| zy (.fe2 1 rfl rfl) <| yG rfl ?_
                     refine zy (.LE1 rfl (by omega) rfl (by decide)) <| yG rfl <| zy (.ceqF rfl rfl (by omega)) <| zy (.pickT rfl rfl) <| zd <| zu rfl <| zk <| zo <| zc rfl <| zy (.addN rfl rfl (by omega)) <| zc rfl <| zd ?_
                     refine ⟨⟨_, _⟩, ?_, (by omega), (subxR rfl), (.of (.t2 (.t2 (.t1 (.t1 (.t1 (.t1 (.t1 (.t1 (.d .rf))))))))))⟩
                    exact ⟨by dsimp only; omega, by dsimp only; rw [hsucc, hm]; rfl⟩
            · have ei : i = ys.length := by omega
              focus
               refine zs <| zc rfl <| zc rfl <| zc rfl <| zy (.cltF rfl rfl (by omega)) <| zd <| zq <| zu rfl <| zx <| zo <| zc rfl <| zy (.addN rfl rfl (by omega)) ?_
               refine zc rfl <| zd <| ⟨⟨_, ⟨_, ⟨_, ⟨_, _⟩⟩⟩⟩, ?_, (by omega), (subxR rfl), (.of (.t0 (.t2 (.t2 (.t2 (.t2 (.t2 (.d (.d .rf)))))))))⟩
              exact ⟨by dsimp only; omega, by dsimp only; omega, by dsimp only; rw [hm, hn, ei, ← hcn]; omega, by dsimp only; rw [hjn]; rfl, hP', hmk'⟩
        · have he : (P.ask (k : Int) (nth xs k)).2 = 91 := by unfold Pe.ask; rw [if_neg ha]
          have ep : (P.ask (k : Int) (nth xs k)).1 = P := by unfold Pe.ask; rw [if_neg ha]
          rw [he, ep] at hA
          focus
           refine zs <| zc rfl <| zc rfl <| zc rfl <| zy (.cltT rfl rfl (by omega)) <| zc rfl <| yG rfl <| zc rfl <| yG rfl <| zy (.cltT rfl rfl (by omega)) <| zy (.pickT rfl rfl) <| zd ?_
           refine zq <| zt rfl <| zk <| zq <| zb <| zs <| zc rfl <| zc rfl <| zc rfl <| zc rfl <| zy (.iC rfl rfl (by omega)) <| zy (.LE rfl (by omega)) ?_
           refine yE rfl rfl (.of (.t1 .rf)) (hA _) fun ⟨a57, c57⟩ hx57 => zc rfl <| zc rfl <| zc rfl <| zc rfl <| zc rfl <| zc rfl <| zy (.cneT rfl rfl (by decide)) <| zd <| zq <| zt rfl <| zx ?_
           refine zo <| zc rfl <| zy (.addN rfl rfl (by omega)) <| zc rfl <| zd <| ⟨⟨_, ⟨_, ⟨_, ⟨_, _⟩⟩⟩⟩, ?_, (by omega), (subxR rfl), (.of (.t3 (.t2 (.t2 (.t2 (.t2 (.t2 (.d (.d .rf)))))))))⟩
          exact ⟨by dsimp only; omega, by dsimp only; omega, hn, hj, by rw [Pe.asks_succ, ← hP, ep], by dsimp only; rw [hmk]; exact (if_neg ha).symm⟩
      · have hS := fun F => peState_fn a17 P F G.lk.inv G.lk.srt (by have := G.lk.len; omega) (by rw [G.val]; omega)
        focus
         refine zs <| zc rfl <| zc rfl <| zc rfl <| zy (.cltT rfl rfl (by omega)) <| zc rfl <| yG rfl <| zc rfl <| yG rfl <| zy (.cltF rfl rfl (by omega)) <| zy (.pickT rfl rfl) <| zd ?_
         refine zq <| zu rfl <| zx <| zs <| zc rfl <| zy (.cleT rfl rfl (by omega)) <| zc rfl <| yG rfl <| zc rfl <| yG rfl <| yE rfl rfl (.of (.t1 .rf)) (hS _) fun ⟨a132, c132⟩ hx132 => yG rfl ?_
         refine zc rfl <| yG rfl <| zc rfl <| yG rfl <| zj rfl rfl rfl <| yG rfl <| zc rfl <| zy (.pickT rfl rfl) <| zc rfl <| zp rfl (fun h1 => ?_) (fun h1 => ?_)
         refine yD rfl rfl (.of .rf) (l09alive_fn _) <| zy (.pickTp rfl (by assumption) rfl) <| zc rfl <| zd <| zr <| yR (.t rfl .nil) rfl (.of (.t6 (.tk (.there (.there (.there (.there (.there (.there (.there .here))))))) (.d (.d (.d (.d (.d (.d (.d .rf))))))))))
         refine zy (.pickFp rfl (by assumption) rfl) <| zc rfl <| zd <| zr <| yR (.t rfl .nil) ?_ (.of (.t6 (.tk (.there (.there (.there (.there (.there (.there (.there .here))))))) (.d (.d (.d (.d (.d (.d (.d .rf))))))))))
        all_goals (exfalso; grind)
    · have hS := fun F => peState_fn a17 P F G.lk.inv G.lk.srt (by have := G.lk.len; omega) (by rw [G.val]; omega)
      focus
       refine zs <| zc rfl <| zc rfl <| zc rfl <| zy (.cltF rfl rfl (by omega)) <| zc rfl <| zv rfl rfl <| zv rfl rfl <| zy (.pickF rfl rfl) <| zd <| zq <| zu rfl ?_
       refine zx <| zs <| zc rfl <| zy (.cleT rfl rfl (by omega)) <| zc rfl <| yG rfl <| zc rfl <| yG rfl <| yE rfl rfl (.of (.t1 .rf)) (hS _) fun ⟨a132, c132⟩ hx132 => yG rfl <| zc rfl <| yG rfl ?_
       refine zc rfl <| yG rfl <| zj rfl rfl rfl <| yG rfl <| zc rfl <| zy (.pickT rfl rfl) <| zc rfl <| zp rfl (fun h1 => ?_) (fun h1 => ?_)
       refine yD rfl rfl (.of .rf) (l09alive_fn _) <| zy (.pickTp rfl (by assumption) rfl) <| zc rfl <| zd <| zr <| yR (.t rfl .nil) rfl (.of (.t6 (.tk (.there (.there (.there (.there (.there (.there (.there .here))))))) (.d (.d (.d (.d (.d (.d (.d .rf))))))))))
       refine zy (.pickFp rfl (by assumption) rfl) <| zc rfl <| zd <| zr <| yR (.t rfl .nil) ?_ (.of (.t6 (.tk (.there (.there (.there (.there (.there (.there (.there .here))))))) (.d (.d (.d (.d (.d (.d (.d .rf))))))))))
      all_goals (exfalso; grind)
  · have hno := fun F => l09made_no s F ho
    focus
     refine zs <| yB rfl fun b2 => zc rfl <| zw rfl rfl <| yD rfl rfl (.of (.t1 .rf)) (hno _) <| zc rfl <| zc rfl <| zc rfl <| zc rfl <| zc rfl <| zc rfl <| zc rfl ?_
     refine zc rfl <| zc rfl <| zc rfl <| yG rfl <| zc rfl <| yG rfl <| zc rfl <| zy (.pickF rfl rfl) <| zd <| zq <| zt rfl <| zs ?_
     refine zc rfl <| zc rfl <| yG rfl <| yD rfl rfl (.of .rf) (l09alive_fn _) <| zy (.pickT rfl rfl) <| zc rfl <| zd <| zr <| yR (.t rfl .nil) rfl (.of (.t0 (.t1 (.d .rf))))
end Go.Proofs.YtmeajliiloaegaaGreat
