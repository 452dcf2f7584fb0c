/- Layer 9: what holds of a peer that is asked (plain Lean). Conditions: none. -/
import Derived.Test.YtmeajliiloaegaaGreatPo
import Derived.Test.YtmeajliiloaegaaGreatMc
set_option linter.unusedSimpArgs false
set_option linter.unusedVariables false
namespace Go.SL
open Go
/-- What holds of a peer's records. -/
structure LkG (me : Ref) (n : Nat) (l : LK) : Prop where
  inv : l.Inv
  srt : l.Srt
  eme : l.me = me
  len : l.m.length ≤ n
theorem LkG.touch {me : Ref} {n : Nat} {l : LK} (h : LkG me n l) {w : Vec} (hw : 0 ≤ w.bits) : LkG me (n + 1) (l.touch w) :=
  ⟨h.inv.touch w, h.srt.touch hw, (touch_me _ _).trans h.eme, by have := touch_len l w; have := h.len; omega⟩
theorem LkG.act {me : Ref} {n : Nat} {l : LK} (h : LkG me n l) (x : KOp) (hw : 0 ≤ x.w.bits) : LkG me (n + 1) (l.act x).1 :=
  ⟨h.inv.act x, h.srt.act x hw, (act_me _ _).trans h.eme, by have := act_len l x; have := h.len; omega⟩
theorem LkG.le {me : Ref} {n m : Nat} {l : LK} (h : LkG me n l) (hm : n ≤ m) : LkG me m l := ⟨h.inv, h.srt, h.eme, Nat.le_trans h.len hm⟩
/-- What holds of a peer. -/
structure PeG (me : Ref) (v : List UInt8) (n k : Nat) (P : Pe) : Prop where
  lk : LkG me n P.lk
  eme : P.me = me
  val : P.value = v
  wts : P.waits.length ≤ k
  wb : ∀ x ∈ P.waits, 0 ≤ x.w.bits
theorem PeG.new {me : Ref} {v : List UInt8} {j : Bool} : PeG me v 0 0 (Pe.new me v j) := ⟨⟨.new me, fun x hx => (nomatch hx), rfl, by simp [Pe.new]⟩, rfl, rfl, by simp [Pe.new], fun x hx => by simp [Pe.new] at hx⟩
section
variable {me : Ref} {v : List UInt8} {n k : Nat} {P : Pe}
theorem PeG.le (h : PeG me v n k P) {n' k' : Nat} (hn : n ≤ n') (hk : k ≤ k') : PeG me v n' k' P := ⟨h.lk.le hn, h.eme, h.val, Nat.le_trans h.wts hk, h.wb⟩
theorem PeG.tell (h : PeG me v n k P) (t : Int) (a : Ans) : PeG me v n k (P.tell t a) := ⟨h.lk, h.eme, h.val, h.wts, h.wb⟩
theorem PeG.read (h : PeG me v n k P) (t : Int) {w : Vec} (hw : 0 ≤ w.bits) : PeG me v (n + 1) k (P.read t w) := ⟨h.lk.touch hw, h.eme, h.val, h.wts, h.wb⟩
theorem PeG.get (h : PeG me v n k P) (t : Int) : PeG me v (n + 1) k (P.get t) := ⟨h.lk.touch (by decide), h.eme, h.val, h.wts, h.wb⟩
theorem PeG.withLk (h : PeG me v n k P) {l : LK} {m : Nat} (hl : LkG me m l) : PeG me v m k { P with lk := l } := ⟨hl, h.eme, h.val, h.wts, h.wb⟩
theorem PeG.wait (h : PeG me v n k P) {x : WaitE} (hx : 0 ≤ x.w.bits) : PeG me v n (k + 1) { P with waits := P.waits ++ [x] } :=
  ⟨h.lk, h.eme, h.val, by have := h.wts; simp; omega, fun y hy => by
    rcases List.mem_append.1 hy with hy | hy
    · exact h.wb y hy
    · rw [List.mem_singleton.1 hy]; exact hx⟩
theorem PeG.served (h : PeG me v n k P) {is : WaitE → Bool} {act : Pe → WaitE → Pe} (ha : ∀ Q n x, 0 ≤ x.w.bits → PeG me v n k Q → PeG me v (n + 1) k (act Q x)) : PeG me v (n + k) k (P.served is act) := by
  have key : ∀ (l : List WaitE) (Q : Pe) (m : Nat), (∀ x ∈ l, 0 ≤ x.w.bits) → PeG me v m k Q → PeG me v (m + l.length) k (l.foldl (fun P x => if is x then act P x else P) Q) := by
    intro l
    induction l with
    | nil => intro Q m _ hQ; exact hQ
    | cons x l ih =>
      intro Q m hl hQ
      have hQ' : PeG me v (m + 1) k (if is x then act Q x else Q) := by
        split
        · exact ha Q m x (hl x (by simp)) hQ
        · exact hQ.le (by omega) (Nat.le_refl _)
      have := ih _ (m + 1) (fun y hy => hl y (by simp [hy])) hQ'
      exact this.le (by simp; omega) (Nat.le_refl _)
  have h1 := key P.waits P n h.wb h
  unfold Pe.served
  refine ⟨h1.lk.le (by have := h.wts; omega), h1.eme, h1.val, Nat.le_trans (List.length_filter_le _ _) h.wts, fun x hx => h.wb x (List.mem_filter.1 hx).1⟩
theorem PeG.mark (h : PeG me v n k P) (t : Int) : PeG me v n (k + 1) (P.mark t) := by
  unfold Pe.mark
  split
  · exact (h.tell _ _).le (Nat.le_refl _) (by omega)
  · split
    · exact h.wait (x := ⟨t, true, zV, zO⟩) (by show (0 : Int) ≤ 0; decide)
    · exact ⟨h.lk, h.eme, h.val, by have := h.wts; show P.waits.length ≤ _; omega, h.wb⟩
theorem Pe.mark_j {P : Pe} (t : Int) (h : P.joined = true) : (P.mark t).waits = P.waits ∧ (P.mark t).joined = true ∧ (P.mark t).rd.length = P.rd.length + 1 ∧ (P.mark t).value = P.value := by
  unfold Pe.mark
  split
  · exact ⟨rfl, h, by simp [Pe.plain, Pe.tell], rfl⟩
  · rw [if_neg (by rw [h]; decide)]
    exact ⟨rfl, h, by simp [Pe.tell], rfl⟩
theorem PeG.ask (h : PeG me v n k P) (t : Int) {a : Ask} (ha : 0 ≤ a.w.bits) : PeG me v (n + k + 4) (k + 1) (P.ask t a).1 := by
  unfold Pe.ask
  by_cases ho : a.ok
  case neg => rw [if_neg ho]; exact h.le (by omega) (by omega)
  rw [if_pos ho]
  have h0 : PeG me v n k ({ P with rd := [] } : Pe) := ⟨h.lk, h.eme, h.val, h.wts, h.wb⟩
  clear h
  simp only
  generalize ({ P with rd := [] } : Pe) = P0 at h0
  unfold Pe.ask1
  split
  · exact (h0.read _ ha).le (by omega) (by omega)
  split
  · exact (h0.get _).le (by omega) (by omega)
  split
  · have hl : LkG me (n + 1) (P0.lk.lock a.w a.o).1 := h0.lk.act ⟨5, a.w, zR, zR, a.o⟩ ha
    unfold Pe.lock
    split
    · exact (PeG.tell (P := P0.touch a.w) ⟨h0.lk.touch ha, h0.eme, h0.val, h0.wts, h0.wb⟩ _ _).le (by omega) (by omega)
    split
    · exact ((h0.withLk hl).read _ ha).le (by omega) (by omega)
    split
    · exact ((h0.withLk hl).tell _ _).le (by omega) (by omega)
    · exact ((h0.withLk hl).wait (x := ⟨t, false, a.w, a.o⟩) ha).le (by omega) (by omega)
  split
  · have hl : LkG me (n + 1) (P0.lk.free a.w a.o).1 := h0.lk.act ⟨6, a.w, zR, zR, a.o⟩ ha
    unfold Pe.free
    split
    · exact ((h0.withLk hl).tell _ _).le (by omega) (by omega)
    split
    · exact ((h0.withLk hl).tell _ _).le (by omega) (by omega)
    · exact (((h0.withLk hl).tell _ _).served fun Q n x hx hQ => hQ.read _ hx).le (by omega) (by omega)
  split
  · have hl : LkG me (n + 1) (P0.lk.right a.w a.ref a.o).1 := h0.lk.act ⟨4, a.w, a.ref, zR, a.o⟩ ha
    exact ((h0.withLk hl).tell _ _).le (by omega) (by omega)
  split
  · have hl : LkG me (n + 1) (P0.lk.left a.w a.ref).1 := h0.lk.act ⟨3, a.w, a.ref, zR, zO⟩ ha
    exact ((h0.withLk hl).tell _ _).le (by omega) (by omega)
  split
  · have hl : LkG me (n + 1) (P0.lk.put a.w a.ref a.ref2 a.o).1 := h0.lk.act ⟨1, a.w, a.ref, a.ref2, a.o⟩ ha
    exact ((h0.withLk hl).tell _ _).le (by omega) (by omega)
  split
  · have hl : LkG me (n + 1) (P0.lk.out a.w a.o).1 := h0.lk.act ⟨2, a.w, zR, zR, a.o⟩ ha
    unfold Pe.out
    split
    · exact (((h0.withLk hl).tell _ _).served fun Q n x hx hQ => (hQ.tell _ _).le (by omega) (Nat.le_refl _)).le (by omega) (by omega)
    · exact ((h0.withLk hl).tell _ _).le (by omega) (by omega)
  split
  · exact (h0.mark _).le (by omega) (by omega)
  · unfold Pe.join
    split
    · exact (h0.tell _ _).le (by omega) (by omega)
    · have hj : PeG me v n k ({ P0 with joined := true } : Pe) := ⟨h0.lk, h0.eme, h0.val, h0.wts, h0.wb⟩
      refine PeG.le (n := n + k) (k := k) ?_ (by omega) (by omega)
      have key : ∀ (l : List WaitE) (Q : Pe), Q.joined = true → PeG me v n k Q → PeG me v n k (l.foldl (fun P x => if x.mark then P.mark x.ticket else P) Q) := by
        intro l
        induction l with
        | nil => intro Q _ hQ; exact hQ
        | cons x l ih =>
          intro Q hQj hQ
          refine ih _ ?_ ?_
          · simp only
            split
            · exact (Pe.mark_j x.ticket hQj).2.1
            · exact hQj
          · simp only
            split
            · unfold Pe.mark
              split
              · exact hQ.tell _ _
              · rw [if_neg (by rw [hQj]; decide)]
                exact ⟨hQ.lk, hQ.eme, hQ.val, hQ.wts, hQ.wb⟩
            · exact hQ
      have h1 := key P0.waits (({ P0 with joined := true } : Pe).plain t 1) rfl (hj.tell _ _)
      exact ⟨h1.lk.le (by omega), h1.eme, h1.val, Nat.le_trans (List.length_filter_le _ _) h0.wts, fun x hx => h0.wb x (List.mem_filter.1 hx).1⟩
end
/-- Asked again and again; tickets in turn. -/
def Pe.asks (P : Pe) (xs : List Ask) (k : Nat) : Pe := (List.range k).foldl (fun (P : Pe) (i : Nat) => (P.ask (i : Int) (nth xs i)).1) P
theorem Pe.asks_succ (P : Pe) (xs : List Ask) (k : Nat) : P.asks xs (k + 1) = ((P.asks xs k).ask (k : Int) (nth xs k)).1 := by
  unfold Pe.asks; rw [List.range_succ, List.foldl_append]; rfl
theorem Pe.asks_G {me : Ref} {v : List UInt8} {P : Pe} (h : PeG me v 0 0 P) {xs : List Ask} (hx : ∀ x ∈ xs, 0 ≤ x.w.bits) : ∀ k, k ≤ xs.length → k ≤ 100 → PeG me v (k * 104) k (P.asks xs k)
  | 0, _, _ => by simpa [Pe.asks] using h
  | k + 1, hk, h1 => by
    rw [Pe.asks_succ]
    exact ((Pe.asks_G h hx k (by omega) (by omega)).ask _ (hx _ (by rw [nth_eq (by omega)]; exact List.getElem_mem _))).le (by omega) (Nat.le_refl _)
end Go.SL
