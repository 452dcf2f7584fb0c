/- Layer 11: which members make a graph: the functions. Conditions: none. -/
import Derived.Test.YtgcmglieciaifaaGa
import Derived.Test.YtgcmglieciaifaaKb
import Derived.Test.YtgcmglieciaifaaBg
import Derived.Test.YtgcmglieciaifaaSlV
set_option linter.unusedSimpArgs false
set_option linter.unusedVariables false
set_option maxRecDepth 100000
set_option maxHeartbeats 4000000
namespace Go.SL
open Go
def bv (b : Bool) : Value := .bool b
/-- As far as it was looked: a graph. -/
structure gPre (h : Int) (l : List Ref) : Prop where
  mem : ∀ r ∈ l, gMem h r
  ids : (l.map (·.id)).Nodup
  keys : (l.map (·.key)).Nodup
theorem gPre.nil (h : Int) : gPre h [] := ⟨by simp, by simp, by simp⟩
theorem gPre.snoc {h : Int} {l : List Ref} (g : gPre h l) {x : Ref} (h1 : gMem h x) (h2 : x.id ∉ l.map (·.id)) (h3 : x.key ∉ l.map (·.key)) : gPre h (l ++ [x]) := by
  refine ⟨fun r hr => ?_, ?_, ?_⟩
  · rcases List.mem_append.1 hr with hr | hr
    · exact g.mem r hr
    · rw [List.mem_singleton.1 hr]; exact h1
  · rw [List.map_append, List.nodup_append]
    exact ⟨g.ids, by simp, fun a ha b hb e => by simp only [List.map_cons, List.map_nil, List.mem_singleton] at hb; subst hb; subst e; exact h2 ha⟩
  · rw [List.map_append, List.nodup_append]
    exact ⟨g.keys, by simp, fun a ha b hb e => by simp only [List.map_cons, List.map_nil, List.mem_singleton] at hb; subst hb; subst e; exact h3 ha⟩
theorem grOk.pre {h : Int} {l : List Ref} (g : grOk h l) (k : Nat) : gPre h (l.take k) :=
  ⟨fun r hr => g.mem r (List.mem_of_mem_take hr), g.ids.sublist (List.Sublist.map _ (List.take_sublist _ _)), g.keys.sublist (List.Sublist.map _ (List.take_sublist _ _))⟩
theorem grOk.next {h : Int} {l : List Ref} (g : grOk h l) {k : Nat} (hk : k < l.length) : gMem h (nth l k) ∧ (nth l k).id ∉ (l.take k).map (·.id) ∧ (nth l k).key ∉ (l.take k).map (·.key) := by
  refine ⟨g.mem _ (by rw [nth_eq hk]; exact List.getElem_mem hk), fun hm => ?_, fun hm => ?_⟩
  · have := (g.pre (k + 1)).ids
    rw [List.take_succ_eq_append_getElem hk, List.map_append, List.nodup_append] at this
    exact this.2.2 _ hm _ (by rw [nth_eq hk]; simp) rfl
  · have := (g.pre (k + 1)).keys
    rw [List.take_succ_eq_append_getElem hk, List.map_append, List.nodup_append] at this
    exact this.2.2 _ hm _ (by rw [nth_eq hk]; simp) rfl
/-- The marks of what came. -/
def tset {κ : Type} (ks : List κ) : List (κ × Bool) := ks.map fun k => (k, true)
theorem alk_tset {κ : Type} [DecidableEq κ] {ks : List κ} {k : κ} : alk (tset ks) k = if k ∈ ks then some true else none := by
  unfold alk tset
  induction ks with
  | nil => simp
  | cons x ks ih =>
    simp only [List.map_cons, List.find?_cons]
    by_cases h : k = x
    · subst h; simp
    · simp only [h, decide_false, List.mem_cons, false_or]; exact ih
theorem aput_tset {κ : Type} [DecidableEq κ] {ks : List κ} {k : κ} (h : k ∉ ks) : aput (tset ks) k true = tset (ks ++ [k]) := by
  have : aix (tset ks) k = none := by
    unfold aix tset
    rw [List.findIdx?_eq_none_iff]
    intro x hx
    simp only [List.map_map, Function.comp_def, List.map_id'] at hx
    simp only [decide_eq_false_iff_not]
    rintro rfl; exact h hx
  unfold aput; rw [this]; unfold tset; simp
end Go.SL
namespace Go.Proofs.Ytgcmglieciaifaa
open Go Go.SL
attribute [local irreducible] pc rc SlT Me Mt It pt ro pur ex sep old Meets
instance : KO Try.prog 30 vv := ⟨KeyOk.flat (by kernel_rfl) (by kernel_rfl)⟩
instance : KO Try.prog 25 kv := ⟨KeyOk.flat (by kernel_rfl) (by kernel_rfl)⟩
instance : KO Try.prog 3 i64 := ⟨KeyOk.int (k' := .i64) .i64 (by kernel_rfl)⟩
theorem gCheck_fn (h : Int) {a1 : Option Addr} {c1 : Nat} {xs : List SL.Ref} {F : List Assn} [Hs : HS F (.slice a1 xs.length c1) SL.Ref refC 5 c1 xs] : Meets Try.prog 25 [i64 h, .slice a1 xs.length c1] F (Det (i64 (gE h xs)) F) := by
  refine Meets.intro b25 k25 (by simp) ?_
  unfold gE
  refine J.sl Hs (fun hC hL _ => ?_)
  focus
   refine zs <| zc rfl <| zj rfl rfl rfl <| zh rfl rfl (fun h1 => .int rfl rfl rfl) <| zy (.pickO rfl rfl rfl) <| zh rfl rfl (fun h1 => .calc rfl) <| zh rfl rfl (fun h1 => by rw [h1]; exact .int rfl rfl rfl) <| zy (.pickO rfl rfl rfl) <| zd <| zq <| zi rfl (fun h1 => ?_) (fun h1 => ?_)
   refine zs <| zc rfl <| zd <| zr <| yR (.t rfl .nil) ?_ (.of .rf)
   rotate_left
   refine zk <| zs ?_
   rotate_left
  · rw [if_neg (fun g : grOk h xs => by have := g.h0; have := g.h32; have := g.len; omega)]; rfl
  refine JT.mkm i64 bv (fun b21 => ?_)
  focus
  refine JT.mkm kv bv (fun b22 => ?_)
  focus
   refine zc rfl <| zc rfl <| zc rfl <| zc rfl <| zc rfl <| zd <| zq <| zb ?_
  refine J.lp (ι := Nat) (fun k => k ≤ xs.length ∧ gPre h (xs.take k)) (fun k => [(25, i64 (k : Int))]) (fun k => Mt b22 kv bv (tset ((xs.take k).map (·.key))) :: Mt b21 i64 bv (tset ((xs.take k).map (·.id))) :: F) (fun k => xs.length - k) 0 ⟨by omega, by simpa using gPre.nil h⟩ (by exact subxR rfl) (.of (.t0 (.t0 .rf))) (fun k hk => ?_)
  obtain ⟨hk, hp⟩ := hk
  by_cases hlt : k < xs.length
  · have hT := List.take_succ_eq_append_getElem hlt
    rw [← nth_eq hlt] at hT
    have hnext := fun g : grOk h xs => g.next hlt
    have ea := alk_tset (ks := (xs.take k).map (·.id)) (k := (nth xs k).id)
    have eb := alk_tset (ks := (xs.take k).map (·.key)) (k := (nth xs k).key)
    by_cases hm : gMem h (nth xs k)
    · obtain ⟨m1, m2, m3, m4, m5⟩ := id hm
      by_cases hid : (nth xs k).id ∈ (xs.take k).map (·.id)
      · rw [if_pos hid] at ea
        focus
         refine zs <| zy (.cltT rfl rfl (by omega)) <| zd <| zq <| zt rfl <| zk <| zq <| zb <| zs <| zy (.iC rfl rfl (by omega)) <| zy (.LE rfl (by omega)) <| yN fun b8 => ?_
         refine yW rfl rfl rfl rfl rfl <| zfl rfl rfl rfl <| zy (.cgeT rfl rfl (by omega)) <| yG rfl <| zf 0 rfl rfl <| yG rfl <| zl rfl rfl <| yG rfl <| zy (.cltT rfl rfl (by omega)) <| zy (.pickT rfl rfl) <| yG rfl <| zf 1 rfl rfl ?_
         refine yG rfl <| zf 1 rfl rfl <| yG rfl <| zl rfl rfl <| yG rfl <| zy (.ceqT rfl rfl (by omega)) <| zy (.pickT rfl rfl) <| yG rfl <| zf 3 rfl rfl <| yG rfl <| zy (.Lf rfl (Nat.le_of_ble_eq_true rfl)) <| yG rfl ?_
         refine yD rfl rfl (.of .rf) (vRight_fn _ _) <| yG rfl <| zj rfl rfl rfl <| zy (.pickT rfl rfl) <| yT rfl (by assumption) <| zf 3 rfl rfl <| yT rfl (by assumption) <| zf 3 rfl rfl <| yT rfl (by assumption) <| zl rfl rfl <| yT rfl (by assumption) <| zy (.ceqT rfl rfl (by omega)) ?_
         refine zy (.pickTp rfl (by assumption) rfl) <| zc rfl <| yG rfl <| zf 0 rfl rfl <| yG rfl <| zl rfl rfl <| yG rfl <| JT.lk1s rfl (by rfl) (by assumption) ?_
         refine zy (.pickF rfl rfl) <| zv rfl rfl <| zv rfl rfl <| zv rfl rfl <| zy (.pickT rfl rfl) <| zd <| zq <| zt rfl <| zs <| zc rfl <| zd <| zr ?_
         refine yR (.t rfl .nil) ?_ (.of (.d (.d (.d .rf))))
        rw [if_neg (fun g => (hnext g).2.1 hid)]; rfl
      · rw [if_neg hid] at ea
        by_cases hkey : (nth xs k).key ∈ (xs.take k).map (·.key)
        · rw [if_pos hkey] at eb
          focus
           refine zs <| zy (.cltT rfl rfl (by omega)) <| zd <| zq <| zt rfl <| zk <| zq <| zb <| zs <| zy (.iC rfl rfl (by omega)) <| zy (.LE rfl (by omega)) <| yN fun b8 => ?_
           refine yW rfl rfl rfl rfl rfl <| zfl rfl rfl rfl <| zy (.cgeT rfl rfl (by omega)) <| yG rfl <| zf 0 rfl rfl <| yG rfl <| zl rfl rfl <| yG rfl <| zy (.cltT rfl rfl (by omega)) <| zy (.pickT rfl rfl) <| yG rfl <| zf 1 rfl rfl ?_
           refine yG rfl <| zf 1 rfl rfl <| yG rfl <| zl rfl rfl <| yG rfl <| zy (.ceqT rfl rfl (by omega)) <| zy (.pickT rfl rfl) <| yG rfl <| zf 3 rfl rfl <| yG rfl <| zy (.Lf rfl (Nat.le_of_ble_eq_true rfl)) <| yG rfl ?_
           refine yD rfl rfl (.of .rf) (vRight_fn _ _) <| yG rfl <| zj rfl rfl rfl <| zy (.pickT rfl rfl) <| yT rfl (by assumption) <| zf 3 rfl rfl <| yT rfl (by assumption) <| zf 3 rfl rfl <| yT rfl (by assumption) <| zl rfl rfl <| yT rfl (by assumption) <| zy (.ceqT rfl rfl (by omega)) ?_
           refine zy (.pickTp rfl (by assumption) rfl) <| zc rfl <| yG rfl <| zf 0 rfl rfl <| yG rfl <| zl rfl rfl <| yG rfl <| JT.lk1n rfl (by rfl) (by assumption) ?_
           refine zy (.pickF rfl rfl) <| yG rfl <| zf 1 rfl rfl <| yG rfl <| zy (.Lf rfl (Nat.le_of_ble_eq_true rfl)) <| yG rfl <| JT.lk1s rfl (by rfl) (by assumption) ?_
           refine zy (.pickF rfl rfl) <| zd <| zq <| zt rfl <| zs <| zc rfl <| zd <| zr <| yR (.t rfl .nil) ?_ (.of (.d (.d (.d .rf))))
          rw [if_neg (fun g => (hnext g).2.2 hkey)]; rfl
        · rw [if_neg hkey] at eb
          have e1 : (xs.take (k + 1)).map (·.id) = (xs.take k).map (·.id) ++ [(nth xs k).id] := by rw [hT]; simp
          have e2 : (xs.take (k + 1)).map (·.key) = (xs.take k).map (·.key) ++ [(nth xs k).key] := by rw [hT]; simp
          focus
           refine zs <| zy (.cltT rfl rfl (by omega)) <| zd <| zq <| zt rfl <| zk <| zq <| zb <| zs <| zy (.iC rfl rfl (by omega)) <| zy (.LE rfl (by omega)) <| yN fun b8 => ?_
           refine yW rfl rfl rfl rfl rfl <| zfl rfl rfl rfl <| zy (.cgeT rfl rfl (by omega)) <| yG rfl <| zf 0 rfl rfl <| yG rfl <| zl rfl rfl <| yG rfl <| zy (.cltT rfl rfl (by omega)) <| zy (.pickT rfl rfl) <| yG rfl <| zf 1 rfl rfl ?_
           refine yG rfl <| zf 1 rfl rfl <| yG rfl <| zl rfl rfl <| yG rfl <| zy (.ceqT rfl rfl (by omega)) <| zy (.pickT rfl rfl) <| yG rfl <| zf 3 rfl rfl <| yG rfl <| zy (.Lf rfl (Nat.le_of_ble_eq_true rfl)) <| yG rfl ?_
           refine yD rfl rfl (.of .rf) (vRight_fn _ _) <| yG rfl <| zj rfl rfl rfl <| zy (.pickT rfl rfl) <| yT rfl (by assumption) <| zf 3 rfl rfl <| yT rfl (by assumption) <| zf 3 rfl rfl <| yT rfl (by assumption) <| zl rfl rfl <| yT rfl (by assumption) <| zy (.ceqT rfl rfl (by omega)) ?_
           refine zy (.pickTp rfl (by assumption) rfl) <| zc rfl <| yG rfl <| zf 0 rfl rfl <| yG rfl <| zl rfl rfl <| yG rfl <| JT.lk1n rfl (by rfl) (by assumption) ?_
           refine zy (.pickF rfl rfl) <| yG rfl <| zf 1 rfl rfl <| yG rfl <| zy (.Lf rfl (Nat.le_of_ble_eq_true rfl)) <| yG rfl <| JT.lk1n rfl (by rfl) (by assumption) ?_
           refine zy (.pickF rfl rfl) <| zd <| zq <| zu rfl <| zk <| zo <| zfl rfl rfl rfl <| zf 1 rfl rfl <| zy (.Lf rfl (Nat.le_of_ble_eq_true rfl)) <| JT.mu rfl (by rfl) (by rfl) ?_
           refine JT.yA rfl (Ev.Lf rfl (Nat.le_of_ble_eq_true rfl)) <| JT.mu rfl (by rfl) (by rfl) ?_
           refine zd <| zo <| zy (.addN rfl rfl (by omega)) <| zd <| seqQ_n ?_
          rw [aput_tset hid, aput_tset hkey, ← e1, ← e2]
          exact ⟨k + 1, ⟨by omega, by rw [hT]; exact hp.snoc hm hid hkey⟩, by omega, by exact subxR rfl, by exact (.of (.t0 (.t0 (.d .rf))))⟩
    · focus
       refine zs <| zy (.cltT rfl rfl (by omega)) <| zd <| zq <| zt rfl <| zk <| zq <| zb <| zs <| zy (.iC rfl rfl (by omega)) <| zy (.LE rfl (by omega)) <| yN fun b8 => ?_
       refine yW rfl rfl rfl rfl rfl <| zfl rfl rfl rfl <| zj rfl rfl rfl <| zp rfl (fun h2 => ?_) (fun h2 => ?_)
       refine zf 0 rfl rfl <| yT rfl (by assumption) <| zl rfl rfl <| yT rfl (by assumption) <| zj rfl rfl rfl <| zy (.pickTp rfl (by assumption) rfl) <| zp rfl (fun h3 => ?_) (fun h3 => ?_)
       refine zf 1 rfl rfl <| yT rfl (by assumption) <| zf 1 rfl rfl <| yT rfl (by assumption) <| zl rfl rfl <| yT rfl (by assumption) <| zj rfl rfl rfl <| zy (.pickTp rfl (by assumption) rfl) <| zp rfl (fun h4 => ?_) (fun h4 => ?_)
       refine zf 3 rfl rfl <| yT rfl (by assumption) <| zy (.Lf rfl (Nat.le_of_ble_eq_true rfl)) <| yT rfl (by assumption) <| yD rfl rfl (.of .rf) (vRight_fn _ _) <| yT rfl (by assumption) <| zj rfl rfl rfl <| zy (.pickTp rfl (by assumption) rfl) <| zp rfl (fun h5 => ?_) (fun h5 => ?_)
       refine zf 3 rfl rfl <| yT rfl (by assumption) <| zf 3 rfl rfl <| yT rfl (by assumption) <| zl rfl rfl <| yT rfl (by assumption) <| zj rfl rfl rfl <| zy (.pickTp rfl (by assumption) rfl) <| zc rfl <| zn rfl (fun h6 => ?_) (fun h6 => ?_)
       refine zf 0 rfl rfl <| yF rfl (by assumption) <| zl rfl rfl <| yF rfl (by assumption) <| JT.lk1 rfl (by rfl) (fun v62 h7 => ?_) (fun h7 => ?_)
       refine zy (.pickFp rfl (by assumption) rfl) <| zn rfl (fun h8 => ?_) (fun h8 => ?_)
       refine zf 1 rfl rfl <| yF rfl (by assumption) <| zy (.Lf rfl (Nat.le_of_ble_eq_true rfl)) <| yF rfl (by assumption) <| JT.lk1 rfl (by rfl) (fun v68 h9 => ?_) (fun h9 => ?_)
       refine zy (.pickFp rfl (by assumption) rfl) <| zd <| zq <| zi rfl (fun h10 => ?_) (fun h10 => ?_)
       refine zs <| zc rfl <| zd <| zr <| yR (.t rfl .nil) ?_ (.of (.d (.d (.d .rf))))
       rotate_left
       refine zk <| zo <| zfl rfl rfl rfl <| zf 1 rfl rfl <| zy (.Lf rfl (Nat.le_of_ble_eq_true rfl)) <| JT.mu rfl (by rfl) (by rfl) ?_
       refine JT.yA rfl (Ev.Lf rfl (Nat.le_of_ble_eq_true rfl)) <| JT.mu rfl (by rfl) (by rfl) ?_
       refine zd <| zo <| zy (.addN rfl rfl (by omega)) <| zd <| seqQ_n ?_
       rotate_left
       refine zy (.pickFp rfl (by assumption) rfl) <| zd <| zq <| zu rfl <| zk <| zo <| zfl rfl rfl rfl <| zf 1 rfl rfl <| zy (.Lf rfl (Nat.le_of_ble_eq_true rfl)) <| JT.mu rfl (by rfl) (by rfl) ?_
       refine JT.yA rfl (Ev.Lf rfl (Nat.le_of_ble_eq_true rfl)) <| JT.mu rfl (by rfl) (by rfl) ?_
       refine zd <| zo <| zy (.addN rfl rfl (by omega)) <| zd <| seqQ_n ?_
       rotate_left
       refine yFs rfl (by assumption) <| yFs rfl (by assumption) <| zy (.pickTp rfl (by assumption) rfl) <| zd <| zq <| zt rfl <| zs <| zc rfl <| zd <| zr <| yR (.t rfl .nil) ?_ (.of (.d (.d (.d .rf))))
       rotate_left
       refine zy (.pickFp rfl (by assumption) rfl) <| yG rfl <| zf 1 rfl rfl <| yG rfl <| zy (.Lf rfl (Nat.le_of_ble_eq_true rfl)) <| yG rfl <| JT.lk1 rfl (by rfl) (fun v68 h8 => ?_) (fun h8 => ?_)
       refine zy (.pickF rfl rfl) <| zd <| zq <| zi rfl (fun h9 => ?_) (fun h9 => ?_)
       refine zs <| zc rfl <| zd <| zr <| yR (.t rfl .nil) ?_ (.of (.d (.d (.d .rf))))
       rotate_left
       refine zk <| zo <| zfl rfl rfl rfl <| zf 1 rfl rfl <| zy (.Lf rfl (Nat.le_of_ble_eq_true rfl)) <| JT.mu rfl (by rfl) (by rfl) ?_
       refine JT.yA rfl (Ev.Lf rfl (Nat.le_of_ble_eq_true rfl)) <| JT.mu rfl (by rfl) (by rfl) ?_
       refine zd <| zo <| zy (.addN rfl rfl (by omega)) <| zd <| seqQ_n ?_
       rotate_left
       refine zy (.pickF rfl rfl) <| zd <| zq <| zu rfl <| zk <| zo <| zfl rfl rfl rfl <| zf 1 rfl rfl <| zy (.Lf rfl (Nat.le_of_ble_eq_true rfl)) <| JT.mu rfl (by rfl) (by rfl) ?_
       refine JT.yA rfl (Ev.Lf rfl (Nat.le_of_ble_eq_true rfl)) <| JT.mu rfl (by rfl) (by rfl) ?_
       refine zd <| zo <| zy (.addN rfl rfl (by omega)) <| zd <| seqQ_n ?_
       rotate_left
       refine yFs rfl (by assumption) <| yFs rfl (by assumption) <| zy (.pickTp rfl (by assumption) rfl) <| zv rfl rfl <| zv rfl rfl <| zv rfl rfl <| zy (.pickT rfl rfl) <| zd <| zq <| zt rfl <| zs <| zc rfl ?_
       refine zd <| zr <| yR (.t rfl .nil) ?_ (.of (.d (.d (.d .rf))))
       rotate_left
       refine yTs rfl (by assumption) <| yTs rfl (by assumption) <| yTs rfl (by assumption) <| zy (.pickFp rfl (by assumption) rfl) <| zc rfl <| zv rfl rfl <| zv rfl rfl <| zv rfl rfl <| zy (.pickT rfl rfl) <| zv rfl rfl <| zv rfl rfl <| zv rfl rfl ?_
       refine zy (.pickT rfl rfl) <| zd <| zq <| zt rfl <| zs <| zc rfl <| zd <| zr <| yR (.t rfl .nil) ?_ (.of (.d (.d (.d .rf))))
       rotate_left
       refine yTs rfl (by assumption) <| yTs rfl (by assumption) <| yTs rfl (by assumption) <| zy (.pickFp rfl (by assumption) rfl) <| zv rfl rfl <| zv rfl rfl <| zv rfl rfl <| zv rfl rfl <| zy (.pickF rfl rfl) <| zc rfl <| zv rfl rfl <| zv rfl rfl ?_
       refine zv rfl rfl <| zy (.pickT rfl rfl) <| zv rfl rfl <| zv rfl rfl <| zv rfl rfl <| zy (.pickT rfl rfl) <| zd <| zq <| zt rfl <| zs <| zc rfl <| zd ?_
       refine zr <| yR (.t rfl .nil) ?_ (.of (.d (.d (.d .rf))))
       rotate_left
       refine yTs rfl (by assumption) <| yTs rfl (by assumption) <| yTs rfl (by assumption) <| zy (.pickFp rfl (by assumption) rfl) <| zv rfl rfl <| zv rfl rfl <| zv rfl rfl <| zv rfl rfl <| zy (.pickF rfl rfl) <| zv rfl rfl <| zv rfl rfl <| zv rfl rfl ?_
       refine zv rfl rfl <| zy (.pickF rfl rfl) <| zc rfl <| zv rfl rfl <| zv rfl rfl <| zv rfl rfl <| zy (.pickT rfl rfl) <| zv rfl rfl <| zv rfl rfl <| zv rfl rfl <| zy (.pickT rfl rfl) <| zd ?_
       refine zq <| zt rfl <| zs <| zc rfl <| zd <| zr <| yR (.t rfl .nil) ?_ (.of (.d (.d (.d .rf))))
       rotate_left
       refine yTs rfl (by assumption) <| yTs rfl (by assumption) <| zy (.pickFp rfl (by assumption) rfl) <| zv rfl rfl <| zv rfl rfl <| zv rfl rfl <| zv rfl rfl <| zy (.pickF rfl rfl) <| zv rfl rfl <| zv rfl rfl <| zv rfl rfl <| zv rfl rfl ?_
       refine zy (.pickF rfl rfl) <| zv rfl rfl <| zv rfl rfl <| zv rfl rfl <| zv rfl rfl <| zy (.pickF rfl rfl) <| zc rfl <| zv rfl rfl <| zv rfl rfl <| zv rfl rfl <| zy (.pickT rfl rfl) <| zv rfl rfl ?_
       refine zv rfl rfl <| zv rfl rfl <| zy (.pickT rfl rfl) <| zd <| zq <| zt rfl <| zs <| zc rfl <| zd <| zr <| yR (.t rfl .nil) ?_ (.of (.d (.d (.d .rf))))
       rotate_left
      all_goals first
        | exact absurd ⟨by assumption, by assumption, by assumption, by assumption, by assumption⟩ hm
        | (rw [if_neg (fun g => hm (hnext g).1)]; rfl)
  · focus
     refine zs <| zy (.cltF rfl rfl (by omega)) <| zd <| zq <| zu rfl <| zx <| zs <| zc rfl <| zd <| zr <| yR (.t rfl .nil) ?_ (.of (.d (.d .rf)))
    rw [List.take_of_length_le (by omega)] at hp
    rw [if_pos (show grOk h xs from ⟨by omega, by omega, by omega, hp.mem, hp.ids, hp.keys⟩)]; rfl
end Go.Proofs.Ytgcmglieciaifaa
