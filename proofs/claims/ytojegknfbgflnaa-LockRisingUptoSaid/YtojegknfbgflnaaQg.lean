/- The law LockStuck: what its function does. Conditions: none. -/
import Derived.Test.YtojegknfbgflnaaQf
import Derived.Test.YtojegknfbgflnaaLf
set_option linter.unusedSimpArgs false
set_option linter.unusedVariables false
set_option maxRecDepth 100000
set_option maxHeartbeats 4000000
namespace Go.Proofs.Ytojegknfbgflnaa
open Go Go.SL
attribute [local irreducible] pc rc SlT Me Mt It pt ro pur ex sep old Meets

theorem r7Same_nil (F : List Assn) : Meets Try.prog 21 [.slice none 0 0, .slice none 0 0] F (Det (.bool true) F) := by
  letI : HS F (.slice none ([] : List Owner).length 0) Owner ownerC 2 0 ([] : List Owner) :=
    ⟨fun h hs => Rd.of (m := true) (xs := ([] : List Owner)) (enc := ownerC) (sz := 2) (c := 0) (sv := .slice none 0 0) Has.here h (hs.nilS true (by decide))⟩
  have h := r7Same_fn (a1 := none) (a2 := none) (c1 := 0) (c2 := 0) (xs := []) (ys := []) (F := F)
  rw [decide_eq_true rfl] at h
  exact h
theorem LockStuck_few {a1 : Option Addr} {c1 : Nat} {xs : List Cl} {F : List Assn} [Hs : HS F (.slice a1 xs.length c1) Cl clC 4 c1 xs] (hS : xs.length ≤ 40) : Meets Try.prog 10 [.slice a1 xs.length c1] F (Det (.bool true) F) := by
  refine Meets.intro b10 k10 (by simp) ?_
  refine J.sl Hs (fun hC hL _ => ?_)
  by_cases hb : ∀ j, j < xs.length → okO (nth xs j).o
  · focus
      refine J.so ?_
      refine JT.c rfl ?_
      refine JT.done ?_
      refine J.seq ?_
      refine J.so ?_
      iterate 2 refine JT.c rfl ?_
      refine JT.y rfl (Ev.cgtF rfl rfl (by omega)) ?_
      refine JT.done ?_
      refine J.condF rfl ?_
      refine J.skip ?_
      refine seqQ_n ?_
      refine J.so ?_
      refine JT.c rfl ?_
      refine JT.callS rfl rfl (Up.of (Imp.refl _)) (lkStuck_ok (by first | assumption | omega | decide | exact rfl) (by first | assumption | omega | decide | exact rfl)) (fun ⟨a14, c14⟩ _ => ?_)
      iterate 5 refine JT.c rfl ?_
      refine JT.done ?_
      refine J.so ?_
      refine JT.c rfl ?_
      refine JT.callS rfl rfl (Up.of (Imp.refl _)) (r7Stuck_ok (by first | assumption | omega | decide | exact rfl) (by first | assumption | omega | decide | exact rfl)) (fun ⟨a19, c19⟩ _ => ?_)
      iterate 5 refine JT.c rfl ?_
      refine JT.done ?_
      refine J.so ?_
      iterate 2 refine JT.c rfl ?_
      refine JT.callD rfl rfl (Up.of (Imp.refl _)) r7Same_fn ?_
      refine JT.c rfl ?_
      refine JT.gp rfl (fun h1 => ?_) (fun h1 => ?_)
      refine JT.c rfl ?_
      refine JT.gT rfl (by first | assumption | omega) ?_
      refine JT.c rfl ?_
      refine JT.gT rfl (by first | assumption | omega) ?_
      refine JT.y rfl (Ev.ceqT rfl rfl (by decide)) ?_
      refine JT.y rfl (Ev.pickTp rfl (by first | assumption | omega) rfl) ?_
      refine JT.c rfl ?_
      refine JT.gk rfl ?_
      refine JT.callD rfl rfl (Up.of (Imp.refl _)) (l07alive_fn _) ?_
      refine JT.y rfl (Ev.pickT rfl rfl) ?_
      refine JT.c rfl ?_
      refine JT.done ?_
      refine J.ret ?_
      refine retQD (.t rfl .nil) rfl (Up.of (.dropT (.dropT (Imp.refl _))))
      contradiction
  · focus
      refine J.so ?_
      refine JT.c rfl ?_
      refine JT.done ?_
      refine J.seq ?_
      refine J.so ?_
      iterate 2 refine JT.c rfl ?_
      refine JT.y rfl (Ev.cgtF rfl rfl (by omega)) ?_
      refine JT.done ?_
      refine J.condF rfl ?_
      refine J.skip ?_
      refine seqQ_n ?_
      refine J.so ?_
      refine JT.c rfl ?_
      refine JT.callD rfl rfl (Up.of (Imp.refl _)) (lkStuck_no (by first | assumption | omega | decide | exact rfl) (by first | assumption | omega | decide | exact rfl)) ?_
      iterate 5 refine JT.c rfl ?_
      refine JT.done ?_
      refine J.so ?_
      refine JT.c rfl ?_
      refine JT.callD rfl rfl (Up.of (Imp.refl _)) (r7Stuck_no (by first | assumption | omega | decide | exact rfl) (by first | assumption | omega | decide | exact rfl)) ?_
      iterate 5 refine JT.c rfl ?_
      refine JT.done ?_
      refine J.so ?_
      iterate 2 refine JT.c rfl ?_
      refine JT.callD rfl rfl (Up.of (Imp.refl _)) (r7Same_nil _) ?_
      refine JT.c rfl ?_
      refine JT.gk rfl ?_
      refine JT.c rfl ?_
      refine JT.gk rfl ?_
      refine JT.c rfl ?_
      refine JT.gk rfl ?_
      refine JT.y rfl (Ev.ceqT rfl rfl (by decide)) ?_
      refine JT.y rfl (Ev.pickT rfl rfl) ?_
      refine JT.c rfl ?_
      refine JT.gk rfl ?_
      refine JT.callD rfl rfl (Up.of (Imp.refl _)) (l07alive_fn _) ?_
      refine JT.y rfl (Ev.pickT rfl rfl) ?_
      refine JT.c rfl ?_
      refine JT.done ?_
      refine J.ret ?_
      refine retQD (.t rfl .nil) rfl (Up.of (Imp.refl _))

theorem LockStuck_fn {a1 : Option Addr} {c1 : Nat} {xs : List Cl} {F : List Assn} [Hs : HS F (.slice a1 xs.length c1) Cl clC 4 c1 xs] : Meets Try.prog 10 [.slice a1 xs.length c1] F (Det (.bool true) F) := by
  by_cases hS : xs.length ≤ 40
  · exact LockStuck_few hS
  refine Meets.intro b10 k10 (by simp) ?_
  refine J.sl Hs (fun hC hL _ => ?_)
  have hS' : (List.drop 0 (List.take 40 xs)).length ≤ 4096 := by simp; omega
  by_cases hb : ∀ j, j < (List.drop 0 (List.take 40 xs)).length → okO (nth (List.drop 0 (List.take 40 xs)) j).o
  · focus
      refine J.so ?_
      refine JT.c rfl ?_
      refine JT.done ?_
      refine J.seq ?_
      refine J.so ?_
      iterate 2 refine JT.c rfl ?_
      refine JT.y rfl (Ev.cgtT rfl rfl (by omega)) ?_
      refine JT.done ?_
      refine J.condT rfl ?_
      refine J.ops ?_
      refine JT.c rfl ?_
      refine JT.V rfl (by first | exact Bd.no | exact Bd.c rfl | exact Bd.si rfl (by omega)) (by first | exact Bd.no | exact Bd.c rfl | exact Bd.si rfl (by omega)) (by first | exact Bd.no | exact Bd.c rfl | exact Bd.si rfl (by omega)) (by decide) (by (try simp only [List.length_nil, List.length_cons, List.length_append, List.length_take, List.length_drop, List.length_set]); omega) (by (try simp only [List.length_nil, List.length_cons, List.length_append, List.length_take, List.length_drop, List.length_set]); omega) (by (try simp only [List.length_nil, List.length_cons, List.length_append, List.length_take, List.length_drop, List.length_set]); omega) (by (try simp only [List.length_nil, List.length_cons, List.length_append, List.length_take, List.length_drop, List.length_set]); omega) (fun a11 => ?_)
      refine JT.c rfl ?_
      refine JT.done ?_
      refine seqQ_n ?_
      refine J.so ?_
      refine JT.c rfl ?_
      refine JT.callS rfl rfl (Up.of (Imp.refl _)) (lkStuck_ok (by first | assumption | omega | decide | exact rfl) (by first | assumption | omega | decide | exact rfl)) (fun ⟨a14, c14⟩ _ => ?_)
      iterate 5 refine JT.c rfl ?_
      refine JT.done ?_
      refine J.so ?_
      refine JT.c rfl ?_
      refine JT.callS rfl rfl (Up.of (Imp.refl _)) (r7Stuck_ok (by first | assumption | omega | decide | exact rfl) (by first | assumption | omega | decide | exact rfl)) (fun ⟨a19, c19⟩ _ => ?_)
      iterate 5 refine JT.c rfl ?_
      refine JT.done ?_
      refine J.so ?_
      iterate 2 refine JT.c rfl ?_
      refine JT.callD rfl rfl (Up.of (Imp.refl _)) r7Same_fn ?_
      refine JT.c rfl ?_
      refine JT.gp rfl (fun h1 => ?_) (fun h1 => ?_)
      refine JT.c rfl ?_
      refine JT.gT rfl (by first | assumption | omega) ?_
      refine JT.c rfl ?_
      refine JT.gT rfl (by first | assumption | omega) ?_
      refine JT.y rfl (Ev.ceqT rfl rfl (by decide)) ?_
      refine JT.y rfl (Ev.pickTp rfl (by first | assumption | omega) rfl) ?_
      refine JT.c rfl ?_
      refine JT.gk rfl ?_
      refine JT.callD rfl rfl (Up.of (Imp.refl _)) (l07alive_fn _) ?_
      refine JT.y rfl (Ev.pickT rfl rfl) ?_
      refine JT.c rfl ?_
      refine JT.done ?_
      refine J.ret ?_
      refine retQD (.t rfl .nil) rfl (Up.of (.dropT (.dropT (.dropT (Imp.refl _)))))
      contradiction
  · focus
      refine J.so ?_
      refine JT.c rfl ?_
      refine JT.done ?_
      refine J.seq ?_
      refine J.so ?_
      iterate 2 refine JT.c rfl ?_
      refine JT.y rfl (Ev.cgtT rfl rfl (by omega)) ?_
      refine JT.done ?_
      refine J.condT rfl ?_
      refine J.ops ?_
      refine JT.c rfl ?_
      refine JT.V rfl (by first | exact Bd.no | exact Bd.c rfl | exact Bd.si rfl (by omega)) (by first | exact Bd.no | exact Bd.c rfl | exact Bd.si rfl (by omega)) (by first | exact Bd.no | exact Bd.c rfl | exact Bd.si rfl (by omega)) (by decide) (by (try simp only [List.length_nil, List.length_cons, List.length_append, List.length_take, List.length_drop, List.length_set]); omega) (by (try simp only [List.length_nil, List.length_cons, List.length_append, List.length_take, List.length_drop, List.length_set]); omega) (by (try simp only [List.length_nil, List.length_cons, List.length_append, List.length_take, List.length_drop, List.length_set]); omega) (by (try simp only [List.length_nil, List.length_cons, List.length_append, List.length_take, List.length_drop, List.length_set]); omega) (fun a11 => ?_)
      refine JT.c rfl ?_
      refine JT.done ?_
      refine seqQ_n ?_
      refine J.so ?_
      refine JT.c rfl ?_
      refine JT.callD rfl rfl (Up.of (Imp.refl _)) (lkStuck_no (by first | assumption | omega | decide | exact rfl) (by first | assumption | omega | decide | exact rfl)) ?_
      iterate 5 refine JT.c rfl ?_
      refine JT.done ?_
      refine J.so ?_
      refine JT.c rfl ?_
      refine JT.callD rfl rfl (Up.of (Imp.refl _)) (r7Stuck_no (by first | assumption | omega | decide | exact rfl) (by first | assumption | omega | decide | exact rfl)) ?_
      iterate 5 refine JT.c rfl ?_
      refine JT.done ?_
      refine J.so ?_
      iterate 2 refine JT.c rfl ?_
      refine JT.callD rfl rfl (Up.of (Imp.refl _)) (r7Same_nil _) ?_
      refine JT.c rfl ?_
      refine JT.gk rfl ?_
      refine JT.c rfl ?_
      refine JT.gk rfl ?_
      refine JT.c rfl ?_
      refine JT.gk rfl ?_
      refine JT.y rfl (Ev.ceqT rfl rfl (by decide)) ?_
      refine JT.y rfl (Ev.pickT rfl rfl) ?_
      refine JT.c rfl ?_
      refine JT.gk rfl ?_
      refine JT.callD rfl rfl (Up.of (Imp.refl _)) (l07alive_fn _) ?_
      refine JT.y rfl (Ev.pickT rfl rfl) ?_
      refine JT.c rfl ?_
      refine JT.done ?_
      refine J.ret ?_
      refine retQD (.t rfl .nil) rfl (Up.of (.dropT (Imp.refl _)))
end Go.Proofs.Ytojegknfbgflnaa
