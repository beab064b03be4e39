/-
  The contract of the statements' own awake of layer 10.
-/
import Derived.Test.YtkgbifagledcaaaT1
import Derived.Test.YtkgbifagledcaaaT3
import Derived.Test.YtkgbifagledcaaaPT
namespace Go.Proofs.Ytkgbifagledcaaa.FL
open Go Go.RowKit
set_option linter.unusedVariables false
set_option linter.unusedSimpArgs false
set_option maxRecDepth 20000
set_option maxHeartbeats 4000000
attribute [local go_sem ↓] Go.wp_at_zero Go.wp_at_succ
attribute [local go_sem] fieldSlot0 fieldSlot1 fieldSlot2 fieldSlot3 fieldChunk0 fieldChunk1 fieldChunk3 fieldCell0

theorem fieldDone0 (a b c d : Value) (w : World) : (Instr.field 36 (.agg #[a, b, c, d]) 0).run Try.prog w = .ok a w := by kernel_rfl
theorem fieldDone1 (a b c d : Value) (w : World) : (Instr.field 36 (.agg #[a, b, c, d]) 1).run Try.prog w = .ok b w := by kernel_rfl
theorem fieldDone2 (a b c d : Value) (w : World) : (Instr.field 36 (.agg #[a, b, c, d]) 2).run Try.prog w = .ok c w := by kernel_rfl
theorem fieldDone3 (a b c d : Value) (w : World) : (Instr.field 36 (.agg #[a, b, c, d]) 3).run Try.prog w = .ok d w := by kernel_rfl
attribute [local go_sem] fieldDone0 fieldDone1 fieldDone2 fieldDone3

theorem awake10_facts {D A B : Done × Mem} (hD : make (arenaEnv 1 4 2 20) (arenaCfg 1 4 2 20).fresh 2 false = D) (hA : doIt (arenaEnv 1 4 2 20) D.2 ⟨2, D.1.handle, 1, 5, 0⟩ false = A) (hB : doIt (arenaEnv 1 4 2 20) A.2 ⟨1, D.1.handle, 1, 0, 0⟩ false = B) :
    A.1.e = 0 ∧ B.1.e = 0 ∧ B.1.value = 5 ∧ A.1.stamp < B.1.stamp := by
  have h := awake10_true
  unfold awake10 at h
  simp only [show (arenaEnv 1 4 2 20).c = arenaCfg 1 4 2 20 from rfl, hD, hA, hB, Bool.and_eq_true, decide_eq_true_eq] at h
  exact ⟨h.1.1.1, h.1.1.2, h.1.2, h.2⟩
theorem awake10_any (w : World) : Calls Try.prog 21 #[] w fun r w' => r = .returned (.bool true) ∧ Fr [] w w' := by
  obtain ⟨D, hD⟩ : ∃ D, make (arenaEnv 1 4 2 20) (arenaCfg 1 4 2 20).fresh 2 false = D := ⟨_, rfl⟩
  obtain ⟨A, hA⟩ : ∃ A, doIt (arenaEnv 1 4 2 20) D.2 ⟨2, D.1.handle, 1, 5, 0⟩ false = A := ⟨_, rfl⟩
  obtain ⟨B, hB⟩ : ∃ B, doIt (arenaEnv 1 4 2 20) A.2 ⟨1, D.1.handle, 1, 0, 0⟩ false = B := ⟨_, rfl⟩
  obtain ⟨k1, k2, k3, k4⟩ := awake10_facts hD hA hB
  have hc := fun w => arena_any 1 4 2 20 w (by decide +kernel) (by decide +kernel) (by decide +kernel) (by decide +kernel)
  obtain ⟨e, he⟩ : ∃ e, arenaEnv 1 4 2 20 = e := ⟨_, rfl⟩
  obtain ⟨m, hm⟩ : ∃ m, (arenaCfg 1 4 2 20).fresh = m := ⟨_, rfl⟩
  rw [he] at hA hB
  rw [he, hm] at hD
  simp only [he, hm] at hc
  have HD := hid hD
  have HA := hid hA
  have HB := hid hB
  have HC := hid hc
  have d1 : (A.1.e == 0) = true := by simpa using k1
  have d2 : (B.1.e == 0) = true := by simpa using k2
  have d3 : (B.1.value == 5) = true := by simpa using k3
  have d4 : decide (A.1.stamp < B.1.stamp) = true := by simpa using k4
  clear hD hA hB he hm hc k1 k2 k3 k4
  go_enter Try.func21, Try.ntmps21
  go_wp2_with fail
  refine (HC.out _).mono ?_
  rintro r wa ⟨l, rfl, hl, h, fa⟩
  have lm := h.hd.lt
  have nl : ∀ k, wa.heap.size ≤ k → k ∉ l.list := fun k hk => h.nin hk
  have HL := hid hl
  have FA := hid fa
  clear hl fa
  go_wp2_with fail
  refine (make_any e _ l m (by ((repeat' (first | (with_reducible assumption) | (with_reducible apply MemAt.drew) | (with_reducible apply MemAt.drewN) | (with_reducible apply MemAt.alloc) | (with_reducible apply MemAt.setN))); all_goals (first | assumption | (simp only []; assumption) | (refine nl _ ?_; first | omega | (simp only []; omega) | (simp; omega))))) 2 false).mono ?_
  rw [HD.out]
  rintro r w1 ⟨rfl, h1, f1⟩
  have b1 := At.fr (b := wa.heap.size) (t := 30) (vs := e.arr l) (by ((repeat' (first | (with_reducible assumption) | (with_reducible apply At.drew) | (with_reducible apply At.drewN) | (with_reducible refine At.newAt ?_; (simp; done)) | (with_reducible apply At.alloc) | (with_reducible apply At.set) | (with_reducible apply At.setOther))); all_goals (first | assumption | (apply Ne.symm; assumption) | omega | (simp only []; omega) | (simp; done) | (simp; omega)))) f1 (nl _ (by omega))
  have c1 := b1.cell
  have le1 := b1.lt
  have F1 := Fr.sub (S := l.list) (a := wa) (by ((repeat' (first | (with_reducible assumption) | (with_reducible exact Fr.refl _ _) | (with_reducible refine Fr.drew ?_) | (with_reducible refine Fr.drewN ?_ _) | (with_reducible refine Fr.alloc ?_ _) | (with_reducible refine Fr.setCell ?_ ?_ _))); all_goals (first | (left; simp only [List.mem_cons, true_or, or_true]; done) | (left; simp only [List.mem_cons, List.mem_append, true_or, or_true]; done) | (right; simp only []; omega) | (right; simp; done) | (right; simp; omega) | (left; simp; done)))) f1 (by simp)
  clear f1
  go_wp2_with fail
  refine (doIt_any e _ l _ (by ((repeat' (first | (with_reducible assumption) | (with_reducible apply MemAt.drew) | (with_reducible apply MemAt.drewN) | (with_reducible apply MemAt.alloc) | (with_reducible apply MemAt.setN))); all_goals (first | assumption | (simp only []; assumption) | (refine nl _ ?_; first | omega | (simp only []; omega) | (simp; omega))))) ⟨2, D.1.handle, 1, 5, 0⟩ false).mono ?_
  rw [HA.out]
  rintro r w2 ⟨rfl, h2, f2⟩
  have b1 := At.fr (b := wa.heap.size) (t := 30) (vs := e.arr l) (by ((repeat' (first | (with_reducible assumption) | (with_reducible apply At.drew) | (with_reducible apply At.drewN) | (with_reducible refine At.newAt ?_; (simp; done)) | (with_reducible apply At.alloc) | (with_reducible apply At.set) | (with_reducible apply At.setOther))); all_goals (first | assumption | (apply Ne.symm; assumption) | omega | (simp only []; omega) | (simp; done) | (simp; omega)))) f2 (nl _ (by omega))
  have c1 := b1.cell
  have le1 := b1.lt
  have F1 := Fr.sub (S := l.list) (a := wa) (by ((repeat' (first | (with_reducible assumption) | (with_reducible exact Fr.refl _ _) | (with_reducible refine Fr.drew ?_) | (with_reducible refine Fr.drewN ?_ _) | (with_reducible refine Fr.alloc ?_ _) | (with_reducible refine Fr.setCell ?_ ?_ _))); all_goals (first | (left; simp only [List.mem_cons, true_or, or_true]; done) | (left; simp only [List.mem_cons, List.mem_append, true_or, or_true]; done) | (right; simp only []; omega) | (right; simp; done) | (right; simp; omega) | (left; simp; done)))) f2 (by simp)
  clear f2
  go_wp2_with fail
  refine (doIt_any e _ l _ (by ((repeat' (first | (with_reducible assumption) | (with_reducible apply MemAt.drew) | (with_reducible apply MemAt.drewN) | (with_reducible apply MemAt.alloc) | (with_reducible apply MemAt.setN))); all_goals (first | assumption | (simp only []; assumption) | (refine nl _ ?_; first | omega | (simp only []; omega) | (simp; omega))))) ⟨1, D.1.handle, 1, 0, 0⟩ false).mono ?_
  rw [HB.out]
  rintro r w3 ⟨rfl, h3, f3⟩
  have s2 := F1.size
  have b2 := At.fr (b := w2.heap.size) (t := 36) (vs := A.1.arr) (by ((repeat' (first | (with_reducible assumption) | (with_reducible apply At.drew) | (with_reducible apply At.drewN) | (with_reducible refine At.newAt ?_; (simp; done)) | (with_reducible apply At.alloc) | (with_reducible apply At.set) | (with_reducible apply At.setOther))); all_goals (first | assumption | (apply Ne.symm; assumption) | omega | (simp only []; omega) | (simp; done) | (simp; omega)))) f3 (nl _ (by omega))
  have c2 := b2.cell
  have le2 := b2.lt
  have F1 := Fr.sub (S := l.list) (a := wa) (by ((repeat' (first | (with_reducible assumption) | (with_reducible exact Fr.refl _ _) | (with_reducible refine Fr.drew ?_) | (with_reducible refine Fr.drewN ?_ _) | (with_reducible refine Fr.alloc ?_ _) | (with_reducible refine Fr.setCell ?_ ?_ _))); all_goals (first | (left; simp only [List.mem_cons, true_or, or_true]; done) | (left; simp only [List.mem_cons, List.mem_append, true_or, or_true]; done) | (right; simp only []; omega) | (right; simp; done) | (right; simp; omega) | (left; simp; done)))) f3 (by simp)
  clear f3
  go_wp2
  go_ret
  refine ⟨rfl, ?_⟩
  have F := Fr.trans' (S := []) FA.out (Fr.mono F1 (by intro k _ hk; exact hk)) (fun x hx hlt => by have := HL.out x hx; omega)
  ((repeat' (first | (with_reducible assumption) | (with_reducible exact Fr.refl _ _) | (with_reducible refine Fr.drew ?_) | (with_reducible refine Fr.drewN ?_ _) | (with_reducible refine Fr.alloc ?_ _) | (with_reducible refine Fr.setCell ?_ ?_ _))); all_goals (first | (left; simp only [List.mem_cons, true_or, or_true]; done) | (left; simp only [List.mem_cons, List.mem_append, true_or, or_true]; done) | (right; simp only []; omega) | (right; simp; done) | (right; simp; omega) | (left; simp; done)))
end Go.Proofs.Ytkgbifagledcaaa.FL
