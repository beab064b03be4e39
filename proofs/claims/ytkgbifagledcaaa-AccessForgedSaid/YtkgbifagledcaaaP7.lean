/-
  The contracts of layer 10 (access): a step, part 7.
-/
import Derived.Test.YtkgbifagledcaaaP6
import Derived.Deep.DeepCutAuto
namespace Go.Proofs.Ytkgbifagledcaaa.FL
open Go Go.RowKit
set_option linter.unusedVariables false
set_option linter.unusedSimpArgs false
set_option maxRecDepth 20000
set_option maxHeartbeats 4000000
attribute [local go_sem ↓] Go.wp_at_zero Go.wp_at_succ
attribute [local go_sem] fieldSlot0 fieldSlot1 fieldSlot2 fieldSlot3 fieldChunk0 fieldChunk1 fieldChunk3 fieldCell0

theorem access6 (e : Env) (w : World) (l : Loc) (m : Mem) (h : MemAt w l m) (a : Access) (hv : Value) (b : Nat) (hb : At w b 115 (a.arr hv)) (n1 : b ∉ l.list)  (h0 : a.pc ≠ 0) (h1 : a.pc ≠ 1) (h2 : a.pc ≠ 2) (h3 : a.pc ≠ 3) (h4 : a.pc ≠ 4) (h5 : a.pc ≠ 5) :
    Calls Try.prog 29 #[.pointer (some ⟨b, 0, none⟩), .agg (e.arr l)] w fun r w' =>
      r = .returned (.bool (a.step e m).2.2) ∧ At w' b 115 ((a.step e m).1.arr hv) ∧ MemAt w' l (a.step e m).2.1 ∧ Fr (b :: l.list) w w' := by
  obtain ⟨⟨xk, xh, xi, xv, xo⟩, own, ⟨hs, hg⟩, pc, aw, cell, seen, read, size, hh, ⟨o0, o1, o2, o3⟩⟩ := a
  simp only at h0 h1 h2 h3 h4 h5
  have p0 := hb.cell; have f0 := hb.frozen; have lb := hb.lt; have lm := h.hd.lt; have b0 := At.new w 30 (e.arr l); have c0 := b0.cell; have n0 := h.nin (Nat.le_refl w.heap.size); have nl : ∀ k, w.heap.size ≤ k → k ∉ l.list := fun k hk => h.nin hk
  have d0 : (pc == 0) = false := by simpa using h0
  have d1 : (pc == 1) = false := by simpa using h1
  have d2 : (pc == 2) = false := by simpa using h2
  have d3 : (pc == 3) = false := by simpa using h3
  have d4 : (pc == 4) = false := by simpa using h4
  have d5 : (pc == 5) = false := by simpa using h5
  have e0 : Access.step ⟨⟨xk, xh, xi, xv, xo⟩, own, ⟨hs, hg⟩, pc, aw, cell, seen, read, size, hh, ⟨o0, o1, o2, o3⟩⟩ e m = Access.check ⟨⟨xk, xh, xi, xv, xo⟩, own, ⟨hs, hg⟩, pc, aw, cell, seen, read, size, hh, ⟨o0, o1, o2, o3⟩⟩ e m := by simp only [Access.step, if_neg h0, if_neg h1, if_neg h2, if_neg h3, if_neg h4, if_neg h5]
  rw [e0]
  clear h0 h1 h2 h3 h4 h5 e0
  go_enter Try.func29, Try.ntmps29
  go_wp2_with fail
  refine (check_any e _ l m (by ((repeat' (first | (with_reducible assumption) | (with_reducible apply MemAt.drew) | (with_reducible apply MemAt.drewN) | (with_reducible apply MemAt.alloc) | (with_reducible apply MemAt.setN))); all_goals (first | assumption | (simp only []; assumption) | (refine nl _ ?_; first | omega | (simp only []; omega) | (simp; omega))))) ⟨⟨xk, xh, xi, xv, xo⟩, own, ⟨hs, hg⟩, pc, aw, cell, seen, read, size, hh, ⟨o0, o1, o2, o3⟩⟩ hv b (by ((repeat' (first | (with_reducible assumption) | (with_reducible apply At.drew) | (with_reducible apply At.drewN) | (with_reducible refine At.newAt ?_; (simp; done)) | (with_reducible apply At.alloc) | (with_reducible apply At.set) | (with_reducible apply At.setOther))); all_goals (first | assumption | (apply Ne.symm; assumption) | omega | (simp only []; omega) | (simp; done) | (simp; omega)))) n1).mono ?_
  rintro r w1 ⟨rfl, hb1, h1, f1⟩
  have F1 := (Fr.sub (S := b :: l.list) (a := w) (by ((repeat' (first | (with_reducible assumption) | (with_reducible exact Fr.refl _ _) | (with_reducible refine Fr.drew ?_) | (with_reducible refine Fr.drewN ?_ _) | (with_reducible refine Fr.alloc ?_ _) | (with_reducible refine Fr.setCell ?_ ?_ _))); all_goals (first | (left; simp only [List.mem_cons, true_or, or_true]; done) | (left; simp only [List.mem_cons, List.mem_append, true_or, or_true]; done) | (right; simp only []; omega) | (right; simp; done) | (right; simp; omega) | (left; simp; done)))) f1 (by simp +contextual))
  go_wp2
  go_ret
  (refine ⟨rfl, ?_, ?_, ?_⟩; (focus (refine At.to (by ((repeat' (first | (with_reducible assumption) | (with_reducible apply At.drew) | (with_reducible apply At.drewN) | (with_reducible refine At.newAt ?_; (simp; done)) | (with_reducible apply At.alloc) | (with_reducible apply At.set) | (with_reducible apply At.setOther))); all_goals (first | assumption | (apply Ne.symm; assumption) | omega | (simp only []; omega) | (simp; done) | (simp; omega)))) ?_; (first | rfl | (simp [inc]; done) | (simp [inc, IntWalk.i64_left]; done)))); (focus ((repeat' (first | (with_reducible assumption) | (with_reducible apply MemAt.drew) | (with_reducible apply MemAt.drewN) | (with_reducible apply MemAt.alloc) | (with_reducible apply MemAt.setN))); all_goals (first | assumption | (simp only []; assumption) | (refine nl _ ?_; first | omega | (simp only []; omega) | (simp; omega))))); (focus ((repeat' (first | (with_reducible assumption) | (with_reducible exact Fr.refl _ _) | (with_reducible refine Fr.drew ?_) | (with_reducible refine Fr.drewN ?_ _) | (with_reducible refine Fr.alloc ?_ _) | (with_reducible refine Fr.setCell ?_ ?_ _))); all_goals (first | (left; simp only [List.mem_cons, true_or, or_true]; done) | (left; simp only [List.mem_cons, List.mem_append, true_or, or_true]; done) | (right; simp only []; omega) | (right; simp; done) | (right; simp; omega) | (left; simp; done)))))
end Go.Proofs.Ytkgbifagledcaaa.FL
