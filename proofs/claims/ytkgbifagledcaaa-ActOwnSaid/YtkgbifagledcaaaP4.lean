/-
  The contracts of layer 10 (access): a step, part 4.
-/
import Derived.Test.YtkgbifagledcaaaO
import Derived.Deep.DeepCutAuto
namespace Go.Proofs.Ytkgbifagledcaaa.FL
open Go Go.RowKit
set_option linter.unusedVariables false
set_option linter.unusedSimpArgs false
set_option maxRecDepth 20000
set_option maxHeartbeats 4000000
attribute [local go_sem ↓] Go.wp_at_zero Go.wp_at_succ
attribute [local go_sem] fieldSlot0 fieldSlot1 fieldSlot2 fieldSlot3 fieldChunk0 fieldChunk1 fieldChunk3 fieldCell0

theorem access4 (e : Env) (w : World) (l : Loc) (m : Mem) (h : MemAt w l m) (a : Access) (hv : Value) (b : Nat) (x : Help) (bh : Nat) (hx : At w bh 177 x.arr) (nhl : bh ∉ l.list) (nbh : b ≠ bh) (hhv : hv = .pointer (some ⟨bh, 0, none⟩))
    (hb : At w b 115 (a.arr hv)) (n1 : b ∉ l.list) (hpc : a.pc = 4) :
    Calls Try.prog 29 #[.pointer (some ⟨b, 0, none⟩), .agg (e.arr l)] w fun r w' =>
      r = .returned (.bool false) ∧ At w' b 115 (({ a with pc := if (x.step e m).2.2 then 0 else 4 } : Access).arr hv) ∧ At w' bh 177 (x.step e m).1.arr ∧ MemAt w' l (x.step e m).2.1 ∧ Fr (b :: bh :: l.list) w w' := by
  obtain ⟨⟨xk, xh, xi, xv, xo⟩, own, ⟨hs, hg⟩, pc, aw, cell, seen, read, size, hh, ⟨o0, o1, o2, o3⟩⟩ := a
  simp only at hpc
  subst hpc
  have p0 := hb.cell; have f0 := hb.frozen; have lb := hb.lt; have lm := h.hd.lt; have b0 := At.new w 30 (e.arr l); have c0 := b0.cell; have n0 := h.nin (Nat.le_refl w.heap.size); have nl : ∀ k, w.heap.size ≤ k → k ∉ l.list := fun k hk => h.nin hk
  subst hhv
  have n1' : b ∉ bh :: l.list := by simp only [List.mem_cons, not_or]; exact ⟨nbh, n1⟩
  have lx := hx.lt
  have n0' : w.heap.size ∉ bh :: l.list := by simp only [List.mem_cons, not_or]; exact ⟨by omega, n0⟩
  obtain ⟨TT, hT⟩ : ∃ T, Help.step x e m = T := ⟨_, rfl⟩
  obtain ⟨q, m', done⟩ := TT
  rw [hT]
  have HT := hid hT
  clear hT
  go_enter Try.func29, Try.ntmps29
  go_wp2_with fail
  go_region_held3 (fun w' => (∀ i, w'.cell? ⟨w.heap.size, i, none⟩ = (e.arr l)[i]?) ∧ w'.cell? ⟨b, 14, none⟩ = some (.pointer (some ⟨bh, 0, none⟩))) (((try dsimp only); (repeat' apply And.intro); all_goals (first | with_reducible exact b1.cell | with_reducible exact p1 | with_reducible assumption | (refine At.cell (t := 30) ?_; ((repeat' (first | (with_reducible assumption) | (with_reducible apply At.drew) | (with_reducible apply At.drewN) | (with_reducible refine At.newAt ?_; (simp; done)) | (with_reducible apply At.alloc) | (with_reducible apply At.set) | (with_reducible apply At.setOther))); all_goals (first | assumption | (apply Ne.symm; assumption) | omega | (simp only []; omega) | (simp; done) | (simp; omega)))) | (refine At.cells (by ((repeat' (first | (with_reducible assumption) | (with_reducible apply At.drew) | (with_reducible apply At.drewN) | (with_reducible refine At.newAt ?_; (simp; done)) | (with_reducible apply At.alloc) | (with_reducible apply At.set) | (with_reducible apply At.setOther))); all_goals (first | assumption | (apply Ne.symm; assumption) | omega | (simp only []; omega) | (simp; done) | (simp; omega)))) ?_; (first | rfl | (simp; done))) | (rw [World.cell?_setCell_other _ _ _ _ (by simp)]; assumption) | (refine (At.cell (by ((repeat' (first | (with_reducible assumption) | (with_reducible apply At.drew) | (with_reducible apply At.drewN) | (with_reducible refine At.newAt ?_; (simp; done)) | (with_reducible apply At.alloc) | (with_reducible apply At.set) | (with_reducible apply At.setOther))); all_goals (first | assumption | (apply Ne.symm; assumption) | omega | (simp only []; omega) | (simp; done) | (simp; omega)))) _).trans ?_; (simp; done)) | (go_keep; done)))) (first | (go_at_call 82; refine (help_any e _ l m (by ((repeat' (first | (with_reducible assumption) | (with_reducible apply MemAt.drew) | (with_reducible apply MemAt.drewN) | (with_reducible apply MemAt.alloc) | (with_reducible apply MemAt.setN))); all_goals (first | assumption | (simp only []; assumption) | (refine nl _ ?_; first | omega | (simp only []; omega) | (simp; omega))))) x bh (by ((repeat' (first | (with_reducible assumption) | (with_reducible apply At.drew) | (with_reducible apply At.drewN) | (with_reducible refine At.newAt ?_; (simp; done)) | (with_reducible apply At.alloc) | (with_reducible apply At.set) | (with_reducible apply At.setOther))); all_goals (first | assumption | (apply Ne.symm; assumption) | omega | (simp only []; omega) | (simp; done) | (simp; omega)))) nhl).mono ?_; rw [HT.out]; rintro r w1 ⟨rfl, hx1, h1, f1⟩; have hb1 := At.fr (b := b) (by ((repeat' (first | (with_reducible assumption) | (with_reducible apply At.drew) | (with_reducible apply At.drewN) | (with_reducible refine At.newAt ?_; (simp; done)) | (with_reducible apply At.alloc) | (with_reducible apply At.set) | (with_reducible apply At.setOther))); all_goals (first | assumption | (apply Ne.symm; assumption) | omega | (simp only []; omega) | (simp; done) | (simp; omega)))) f1 n1'; (try simp only [List.setIfInBounds_toArray, List.set_cons_zero, List.set_cons_succ] at hb1); have p1 := hb1.cell; have g1 := hb1.frozen; have lb1 := hb1.lt; have b1 := At.fr (b := w.heap.size) (t := 30) (vs := e.arr l) (by ((repeat' (first | (with_reducible assumption) | (with_reducible apply At.drew) | (with_reducible apply At.drewN) | (with_reducible refine At.newAt ?_; (simp; done)) | (with_reducible apply At.alloc) | (with_reducible apply At.set) | (with_reducible apply At.setOther))); all_goals (first | assumption | (apply Ne.symm; assumption) | omega | (simp only []; omega) | (simp; done) | (simp; omega)))) f1 n0'; have c1 := b1.cell; have le1 := b1.lt; have F1 := (Fr.sub (S := b :: bh :: l.list) (a := w) (by ((repeat' (first | (with_reducible assumption) | (with_reducible exact Fr.refl _ _) | (with_reducible refine Fr.drew ?_) | (with_reducible refine Fr.drewN ?_ _) | (with_reducible refine Fr.alloc ?_ _) | (with_reducible refine Fr.setCell ?_ ?_ _))); all_goals (first | (left; simp only [List.mem_cons, true_or, or_true]; done) | (left; simp only [List.mem_cons, List.mem_append, true_or, or_true]; done) | (right; simp only []; omega) | (right; simp; done) | (right; simp; omega) | (left; simp; done)))) f1 (by simp +contextual))))
  cases done with
  | true =>
    go_wp2
    go_ret
    refine ⟨rfl, ?_, ?_, ?_, ?_⟩
    · (refine At.to (by ((repeat' (first | (with_reducible assumption) | (with_reducible apply At.drew) | (with_reducible apply At.drewN) | (with_reducible refine At.newAt ?_; (simp; done)) | (with_reducible apply At.alloc) | (with_reducible apply At.set) | (with_reducible apply At.setOther))); all_goals (first | assumption | (apply Ne.symm; assumption) | omega | (simp only []; omega) | (simp; done) | (simp; omega)))) ?_; (first | rfl | (simp [inc]; done) | (simp [inc, IntWalk.i64_left]; done)))
    · ((repeat' (first | (with_reducible assumption) | (with_reducible apply At.drew) | (with_reducible apply At.drewN) | (with_reducible refine At.newAt ?_; (simp; done)) | (with_reducible apply At.alloc) | (with_reducible apply At.set) | (with_reducible apply At.setOther))); all_goals (first | assumption | (apply Ne.symm; assumption) | omega | (simp only []; omega) | (simp; done) | (simp; omega)))
    · ((repeat' (first | (with_reducible assumption) | (with_reducible apply MemAt.drew) | (with_reducible apply MemAt.drewN) | (with_reducible apply MemAt.alloc) | (with_reducible apply MemAt.setN))); all_goals (first | assumption | (simp only []; assumption) | (refine nl _ ?_; first | omega | (simp only []; omega) | (simp; omega))))
    · ((repeat' (first | (with_reducible assumption) | (with_reducible exact Fr.refl _ _) | (with_reducible refine Fr.drew ?_) | (with_reducible refine Fr.drewN ?_ _) | (with_reducible refine Fr.alloc ?_ _) | (with_reducible refine Fr.setCell ?_ ?_ _))); all_goals (first | (left; simp only [List.mem_cons, true_or, or_true]; done) | (left; simp only [List.mem_cons, List.mem_append, true_or, or_true]; done) | (right; simp only []; omega) | (right; simp; done) | (right; simp; omega) | (left; simp; done)))
  | false =>
    go_wp2
    go_ret
    refine ⟨rfl, ?_, ?_, ?_, ?_⟩
    · (refine At.to (by ((repeat' (first | (with_reducible assumption) | (with_reducible apply At.drew) | (with_reducible apply At.drewN) | (with_reducible refine At.newAt ?_; (simp; done)) | (with_reducible apply At.alloc) | (with_reducible apply At.set) | (with_reducible apply At.setOther))); all_goals (first | assumption | (apply Ne.symm; assumption) | omega | (simp only []; omega) | (simp; done) | (simp; omega)))) ?_; (first | rfl | (simp [inc]; done) | (simp [inc, IntWalk.i64_left]; done)))
    · ((repeat' (first | (with_reducible assumption) | (with_reducible apply At.drew) | (with_reducible apply At.drewN) | (with_reducible refine At.newAt ?_; (simp; done)) | (with_reducible apply At.alloc) | (with_reducible apply At.set) | (with_reducible apply At.setOther))); all_goals (first | assumption | (apply Ne.symm; assumption) | omega | (simp only []; omega) | (simp; done) | (simp; omega)))
    · ((repeat' (first | (with_reducible assumption) | (with_reducible apply MemAt.drew) | (with_reducible apply MemAt.drewN) | (with_reducible apply MemAt.alloc) | (with_reducible apply MemAt.setN))); all_goals (first | assumption | (simp only []; assumption) | (refine nl _ ?_; first | omega | (simp only []; omega) | (simp; omega))))
    · ((repeat' (first | (with_reducible assumption) | (with_reducible exact Fr.refl _ _) | (with_reducible refine Fr.drew ?_) | (with_reducible refine Fr.drewN ?_ _) | (with_reducible refine Fr.alloc ?_ _) | (with_reducible refine Fr.setCell ?_ ?_ _))); all_goals (first | (left; simp only [List.mem_cons, true_or, or_true]; done) | (left; simp only [List.mem_cons, List.mem_append, true_or, or_true]; done) | (right; simp only []; omega) | (right; simp; done) | (right; simp; omega) | (left; simp; done)))
end Go.Proofs.Ytkgbifagledcaaa.FL
