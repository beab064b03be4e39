/-
  The contracts of layer 6 (slot).
-/
import Derived.Test.YtkgbifagledcaaaD
namespace Go.Proofs.Ytkgbifagledcaaa.FL
open Go Go.RowKit
set_option linter.unusedVariables false
set_option linter.unusedSimpArgs false
attribute [local go_sem ↓] Go.wp_at_zero Go.wp_at_succ

abbrev Take.arr (t : Take) : Array Value := #[.int .i64 t.pc, .int .u64 t.top, .int .i64 t.next, .int .i64 t.slot, .bool t.ok]

theorem take_facts {w : World} {b o T : Nat} {vs : Array Value} {c0 c1 c2 c3 c4 : Value} (h : At w b T (splice vs o #[c0, c1, c2, c3, c4])) (ho : o + 5 ≤ vs.size) :
    w.cell? ⟨b, o, none⟩ = some c0 ∧ w.cell? ⟨b, o + 1, none⟩ = some c1 ∧ w.cell? ⟨b, o + 2, none⟩ = some c2 ∧ w.cell? ⟨b, o + 3, none⟩ = some c3 ∧ w.cell? ⟨b, o + 4, none⟩ = some c4 ∧ (∀ i, w.frozen? ⟨b, i, none⟩ = false) :=
  ⟨h.cellSub ho 0 (by simp), h.cellSub ho 1 (by simp), h.cellSub ho 2 (by simp), h.cellSub ho 3 (by simp), h.cellSub ho 4 (by simp), h.frozen⟩

theorem take0 (e : Env) (w : World) (l : Loc) (m : Mem) (h : MemAt w l m) (top next slot : Int) (ok : Bool) (b o T : Nat) (vs : Array Value)
    (hb : At w b T (splice vs o #[.int .i64 0, .int .u64 top, .int .i64 next, .int .i64 slot, .bool ok])) (ho : o + 5 ≤ vs.size) (n1 : b ∉ l.list) :
    Calls Try.prog 111 #[.pointer (some ⟨b, o, none⟩), .agg (e.arr l)] w fun r w' =>
      r = .returned (.bool (decide ((topOf (m.load e.who 1).1).1 < 0))) ∧ At w' b T (splice vs o #[.int .i64 1, .int .u64 (m.load e.who 1).1, .int .i64 next, .int .i64 (topOf (m.load e.who 1).1).1, .bool ok]) ∧ MemAt w' l (m.load e.who 1).2 ∧ Fr (b :: l.list) w w' := by
  obtain ⟨p0, p1, p2, p3, p4, f0⟩ := take_facts hb ho
  have lb := hb.lt
  have lm := h.hd.lt
  have b0 := At.new w 30 (e.arr l)
  have c0 := b0.cell
  have n0 := h.nin (Nat.le_refl w.heap.size)
  go_enter Try.func111, Try.ntmps111
  go_wp2_with fail
  go_region_held3 (fun w' => (∀ i, w'.cell? ⟨w.heap.size, i, none⟩ = (e.arr l)[i]?))
    ((first | exact b1.cell | exact b8.cell | (refine At.cell (t := 30) ?_; ((repeat' (first | (with_reducible assumption) | (with_reducible apply At.drew) | (with_reducible apply At.drewN) | (with_reducible refine At.newAt ?_; (simp; done)) | (with_reducible apply At.alloc) | (with_reducible apply At.set) | (with_reducible apply At.setOther))); all_goals (first | assumption | (apply Ne.symm; assumption) | omega | (simp only []; omega) | (simp; done) | (simp; omega)))) | (go_keep; done)))
    (first | (go_at_call 109; refine (topA_any _).mono ?_; rintro r w1 ⟨rfl, rfl⟩) | (go_at_call 75; refine (eload_any e _ l m (by ((repeat' (first | (with_reducible assumption) | (with_reducible apply MemAt.drew) | (with_reducible apply MemAt.drewN) | (with_reducible apply MemAt.alloc) | (with_reducible apply MemAt.setN))); all_goals (first | assumption | (simp only []; assumption) | (refine nl _ ?_; first | omega | (simp only []; omega) | (simp; omega))))) 1).mono ?_; rintro r w1 ⟨rfl, h1, f1⟩; have b1 := b0.drew.fr f1 n0; have hb1 := (hb.alloc _).drew.fr f1 n1; obtain ⟨q0, q1, q2, q3, q4, g0⟩ := take_facts hb1 ho; have F1 := (Fr.sub (S := b :: l.list) (a := w) (by ((repeat' (first | (with_reducible assumption) | (with_reducible exact Fr.refl _ _) | (with_reducible refine Fr.drew ?_) | (with_reducible refine Fr.drewN ?_ _) | (with_reducible refine Fr.alloc ?_ _) | (with_reducible refine Fr.setCell ?_ ?_ _))); all_goals (first | (left; simp only [List.mem_cons, true_or, or_true]; done) | (left; simp only [List.mem_cons, List.mem_append, true_or, or_true]; done) | (right; simp only []; omega) | (right; simp; done) | (right; simp; omega) | (left; simp; done)))) f1 (by simp +contextual))))
  go_wp2_with (go_at_call 136; refine (topOf_any _ _).mono ?_; rintro r w2 ⟨rfl, rfl⟩)
  go_ret
  refine ⟨rfl, ?_, ?_, ?_⟩
  · refine At.toSub (by ((repeat' (first | (with_reducible assumption) | (with_reducible apply At.drew) | (with_reducible apply At.drewN) | (with_reducible refine At.newAt ?_; (simp; done)) | (with_reducible apply At.alloc) | (with_reducible apply At.setSub) | (with_reducible apply At.setSub0) | (with_reducible apply At.setOther))); all_goals (first | assumption | (simp; done) | (first | assumption | (apply Ne.symm; assumption) | omega | (simp only []; omega) | (simp; done) | (simp; omega))))) ?_
    first | rfl | (simp [inc]; done)
  · ((repeat' (first | (with_reducible assumption) | (with_reducible apply MemAt.drew) | (with_reducible apply MemAt.drewN) | (with_reducible apply MemAt.alloc) | (with_reducible apply MemAt.setN))); all_goals (first | assumption | (simp only []; assumption) | (refine nl _ ?_; first | omega | (simp only []; omega) | (simp; omega))))
  · ((repeat' (first | (with_reducible assumption) | (with_reducible exact Fr.refl _ _) | (with_reducible refine Fr.drew ?_) | (with_reducible refine Fr.drewN ?_ _) | (with_reducible refine Fr.alloc ?_ _) | (with_reducible refine Fr.setCell ?_ ?_ _))); all_goals (first | (left; simp only [List.mem_cons, true_or, or_true]; done) | (left; simp only [List.mem_cons, List.mem_append, true_or, or_true]; done) | (right; simp only []; omega) | (right; simp; done) | (right; simp; omega) | (left; simp; done)))

abbrev Give.arr (g : Give) : Array Value := #[.int .i64 g.pc, .int .i64 g.slot, .int .u64 g.top]

theorem give0 (e : Env) (w : World) (l : Loc) (m : Mem) (h : MemAt w l m) (slot top : Int) (b : Nat)
    (hb : At w b 189 #[.int .i64 0, .int .i64 slot, .int .u64 top]) (n1 : b ∉ l.list) :
    Calls Try.prog 118 #[.pointer (some ⟨b, 0, none⟩), .agg (e.arr l)] w fun r w' =>
      r = .returned (.bool false) ∧ At w' b 189 #[.int .i64 1, .int .i64 slot, .int .u64 (m.load e.who 1).1] ∧ MemAt w' l (m.load e.who 1).2 ∧ Fr (b :: l.list) w w' := by
  have p0 := hb.cell
  have f0 := hb.frozen
  have lb := hb.lt
  have lm := h.hd.lt
  have b0 := At.new w 30 (e.arr l)
  have c0 := b0.cell
  have n0 := h.nin (Nat.le_refl w.heap.size)
  go_enter Try.func118, Try.ntmps118
  go_wp2_with (go_at_call 136; (try simp only [IntWalk.i64_left]); refine (topOf_any _ _).mono ?_; rintro r w9 ⟨rfl, rfl⟩)
  go_region_held3 (fun w' => (∀ i, w'.cell? ⟨w.heap.size, i, none⟩ = (e.arr l)[i]?))
    ((first | exact b1.cell | exact b8.cell | (refine At.cell (t := 30) ?_; ((repeat' (first | (with_reducible assumption) | (with_reducible apply At.drew) | (with_reducible apply At.drewN) | (with_reducible refine At.newAt ?_; (simp; done)) | (with_reducible apply At.alloc) | (with_reducible apply At.set) | (with_reducible apply At.setOther))); all_goals (first | assumption | (apply Ne.symm; assumption) | omega | (simp only []; omega) | (simp; done) | (simp; omega)))) | (go_keep; done)))
    (first | (go_at_call 109; (try simp only [IntWalk.i64_left]); refine (topA_any _).mono ?_; rintro r w9 ⟨rfl, rfl⟩) | (go_at_call 75; (try simp only [IntWalk.i64_left]); refine (eload_any e _ l m (by ((repeat' (first | (with_reducible assumption) | (with_reducible apply MemAt.drew) | (with_reducible apply MemAt.drewN) | (with_reducible apply MemAt.alloc) | (with_reducible apply MemAt.setN))); all_goals (first | assumption | (simp only []; assumption) | (refine nl _ ?_; first | omega | (simp only []; omega) | (simp; omega))))) _).mono ?_; rintro r w1 ⟨rfl, h1, f1⟩; have hb1 := At.fr (b := b) (by ((repeat' (first | (with_reducible assumption) | (with_reducible apply At.drew) | (with_reducible apply At.drewN) | (with_reducible refine At.newAt ?_; (simp; done)) | (with_reducible apply At.alloc) | (with_reducible apply At.set) | (with_reducible apply At.setOther))); all_goals (first | assumption | (apply Ne.symm; assumption) | omega | (simp only []; omega) | (simp; done) | (simp; omega)))) f1 n1; (try simp only [List.setIfInBounds_toArray, List.set_cons_zero, List.set_cons_succ] at hb1); have p1 := hb1.cell; have g1 := hb1.frozen; have lb1 := hb1.lt; have b1 := At.fr (b := w.heap.size) (t := 30) (vs := e.arr l) (by ((repeat' (first | (with_reducible assumption) | (with_reducible apply At.drew) | (with_reducible apply At.drewN) | (with_reducible refine At.newAt ?_; (simp; done)) | (with_reducible apply At.alloc) | (with_reducible apply At.set) | (with_reducible apply At.setOther))); all_goals (first | assumption | (apply Ne.symm; assumption) | omega | (simp only []; omega) | (simp; done) | (simp; omega)))) f1 n0; have c1 := b1.cell; have le1 := b1.lt; have F1 := (Fr.sub (S := b :: l.list) (a := w) (by ((repeat' (first | (with_reducible assumption) | (with_reducible exact Fr.refl _ _) | (with_reducible refine Fr.drew ?_) | (with_reducible refine Fr.drewN ?_ _) | (with_reducible refine Fr.alloc ?_ _) | (with_reducible refine Fr.setCell ?_ ?_ _))); all_goals (first | (left; simp only [List.mem_cons, true_or, or_true]; done) | (left; simp only [List.mem_cons, List.mem_append, true_or, or_true]; done) | (right; simp only []; omega) | (right; simp; done) | (right; simp; omega) | (left; simp; done)))) f1 (by simp +contextual))))
  go_wp2
  go_ret
  refine ⟨rfl, ?_, ?_, ?_⟩
  · refine At.to (by ((repeat' (first | (with_reducible assumption) | (with_reducible apply At.drew) | (with_reducible apply At.drewN) | (with_reducible refine At.newAt ?_; (simp; done)) | (with_reducible apply At.alloc) | (with_reducible apply At.set) | (with_reducible apply At.setOther))); all_goals (first | assumption | (apply Ne.symm; assumption) | omega | (simp only []; omega) | (simp; done) | (simp; omega)))) ?_
    first | rfl | (simp [inc]; done)
  · ((repeat' (first | (with_reducible assumption) | (with_reducible apply MemAt.drew) | (with_reducible apply MemAt.drewN) | (with_reducible apply MemAt.alloc) | (with_reducible apply MemAt.setN))); all_goals (first | assumption | (simp only []; assumption) | (refine nl _ ?_; first | omega | (simp only []; omega) | (simp; omega))))
  · ((repeat' (first | (with_reducible assumption) | (with_reducible exact Fr.refl _ _) | (with_reducible refine Fr.drew ?_) | (with_reducible refine Fr.drewN ?_ _) | (with_reducible refine Fr.alloc ?_ _) | (with_reducible refine Fr.setCell ?_ ?_ _))); all_goals (first | (left; simp only [List.mem_cons, true_or, or_true]; done) | (left; simp only [List.mem_cons, List.mem_append, true_or, or_true]; done) | (right; simp only []; omega) | (right; simp; done) | (right; simp; omega) | (left; simp; done)))

theorem give1 (e : Env) (w : World) (l : Loc) (m : Mem) (h : MemAt w l m) (slot top : Int) (b : Nat)
    (hb : At w b 189 #[.int .i64 1, .int .i64 slot, .int .u64 top]) (n1 : b ∉ l.list) :
    Calls Try.prog 118 #[.pointer (some ⟨b, 0, none⟩), .agg (e.arr l)] w fun r w' =>
      r = .returned (.bool false) ∧ At w' b 189 #[.int .i64 2, .int .i64 slot, .int .u64 top] ∧ MemAt w' l (m.store e.who (inc (e.c.slotA slot)) (putTop (topOf top).1 0)) ∧ Fr (b :: l.list) w w' := by
  have p0 := hb.cell
  have f0 := hb.frozen
  have lb := hb.lt
  have lm := h.hd.lt
  have b0 := At.new w 30 (e.arr l)
  have c0 := b0.cell
  have n0 := h.nin (Nat.le_refl w.heap.size)
  go_enter Try.func118, Try.ntmps118
  go_wp2_with (go_at_call 136; (try simp only [IntWalk.i64_left]); refine (topOf_any _ _).mono ?_; rintro r w9 ⟨rfl, rfl⟩)
  go_region_held3 (fun w' => (∀ i, w'.cell? ⟨w.heap.size, i, none⟩ = (e.arr l)[i]?) ∧ w'.cell? ⟨b, 1, none⟩ = some (.int .i64 slot))
    (((try dsimp only); (repeat' apply And.intro); all_goals (first | with_reducible exact b1.cell | with_reducible exact p1 | with_reducible assumption | (refine At.cell (t := 30) ?_; ((repeat' (first | (with_reducible assumption) | (with_reducible apply At.drew) | (with_reducible apply At.drewN) | (with_reducible refine At.newAt ?_; (simp; done)) | (with_reducible apply At.alloc) | (with_reducible apply At.set) | (with_reducible apply At.setOther))); all_goals (first | assumption | (apply Ne.symm; assumption) | omega | (simp only []; omega) | (simp; done) | (simp; omega)))) | (refine At.cells (by ((repeat' (first | (with_reducible assumption) | (with_reducible apply At.drew) | (with_reducible apply At.drewN) | (with_reducible refine At.newAt ?_; (simp; done)) | (with_reducible apply At.alloc) | (with_reducible apply At.set) | (with_reducible apply At.setOther))); all_goals (first | assumption | (apply Ne.symm; assumption) | omega | (simp only []; omega) | (simp; done) | (simp; omega)))) ?_; (first | rfl | (simp; done))) | (rw [World.cell?_setCell_other _ _ _ _ (by simp)]; assumption) | (refine (At.cell (by ((repeat' (first | (with_reducible assumption) | (with_reducible apply At.drew) | (with_reducible apply At.drewN) | (with_reducible refine At.newAt ?_; (simp; done)) | (with_reducible apply At.alloc) | (with_reducible apply At.set) | (with_reducible apply At.setOther))); all_goals (first | assumption | (apply Ne.symm; assumption) | omega | (simp only []; omega) | (simp; done) | (simp; omega)))) _).trans ?_; (simp; done)) | (go_keep; done))))
    (first | (go_at_call 43; (try simp only [IntWalk.i64_left]); refine (slotA_any e.c _ _).mono ?_; rintro r w8 ⟨rfl, f8⟩; have b8 : At w8 w.heap.size 30 (e.arr l) := At.fr (by ((repeat' (first | (with_reducible assumption) | (with_reducible apply At.drew) | (with_reducible apply At.drewN) | (with_reducible refine At.newAt ?_; (simp; done)) | (with_reducible apply At.alloc) | (with_reducible apply At.set) | (with_reducible apply At.setOther))); all_goals (first | assumption | (apply Ne.symm; assumption) | omega | (simp only []; omega) | (simp; done) | (simp; omega)))) f8 (by simp); have hb8 := At.fr (b := b) (by ((repeat' (first | (with_reducible assumption) | (with_reducible apply At.drew) | (with_reducible apply At.drewN) | (with_reducible refine At.newAt ?_; (simp; done)) | (with_reducible apply At.alloc) | (with_reducible apply At.set) | (with_reducible apply At.setOther))); all_goals (first | assumption | (apply Ne.symm; assumption) | omega | (simp only []; omega) | (simp; done) | (simp; omega)))) f8 (by simp); (try simp only [List.setIfInBounds_toArray, List.set_cons_zero, List.set_cons_succ] at hb8); have c8 := b8.cell; have p8 := hb8.cell; have g8 := hb8.frozen; have h8 := MemAt.frl (l := l) (by ((repeat' (first | (with_reducible assumption) | (with_reducible apply MemAt.drew) | (with_reducible apply MemAt.drewN) | (with_reducible apply MemAt.alloc) | (with_reducible apply MemAt.setN))); all_goals (first | assumption | (simp only []; assumption) | (refine nl _ ?_; first | omega | (simp only []; omega) | (simp; omega))))) f8 (by simp); have F8 := (Fr.nil (S := b :: l.list) (a := w) (by ((repeat' (first | (with_reducible assumption) | (with_reducible exact Fr.refl _ _) | (with_reducible refine Fr.drew ?_) | (with_reducible refine Fr.drewN ?_ _) | (with_reducible refine Fr.alloc ?_ _) | (with_reducible refine Fr.setCell ?_ ?_ _))); all_goals (first | (left; simp only [List.mem_cons, true_or, or_true]; done) | (left; simp only [List.mem_cons, List.mem_append, true_or, or_true]; done) | (right; simp only []; omega) | (right; simp; done) | (right; simp; omega) | (left; simp; done)))) f8)) | (go_at_call 108; (try simp only [IntWalk.i64_left]); refine (putTop_any _ _ _).mono ?_; rintro r w9 ⟨rfl, rfl⟩) | (go_at_call 90; (try simp only [IntWalk.i64_left]); refine (estore_any e _ l m (by ((repeat' (first | (with_reducible assumption) | (with_reducible apply MemAt.drew) | (with_reducible apply MemAt.drewN) | (with_reducible apply MemAt.alloc) | (with_reducible apply MemAt.setN))); all_goals (first | assumption | (simp only []; assumption) | (refine nl _ ?_; first | omega | (simp only []; omega) | (simp; omega))))) _ _).mono ?_; rintro r w1 ⟨rfl, h1, f1⟩; have hb1 := At.fr (b := b) (by ((repeat' (first | (with_reducible assumption) | (with_reducible apply At.drew) | (with_reducible apply At.drewN) | (with_reducible refine At.newAt ?_; (simp; done)) | (with_reducible apply At.alloc) | (with_reducible apply At.set) | (with_reducible apply At.setOther))); all_goals (first | assumption | (apply Ne.symm; assumption) | omega | (simp only []; omega) | (simp; done) | (simp; omega)))) f1 n1; (try simp only [List.setIfInBounds_toArray, List.set_cons_zero, List.set_cons_succ] at hb1); have p1 := hb1.cell; have g1 := hb1.frozen; have lb1 := hb1.lt; have b1 := At.fr (b := w.heap.size) (t := 30) (vs := e.arr l) (by ((repeat' (first | (with_reducible assumption) | (with_reducible apply At.drew) | (with_reducible apply At.drewN) | (with_reducible refine At.newAt ?_; (simp; done)) | (with_reducible apply At.alloc) | (with_reducible apply At.set) | (with_reducible apply At.setOther))); all_goals (first | assumption | (apply Ne.symm; assumption) | omega | (simp only []; omega) | (simp; done) | (simp; omega)))) f1 n0; have c1 := b1.cell; have le1 := b1.lt; have F1 := (Fr.sub (S := b :: l.list) (a := w) (by ((repeat' (first | (with_reducible assumption) | (with_reducible exact Fr.refl _ _) | (with_reducible refine Fr.drew ?_) | (with_reducible refine Fr.drewN ?_ _) | (with_reducible refine Fr.alloc ?_ _) | (with_reducible refine Fr.setCell ?_ ?_ _))); all_goals (first | (left; simp only [List.mem_cons, true_or, or_true]; done) | (left; simp only [List.mem_cons, List.mem_append, true_or, or_true]; done) | (right; simp only []; omega) | (right; simp; done) | (right; simp; omega) | (left; simp; done)))) f1 (by simp +contextual))))
  go_wp2
  go_ret
  refine ⟨rfl, ?_, ?_, ?_⟩
  · refine At.to (by ((repeat' (first | (with_reducible assumption) | (with_reducible apply At.drew) | (with_reducible apply At.drewN) | (with_reducible refine At.newAt ?_; (simp; done)) | (with_reducible apply At.alloc) | (with_reducible apply At.set) | (with_reducible apply At.setOther))); all_goals (first | assumption | (apply Ne.symm; assumption) | omega | (simp only []; omega) | (simp; done) | (simp; omega)))) ?_
    first | rfl | (simp [inc]; done)
  · ((repeat' (first | (with_reducible assumption) | (with_reducible apply MemAt.drew) | (with_reducible apply MemAt.drewN) | (with_reducible apply MemAt.alloc) | (with_reducible apply MemAt.setN))); all_goals (first | assumption | (simp only []; assumption) | (refine nl _ ?_; first | omega | (simp only []; omega) | (simp; omega))))
  · ((repeat' (first | (with_reducible assumption) | (with_reducible exact Fr.refl _ _) | (with_reducible refine Fr.drew ?_) | (with_reducible refine Fr.drewN ?_ _) | (with_reducible refine Fr.alloc ?_ _) | (with_reducible refine Fr.setCell ?_ ?_ _))); all_goals (first | (left; simp only [List.mem_cons, true_or, or_true]; done) | (left; simp only [List.mem_cons, List.mem_append, true_or, or_true]; done) | (right; simp only []; omega) | (right; simp; done) | (right; simp; omega) | (left; simp; done)))

theorem give2 (e : Env) (w : World) (l : Loc) (m : Mem) (h : MemAt w l m) (pc slot top : Int) (b : Nat) (hp0 : pc ≠ 0) (hp1 : pc ≠ 1)
    (hb : At w b 189 #[.int .i64 pc, .int .i64 slot, .int .u64 top]) (n1 : b ∉ l.list) :
    Calls Try.prog 118 #[.pointer (some ⟨b, 0, none⟩), .agg (e.arr l)] w fun r w' =>
      r = .returned (.bool (m.cas e.who 1 top (putTop slot (inc (topOf top).2))).1) ∧ At w' b 189 #[.int .i64 0, .int .i64 slot, .int .u64 top] ∧ MemAt w' l (m.cas e.who 1 top (putTop slot (inc (topOf top).2))).2 ∧ Fr (b :: l.list) w w' := by
  have p0 := hb.cell
  have f0 := hb.frozen
  have lb := hb.lt
  have lm := h.hd.lt
  have b0 := At.new w 30 (e.arr l)
  have c0 := b0.cell
  have n0 := h.nin (Nat.le_refl w.heap.size)
  have d0 : (pc == 0) = false := by simpa using hp0
  have d1 : (pc == 1) = false := by simpa using hp1
  go_enter Try.func118, Try.ntmps118
  go_wp2_with (go_at_call 136; (try simp only [IntWalk.i64_left]); refine (topOf_any _ _).mono ?_; rintro r w9 ⟨rfl, rfl⟩)
  go_region_held3 (fun w' => (∀ i, w'.cell? ⟨w.heap.size, i, none⟩ = (e.arr l)[i]?) ∧ w'.cell? ⟨b, 1, none⟩ = some (.int .i64 slot) ∧ w'.cell? ⟨b, 2, none⟩ = some (.int .u64 top))
    (((try dsimp only); (repeat' apply And.intro); all_goals (first | with_reducible exact b1.cell | with_reducible exact p1 | with_reducible assumption | (refine At.cell (t := 30) ?_; ((repeat' (first | (with_reducible assumption) | (with_reducible apply At.drew) | (with_reducible apply At.drewN) | (with_reducible refine At.newAt ?_; (simp; done)) | (with_reducible apply At.alloc) | (with_reducible apply At.set) | (with_reducible apply At.setOther))); all_goals (first | assumption | (apply Ne.symm; assumption) | omega | (simp only []; omega) | (simp; done) | (simp; omega)))) | (refine At.cells (by ((repeat' (first | (with_reducible assumption) | (with_reducible apply At.drew) | (with_reducible apply At.drewN) | (with_reducible refine At.newAt ?_; (simp; done)) | (with_reducible apply At.alloc) | (with_reducible apply At.set) | (with_reducible apply At.setOther))); all_goals (first | assumption | (apply Ne.symm; assumption) | omega | (simp only []; omega) | (simp; done) | (simp; omega)))) ?_; (first | rfl | (simp; done))) | (rw [World.cell?_setCell_other _ _ _ _ (by simp)]; assumption) | (refine (At.cell (by ((repeat' (first | (with_reducible assumption) | (with_reducible apply At.drew) | (with_reducible apply At.drewN) | (with_reducible refine At.newAt ?_; (simp; done)) | (with_reducible apply At.alloc) | (with_reducible apply At.set) | (with_reducible apply At.setOther))); all_goals (first | assumption | (apply Ne.symm; assumption) | omega | (simp only []; omega) | (simp; done) | (simp; omega)))) _).trans ?_; (simp; done)) | (go_keep; done))))
    (first | (go_at_call 109; (try simp only [IntWalk.i64_left]); refine (topA_any _).mono ?_; rintro r w9 ⟨rfl, rfl⟩) | (go_at_call 108; (try simp only [IntWalk.i64_left]); refine (putTop_any _ _ _).mono ?_; rintro r w9 ⟨rfl, rfl⟩) | (go_at_call 81; (try simp only [IntWalk.i64_left]); refine (ecas_any e _ l m (by ((repeat' (first | (with_reducible assumption) | (with_reducible apply MemAt.drew) | (with_reducible apply MemAt.drewN) | (with_reducible apply MemAt.alloc) | (with_reducible apply MemAt.setN))); all_goals (first | assumption | (simp only []; assumption) | (refine nl _ ?_; first | omega | (simp only []; omega) | (simp; omega))))) _ _ _).mono ?_; rintro r w1 ⟨rfl, h1, f1⟩; have hb1 := At.fr (b := b) (by ((repeat' (first | (with_reducible assumption) | (with_reducible apply At.drew) | (with_reducible apply At.drewN) | (with_reducible refine At.newAt ?_; (simp; done)) | (with_reducible apply At.alloc) | (with_reducible apply At.set) | (with_reducible apply At.setOther))); all_goals (first | assumption | (apply Ne.symm; assumption) | omega | (simp only []; omega) | (simp; done) | (simp; omega)))) f1 n1; (try simp only [List.setIfInBounds_toArray, List.set_cons_zero, List.set_cons_succ] at hb1); have p1 := hb1.cell; have g1 := hb1.frozen; have lb1 := hb1.lt; have b1 := At.fr (b := w.heap.size) (t := 30) (vs := e.arr l) (by ((repeat' (first | (with_reducible assumption) | (with_reducible apply At.drew) | (with_reducible apply At.drewN) | (with_reducible refine At.newAt ?_; (simp; done)) | (with_reducible apply At.alloc) | (with_reducible apply At.set) | (with_reducible apply At.setOther))); all_goals (first | assumption | (apply Ne.symm; assumption) | omega | (simp only []; omega) | (simp; done) | (simp; omega)))) f1 n0; have c1 := b1.cell; have le1 := b1.lt; have F1 := (Fr.sub (S := b :: l.list) (a := w) (by ((repeat' (first | (with_reducible assumption) | (with_reducible exact Fr.refl _ _) | (with_reducible refine Fr.drew ?_) | (with_reducible refine Fr.drewN ?_ _) | (with_reducible refine Fr.alloc ?_ _) | (with_reducible refine Fr.setCell ?_ ?_ _))); all_goals (first | (left; simp only [List.mem_cons, true_or, or_true]; done) | (left; simp only [List.mem_cons, List.mem_append, true_or, or_true]; done) | (right; simp only []; omega) | (right; simp; done) | (right; simp; omega) | (left; simp; done)))) f1 (by simp +contextual))))
  go_wp2
  go_ret
  refine ⟨rfl, ?_, ?_, ?_⟩
  · refine At.to (by ((repeat' (first | (with_reducible assumption) | (with_reducible apply At.drew) | (with_reducible apply At.drewN) | (with_reducible refine At.newAt ?_; (simp; done)) | (with_reducible apply At.alloc) | (with_reducible apply At.set) | (with_reducible apply At.setOther))); all_goals (first | assumption | (apply Ne.symm; assumption) | omega | (simp only []; omega) | (simp; done) | (simp; omega)))) ?_
    first | rfl | (simp [inc]; done)
  · ((repeat' (first | (with_reducible assumption) | (with_reducible apply MemAt.drew) | (with_reducible apply MemAt.drewN) | (with_reducible apply MemAt.alloc) | (with_reducible apply MemAt.setN))); all_goals (first | assumption | (simp only []; assumption) | (refine nl _ ?_; first | omega | (simp only []; omega) | (simp; omega))))
  · ((repeat' (first | (with_reducible assumption) | (with_reducible exact Fr.refl _ _) | (with_reducible refine Fr.drew ?_) | (with_reducible refine Fr.drewN ?_ _) | (with_reducible refine Fr.alloc ?_ _) | (with_reducible refine Fr.setCell ?_ ?_ _))); all_goals (first | (left; simp only [List.mem_cons, true_or, or_true]; done) | (left; simp only [List.mem_cons, List.mem_append, true_or, or_true]; done) | (right; simp only []; omega) | (right; simp; done) | (right; simp; omega) | (left; simp; done)))
theorem give_any (e : Env) (w : World) (l : Loc) (m : Mem) (h : MemAt w l m) (g : Give) (b : Nat) (hb : At w b 189 g.arr) (n1 : b ∉ l.list) :
    Calls Try.prog 118 #[.pointer (some ⟨b, 0, none⟩), .agg (e.arr l)] w fun r w' =>
      r = .returned (.bool (g.step e m).2.2) ∧ At w' b 189 (g.step e m).1.arr ∧ MemAt w' l (g.step e m).2.1 ∧ Fr (b :: l.list) w w' := by
  obtain ⟨pc, slot, top⟩ := g
  unfold Give.step
  by_cases h0 : pc = 0
  · subst h0; exact give0 e w l m h slot top b hb n1
  · by_cases h1 : pc = 1
    · subst h1; exact give1 e w l m h slot top b hb n1
    · simp only [if_neg h0, if_neg h1]; exact give2 e w l m h pc slot top b h0 h1 hb n1
theorem newGive_any (w : World) (slot : Int) :
    Calls Try.prog 114 #[.int .i64 slot] w fun r w' => ∃ b, r = .returned (.pointer (some ⟨b, 0, none⟩)) ∧ w.heap.size ≤ b ∧ At w' b 189 (Give.new slot).arr ∧ Fr [] w w' := by
  go_enter Try.func114, Try.ntmps114
  go_wp2
  go_ret
  exact ⟨_, rfl, Nat.le_refl _, At.new _ _ _, by ((repeat' (first | (with_reducible assumption) | (with_reducible exact Fr.refl _ _) | (with_reducible refine Fr.drew ?_) | (with_reducible refine Fr.drewN ?_ _) | (with_reducible refine Fr.alloc ?_ _) | (with_reducible refine Fr.setCell ?_ ?_ _))); all_goals (first | (left; simp only [List.mem_cons, true_or, or_true]; done) | (left; simp only [List.mem_cons, List.mem_append, true_or, or_true]; done) | (right; simp only []; omega) | (right; simp; done) | (right; simp; omega) | (left; simp; done)))⟩

theorem take1 (e : Env) (w : World) (l : Loc) (m : Mem) (h : MemAt w l m) (top next slot : Int) (ok : Bool) (b o T : Nat) (vs : Array Value)
    (hb : At w b T (splice vs o #[.int .i64 1, .int .u64 top, .int .i64 next, .int .i64 slot, .bool ok])) (ho : o + 5 ≤ vs.size) (n1 : b ∉ l.list) :
    Calls Try.prog 111 #[.pointer (some ⟨b, o, none⟩), .agg (e.arr l)] w fun r w' =>
      r = .returned (.bool ok) ∧ At w' b T (splice vs o #[.int .i64 2, .int .u64 top, .int .i64 (topOf (m.load e.who (inc (e.c.slotA slot))).1).1, .int .i64 slot, .bool ok]) ∧ MemAt w' l (m.load e.who (inc (e.c.slotA slot))).2 ∧ Fr (b :: l.list) w w' := by
  obtain ⟨p0, p1, p2, p3, p4, f0⟩ := take_facts hb ho
  have lb := hb.lt
  have lm := h.hd.lt
  have b0 := At.new w 30 (e.arr l)
  have c0 := b0.cell
  have n0 := h.nin (Nat.le_refl w.heap.size)
  go_enter Try.func111, Try.ntmps111
  go_wp2_with fail
  go_region_held3 (fun w' => (∀ i, w'.cell? ⟨w.heap.size, i, none⟩ = (e.arr l)[i]?) ∧ w'.cell? ⟨b, o + 3, none⟩ = some (.int .i64 slot))
    (((try dsimp only); (repeat' apply And.intro); all_goals (first | exact b1.cell | exact q3 | exact r3 | exact b8.cell | (rw [World.cell?_setCell_other _ _ _ _ (by simp)]; assumption) | (refine At.cell (t := 30) ?_; ((repeat' (first | (with_reducible assumption) | (with_reducible apply At.drew) | (with_reducible apply At.drewN) | (with_reducible refine At.newAt ?_; (simp; done)) | (with_reducible apply At.alloc) | (with_reducible apply At.set) | (with_reducible apply At.setOther))); all_goals (first | assumption | (apply Ne.symm; assumption) | omega | (simp only []; omega) | (simp; done) | (simp; omega)))) | (go_keep; done))))
    (first | (go_at_call 43; (try simp only [IntWalk.i64_left]); refine (slotA_any e.c _ _).mono ?_; rintro r w8 ⟨rfl, f8⟩; have b8 : At w8 w.heap.size 30 (e.arr l) := At.fr (by ((repeat' (first | (with_reducible assumption) | (with_reducible apply At.drew) | (with_reducible apply At.drewN) | (with_reducible refine At.newAt ?_; (simp; done)) | (with_reducible apply At.alloc) | (with_reducible apply At.set) | (with_reducible apply At.setOther))); all_goals (first | assumption | (apply Ne.symm; assumption) | omega | (simp only []; omega) | (simp; done) | (simp; omega)))) f8 (by simp); have hb8 := (hb.alloc _).drew.fr f8 (by simp); obtain ⟨r0, r1, r2, r3, r4, g8⟩ := take_facts hb8 ho; have h8 := MemAt.frl (l := l) (by ((repeat' (first | (with_reducible assumption) | (with_reducible apply MemAt.drew) | (with_reducible apply MemAt.drewN) | (with_reducible apply MemAt.alloc) | (with_reducible apply MemAt.setN))); all_goals (first | assumption | (simp only []; assumption) | (refine nl _ ?_; first | omega | (simp only []; omega) | (simp; omega))))) f8 (by simp); have F8 := (Fr.nil (S := b :: l.list) (a := w) (by ((repeat' (first | (with_reducible assumption) | (with_reducible exact Fr.refl _ _) | (with_reducible refine Fr.drew ?_) | (with_reducible refine Fr.drewN ?_ _) | (with_reducible refine Fr.alloc ?_ _) | (with_reducible refine Fr.setCell ?_ ?_ _))); all_goals (first | (left; simp only [List.mem_cons, true_or, or_true]; done) | (left; simp only [List.mem_cons, List.mem_append, true_or, or_true]; done) | (right; simp only []; omega) | (right; simp; done) | (right; simp; omega) | (left; simp; done)))) f8)) | (go_at_call 75; (try simp only [IntWalk.i64_left]); refine (eload_any e _ l m (by ((repeat' (first | (with_reducible assumption) | (with_reducible apply MemAt.drew) | (with_reducible apply MemAt.drewN) | (with_reducible apply MemAt.alloc) | (with_reducible apply MemAt.setN))); all_goals (first | assumption | (simp only []; assumption) | (refine nl _ ?_; first | omega | (simp only []; omega) | (simp; omega))))) _).mono ?_; rintro r w1 ⟨rfl, h1, f1⟩; have b1 := b8.fr f1 n0; have hb1 := hb8.fr f1 n1; obtain ⟨q0, q1, q2, q3, q4, g0⟩ := take_facts hb1 ho; have F1 := (Fr.sub (S := b :: l.list) (a := w) (by ((repeat' (first | (with_reducible assumption) | (with_reducible exact Fr.refl _ _) | (with_reducible refine Fr.drew ?_) | (with_reducible refine Fr.drewN ?_ _) | (with_reducible refine Fr.alloc ?_ _) | (with_reducible refine Fr.setCell ?_ ?_ _))); all_goals (first | (left; simp only [List.mem_cons, true_or, or_true]; done) | (left; simp only [List.mem_cons, List.mem_append, true_or, or_true]; done) | (right; simp only []; omega) | (right; simp; done) | (right; simp; omega) | (left; simp; done)))) f1 (by simp +contextual))) | (go_at_call 136; (try simp only [IntWalk.i64_left]); refine (topOf_any _ _).mono ?_; rintro r w9 ⟨rfl, rfl⟩))
  go_wp2_with (go_at_call 136; (try simp only [IntWalk.i64_left]); refine (topOf_any _ _).mono ?_; rintro r w9 ⟨rfl, rfl⟩)
  go_ret
  refine ⟨rfl, ?_, ?_, ?_⟩
  · refine At.toSub (by ((repeat' (first | (with_reducible assumption) | (with_reducible apply At.drew) | (with_reducible apply At.drewN) | (with_reducible refine At.newAt ?_; (simp; done)) | (with_reducible apply At.alloc) | (with_reducible apply At.setSub) | (with_reducible apply At.setSub0) | (with_reducible apply At.setOther))); all_goals (first | assumption | (simp; done) | (first | assumption | (apply Ne.symm; assumption) | omega | (simp only []; omega) | (simp; done) | (simp; omega))))) ?_
    first | rfl | (simp [inc]; done)
  · ((repeat' (first | (with_reducible assumption) | (with_reducible apply MemAt.drew) | (with_reducible apply MemAt.drewN) | (with_reducible apply MemAt.alloc) | (with_reducible apply MemAt.setN))); all_goals (first | assumption | (simp only []; assumption) | (refine nl _ ?_; first | omega | (simp only []; omega) | (simp; omega))))
  · ((repeat' (first | (with_reducible assumption) | (with_reducible exact Fr.refl _ _) | (with_reducible refine Fr.drew ?_) | (with_reducible refine Fr.drewN ?_ _) | (with_reducible refine Fr.alloc ?_ _) | (with_reducible refine Fr.setCell ?_ ?_ _))); all_goals (first | (left; simp only [List.mem_cons, true_or, or_true]; done) | (left; simp only [List.mem_cons, List.mem_append, true_or, or_true]; done) | (right; simp only []; omega) | (right; simp; done) | (right; simp; omega) | (left; simp; done)))

theorem take2 (e : Env) (w : World) (l : Loc) (m : Mem) (h : MemAt w l m) (pc top next slot : Int) (ok : Bool) (b o T : Nat) (vs : Array Value) (hp0 : pc ≠ 0) (hp1 : pc ≠ 1)
    (hb : At w b T (splice vs o #[.int .i64 pc, .int .u64 top, .int .i64 next, .int .i64 slot, .bool ok])) (ho : o + 5 ≤ vs.size) (n1 : b ∉ l.list) :
    Calls Try.prog 111 #[.pointer (some ⟨b, o, none⟩), .agg (e.arr l)] w fun r w' =>
      r = .returned (.bool (m.cas e.who 1 top (putTop next (inc (topOf top).2))).1) ∧ At w' b T (splice vs o #[.int .i64 0, .int .u64 top, .int .i64 next, .int .i64 slot, .bool (m.cas e.who 1 top (putTop next (inc (topOf top).2))).1]) ∧ MemAt w' l (m.cas e.who 1 top (putTop next (inc (topOf top).2))).2 ∧ Fr (b :: l.list) w w' := by
  obtain ⟨p0, p1, p2, p3, p4, f0⟩ := take_facts hb ho
  have lb := hb.lt
  have lm := h.hd.lt
  have b0 := At.new w 30 (e.arr l)
  have c0 := b0.cell
  have n0 := h.nin (Nat.le_refl w.heap.size)
  have d0 : (pc == 0) = false := by simpa using hp0
  have d1 : (pc == 1) = false := by simpa using hp1
  go_enter Try.func111, Try.ntmps111
  go_wp2_with (go_at_call 136; (try simp only [IntWalk.i64_left]); refine (topOf_any _ _).mono ?_; rintro r w9 ⟨rfl, rfl⟩)
  have hb0 := (hb.setSub0 (by simpa using ho) (by simp) (.int .i64 0)).alloc (.cells (e.arr l) 30)
  simp only [List.setIfInBounds_toArray, List.set_cons_zero, List.set_cons_succ] at hb0
  obtain ⟨s0, s1, s2, s3, s4, t0⟩ := take_facts hb0 ho
  go_region_held3 (fun w' => (∀ i, w'.cell? ⟨w.heap.size, i, none⟩ = (e.arr l)[i]?) ∧ w'.cell? ⟨b, o + 1, none⟩ = some (.int .u64 top) ∧ w'.cell? ⟨b, o + 2, none⟩ = some (.int .i64 next))
    (((try dsimp only); (repeat' apply And.intro); all_goals (first | exact b1.cell | exact q1 | exact q2 | exact s1 | exact s2 | (rw [World.cell?_setCell_other _ _ _ _ (by simp)]; assumption) | (refine At.cell (t := 30) ?_; ((repeat' (first | (with_reducible assumption) | (with_reducible apply At.drew) | (with_reducible apply At.drewN) | (with_reducible refine At.newAt ?_; (simp; done)) | (with_reducible apply At.alloc) | (with_reducible apply At.set) | (with_reducible apply At.setOther))); all_goals (first | assumption | (apply Ne.symm; assumption) | omega | (simp only []; omega) | (simp; done) | (simp; omega)))) | (go_keep; done))))
    (first | (go_at_call 109; (try simp only [IntWalk.i64_left]); refine (topA_any _).mono ?_; rintro r w9 ⟨rfl, rfl⟩) | (go_at_call 108; (try simp only [IntWalk.i64_left]); refine (putTop_any _ _ _).mono ?_; rintro r w9 ⟨rfl, rfl⟩) | (go_at_call 81; (try simp only [IntWalk.i64_left]); refine (ecas_any e _ l m (by ((repeat' (first | (with_reducible assumption) | (with_reducible apply MemAt.drew) | (with_reducible apply MemAt.drewN) | (with_reducible apply MemAt.alloc) | (with_reducible apply MemAt.setN))); all_goals (first | assumption | (simp only []; assumption) | (refine nl _ ?_; first | omega | (simp only []; omega) | (simp; omega))))) _ _ _).mono ?_; rintro r w1 ⟨rfl, h1, f1⟩; have b1 : At w1 w.heap.size 30 (e.arr l) := At.fr (by ((repeat' (first | (with_reducible assumption) | (with_reducible apply At.drew) | (with_reducible apply At.drewN) | (with_reducible refine At.newAt ?_; (simp; done)) | (with_reducible apply At.alloc) | (with_reducible apply At.set) | (with_reducible apply At.setOther))); all_goals (first | assumption | (apply Ne.symm; assumption) | omega | (simp only []; omega) | (simp; done) | (simp; omega)))) f1 n0; have hb1 := At.fr (b := b) (by ((repeat' (first | (with_reducible assumption) | (with_reducible apply At.drew) | (with_reducible apply At.drewN) | (with_reducible refine At.newAt ?_; (simp; done)) | (with_reducible apply At.alloc) | (with_reducible apply At.setSub) | (with_reducible apply At.setSub0) | (with_reducible apply At.setOther))); all_goals (first | assumption | (simp; done) | (first | assumption | (apply Ne.symm; assumption) | omega | (simp only []; omega) | (simp; done) | (simp; omega))))) f1 n1; (try simp only [List.setIfInBounds_toArray, List.set_cons_zero, List.set_cons_succ] at hb1); obtain ⟨q0, q1, q2, q3, q4, g0⟩ := take_facts hb1 ho; have F1 := (Fr.sub (S := b :: l.list) (a := w) (by ((repeat' (first | (with_reducible assumption) | (with_reducible exact Fr.refl _ _) | (with_reducible refine Fr.drew ?_) | (with_reducible refine Fr.drewN ?_ _) | (with_reducible refine Fr.alloc ?_ _) | (with_reducible refine Fr.setCell ?_ ?_ _))); all_goals (first | (left; simp only [List.mem_cons, true_or, or_true]; done) | (left; simp only [List.mem_cons, List.mem_append, true_or, or_true]; done) | (right; simp only []; omega) | (right; simp; done) | (right; simp; omega) | (left; simp; done)))) f1 (by simp +contextual))))
  go_wp2
  go_ret
  refine ⟨rfl, ?_, ?_, ?_⟩
  · refine At.toSub (by ((repeat' (first | (with_reducible assumption) | (with_reducible apply At.drew) | (with_reducible apply At.drewN) | (with_reducible refine At.newAt ?_; (simp; done)) | (with_reducible apply At.alloc) | (with_reducible apply At.setSub) | (with_reducible apply At.setSub0) | (with_reducible apply At.setOther))); all_goals (first | assumption | (simp; done) | (first | assumption | (apply Ne.symm; assumption) | omega | (simp only []; omega) | (simp; done) | (simp; omega))))) ?_
    first | rfl | (simp [inc]; done)
  · ((repeat' (first | (with_reducible assumption) | (with_reducible apply MemAt.drew) | (with_reducible apply MemAt.drewN) | (with_reducible apply MemAt.alloc) | (with_reducible apply MemAt.setN))); all_goals (first | assumption | (simp only []; assumption) | (refine nl _ ?_; first | omega | (simp only []; omega) | (simp; omega))))
  · ((repeat' (first | (with_reducible assumption) | (with_reducible exact Fr.refl _ _) | (with_reducible refine Fr.drew ?_) | (with_reducible refine Fr.drewN ?_ _) | (with_reducible refine Fr.alloc ?_ _) | (with_reducible refine Fr.setCell ?_ ?_ _))); all_goals (first | (left; simp only [List.mem_cons, true_or, or_true]; done) | (left; simp only [List.mem_cons, List.mem_append, true_or, or_true]; done) | (right; simp only []; omega) | (right; simp; done) | (right; simp; omega) | (left; simp; done)))
theorem take_any (e : Env) (w : World) (l : Loc) (m : Mem) (h : MemAt w l m) (t : Take) (b o T : Nat) (vs : Array Value) (hb : At w b T (splice vs o t.arr)) (ho : o + 5 ≤ vs.size) (n1 : b ∉ l.list) :
    Calls Try.prog 111 #[.pointer (some ⟨b, o, none⟩), .agg (e.arr l)] w fun r w' =>
      r = .returned (.bool (t.step e m).2.2) ∧ At w' b T (splice vs o (t.step e m).1.arr) ∧ MemAt w' l (t.step e m).2.1 ∧ Fr (b :: l.list) w w' := by
  obtain ⟨pc, top, next, slot, ok⟩ := t
  unfold Take.step
  by_cases h0 : pc = 0
  · subst h0; exact take0 e w l m h top next slot ok b o T vs hb ho n1
  · by_cases h1 : pc = 1
    · subst h1; exact take1 e w l m h top next slot ok b o T vs hb ho n1
    · simp only [if_neg h0, if_neg h1]; exact take2 e w l m h pc top next slot ok b o T vs h0 h1 hb ho n1
theorem takeGot_any (w : World) (t : Take) (b o T : Nat) (vs : Array Value) (hb : At w b T (splice vs o t.arr)) (ho : o + 5 ≤ vs.size) :
    Calls Try.prog 112 #[.pointer (some ⟨b, o, none⟩)] w fun r w' => r = .returned (.tuple #[.int .i64 t.got.1, .bool t.got.2]) ∧ w = w' := by
  obtain ⟨pc, top, next, slot, ok⟩ := t
  obtain ⟨p0, p1, p2, p3, p4, f0⟩ := take_facts hb ho
  cases ok with
  | true =>
    go_enter Try.func112, Try.ntmps112
    go_wp2
    go_ret2
    exact ⟨rfl, rfl⟩
  | false =>
    go_enter Try.func112, Try.ntmps112
    go_wp2
    go_ret2
    exact ⟨rfl, rfl⟩
end Go.Proofs.Ytkgbifagledcaaa.FL
