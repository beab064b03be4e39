/-
  The contracts of layer 10 (access): what its steps are made of.
-/
import Derived.Test.YtkgbifagledcaaaJ
import Derived.Deep.DeepCutAuto
namespace Go.Proofs.Ytkgbifagledcaaa.FL
open Go Go.RowKit
set_option linter.unusedVariables false
set_option linter.unusedSimpArgs false
set_option maxRecDepth 20000
set_option maxHeartbeats 4000000
attribute [local go_sem ↓] Go.wp_at_zero Go.wp_at_succ
attribute [local go_sem] fieldSlot0 fieldSlot1 fieldSlot2 fieldSlot3 fieldChunk0 fieldChunk1 fieldChunk3 fieldCell0

abbrev Access.arr (a : Access) (hv : Value) : Array Value := #[.int .i64 a.x.kind, .int .u64 a.x.handle, .int .i64 a.x.index, .int .i64 a.x.value, .int .i64 a.x.old, .bool a.own, .int .i64 a.h.slot, .int .i64 a.h.gen, .int .i64 a.pc, .int .u64 a.w, .int .u64 a.cell, .int .i64 a.seen, .int .i64 a.read, .int .i64 a.size, hv, .int .i64 a.out.e, .int .u64 a.out.handle, .int .i64 a.out.value, .int .i64 a.out.stamp]
abbrev Want.arr (x : Want) : Array Value := #[.int .i64 x.kind, .int .u64 x.handle, .int .i64 x.index, .int .i64 x.value, .int .i64 x.old]
theorem newAccess_any (w : World) (x : Want) (own : Bool) :
    Calls Try.prog 27 #[.agg x.arr, .bool own] w fun r w' => ∃ b, r = .returned (.pointer (some ⟨b, 0, none⟩)) ∧ w.heap.size ≤ b ∧ At w' b 115 ((Access.new x own).arr (.pointer none)) ∧ Fr [] w w' := by
  go_enter Try.func27, Try.ntmps27
  go_wp2
  go_ret
  exact ⟨_, rfl, by simp, At.newAt (by simp), by ((repeat' (first | (with_reducible assumption) | (with_reducible exact Fr.refl _ _) | (with_reducible refine Fr.drew ?_) | (with_reducible refine Fr.drewN ?_ _) | (with_reducible refine Fr.alloc ?_ _) | (with_reducible refine Fr.setCell ?_ ?_ _))); all_goals (first | (left; simp only [List.mem_cons, true_or, or_true]; done) | (left; simp only [List.mem_cons, List.mem_append, true_or, or_true]; done) | (right; simp only []; omega) | (right; simp; done) | (right; simp; omega) | (left; simp; done)))⟩
theorem accessDone_any (w : World) (xk xh xi xv xo : Int) (own : Bool) (hs hg pc aw cell seen read size : Int) (hv : Value) (o0 o1 o2 o3 : Int) (b : Nat) (hb : At w b 115 #[.int .i64 xk, .int .u64 xh, .int .i64 xi, .int .i64 xv, .int .i64 xo, .bool own, .int .i64 hs, .int .i64 hg, .int .i64 pc, .int .u64 aw, .int .u64 cell, .int .i64 seen, .int .i64 read, .int .i64 size, hv, .int .i64 o0, .int .u64 o1, .int .i64 o2, .int .i64 o3]) :
    Calls Try.prog 30 #[.pointer (some ⟨b, 0, none⟩)] w fun r w' => r = .returned (.agg #[.int .i64 o0, .int .u64 o1, .int .i64 o2, .int .i64 o3]) ∧ Fr [] w w' := by
  have p0 := hb.cell
  have f0 := hb.frozen
  have lb := hb.lt
  go_enter Try.func30, Try.ntmps30
  go_wp2
  go_returns
  exact ⟨rfl, by ((repeat' (first | (with_reducible assumption) | (with_reducible exact Fr.refl _ _) | (with_reducible refine Fr.drew ?_) | (with_reducible refine Fr.drewN ?_ _) | (with_reducible refine Fr.alloc ?_ _) | (with_reducible refine Fr.setCell ?_ ?_ _))); all_goals (first | (left; simp only [List.mem_cons, true_or, or_true]; done) | (left; simp only [List.mem_cons, List.mem_append, true_or, or_true]; done) | (right; simp only []; omega) | (right; simp; done) | (right; simp; omega) | (left; simp; done)))⟩
theorem accessEnd_any (w : World) (x v st : Int) (xk xh xi xv xo : Int) (own : Bool) (hs hg pc aw cell seen read size : Int) (hv : Value) (o0 o1 o2 o3 : Int) (b : Nat) (hb : At w b 115 #[.int .i64 xk, .int .u64 xh, .int .i64 xi, .int .i64 xv, .int .i64 xo, .bool own, .int .i64 hs, .int .i64 hg, .int .i64 pc, .int .u64 aw, .int .u64 cell, .int .i64 seen, .int .i64 read, .int .i64 size, hv, .int .i64 o0, .int .u64 o1, .int .i64 o2, .int .i64 o3]) :
    Calls Try.prog 74 #[.pointer (some ⟨b, 0, none⟩), .int .i64 x, .int .i64 v, .int .i64 st] w fun r w' => r = .returned (.bool true) ∧ At w' b 115 #[.int .i64 xk, .int .u64 xh, .int .i64 xi, .int .i64 xv, .int .i64 xo, .bool own, .int .i64 hs, .int .i64 hg, .int .i64 pc, .int .u64 aw, .int .u64 cell, .int .i64 seen, .int .i64 read, .int .i64 size, hv, .int .i64 x, .int .u64 0, .int .i64 v, .int .i64 st] ∧ Fr [b] w w' := by
  have p0 := hb.cell
  have f0 := hb.frozen
  have lb := hb.lt
  go_enter Try.func74, Try.ntmps74
  go_wp2
  go_ret
  refine ⟨rfl, ?_, ?_⟩
  · (refine At.to (by ((repeat' (first | (with_reducible assumption) | (with_reducible apply At.drew) | (with_reducible apply At.drewN) | (with_reducible refine At.newAt ?_; (simp; done)) | (with_reducible apply At.alloc) | (with_reducible apply At.set) | (with_reducible apply At.setOther))); all_goals (first | assumption | (apply Ne.symm; assumption) | omega | (simp only []; omega) | (simp; done) | (simp; omega)))) ?_; (first | rfl | (simp [inc]; done) | (simp [inc, IntWalk.i64_left]; done)))
  · ((repeat' (first | (with_reducible assumption) | (with_reducible exact Fr.refl _ _) | (with_reducible refine Fr.drew ?_) | (with_reducible refine Fr.drewN ?_ _) | (with_reducible refine Fr.alloc ?_ _) | (with_reducible refine Fr.setCell ?_ ?_ _))); all_goals (first | (left; simp only [List.mem_cons, true_or, or_true]; done) | (left; simp only [List.mem_cons, List.mem_append, true_or, or_true]; done) | (right; simp only []; omega) | (right; simp; done) | (right; simp; omega) | (left; simp; done)))
theorem accessAt_any (w : World) (xk xh xi xv xo : Int) (own : Bool) (hs hg pc aw cell seen read size : Int) (hv : Value) (o0 o1 o2 o3 : Int) (b : Nat) (hb : At w b 115 #[.int .i64 xk, .int .u64 xh, .int .i64 xi, .int .i64 xv, .int .i64 xo, .bool own, .int .i64 hs, .int .i64 hg, .int .i64 pc, .int .u64 aw, .int .u64 cell, .int .i64 seen, .int .i64 read, .int .i64 size, hv, .int .i64 o0, .int .u64 o1, .int .i64 o2, .int .i64 o3]) :
    Calls Try.prog 78 #[.pointer (some ⟨b, 0, none⟩)] w fun r w' => r = .returned (.int .i64 (wrap64 (wrap64 ((slotOf aw).addr + 1) + xi))) ∧ Fr [] w w' := by
  have p0 := hb.cell
  have f0 := hb.frozen
  have lb := hb.lt
  go_enter Try.func78, Try.ntmps78
  go_wp2_with fail
  go_region_held3 (fun w' => w'.cell? ⟨b, 2, none⟩ = some (.int .i64 xi) ∧ w'.cell? ⟨b, 9, none⟩ = some (.int .u64 aw)) (((try dsimp only); (repeat' apply And.intro); all_goals (first | with_reducible exact b1.cell | with_reducible exact p1 | with_reducible assumption | (refine At.cell (t := 30) ?_; ((repeat' (first | (with_reducible assumption) | (with_reducible apply At.drew) | (with_reducible apply At.drewN) | (with_reducible refine At.newAt ?_; (simp; done)) | (with_reducible apply At.alloc) | (with_reducible apply At.set) | (with_reducible apply At.setOther))); all_goals (first | assumption | (apply Ne.symm; assumption) | omega | (simp only []; omega) | (simp; done) | (simp; omega)))) | (refine At.cells (by ((repeat' (first | (with_reducible assumption) | (with_reducible apply At.drew) | (with_reducible apply At.drewN) | (with_reducible refine At.newAt ?_; (simp; done)) | (with_reducible apply At.alloc) | (with_reducible apply At.set) | (with_reducible apply At.setOther))); all_goals (first | assumption | (apply Ne.symm; assumption) | omega | (simp only []; omega) | (simp; done) | (simp; omega)))) ?_; (first | rfl | (simp; done))) | (rw [World.cell?_setCell_other _ _ _ _ (by simp)]; assumption) | (refine (At.cell (by ((repeat' (first | (with_reducible assumption) | (with_reducible apply At.drew) | (with_reducible apply At.drewN) | (with_reducible refine At.newAt ?_; (simp; done)) | (with_reducible apply At.alloc) | (with_reducible apply At.set) | (with_reducible apply At.setOther))); all_goals (first | assumption | (apply Ne.symm; assumption) | omega | (simp only []; omega) | (simp; done) | (simp; omega)))) _).trans ?_; (simp; done)) | (go_keep; done)))) (first | (go_at_call 77; (try simp only [IntWalk.i64_left]); refine (slotOf_any _ _).mono ?_; rintro r w1 ⟨rfl, f1⟩; have hb1 := At.fr (b := b) (by ((repeat' (first | (with_reducible assumption) | (with_reducible apply At.drew) | (with_reducible apply At.drewN) | (with_reducible refine At.newAt ?_; (simp; done)) | (with_reducible apply At.alloc) | (with_reducible apply At.set) | (with_reducible apply At.setOther))); all_goals (first | assumption | (apply Ne.symm; assumption) | omega | (simp only []; omega) | (simp; done) | (simp; omega)))) f1 (by simp); (try simp only [List.setIfInBounds_toArray, List.set_cons_zero, List.set_cons_succ] at hb1); have p1 := hb1.cell; have g1 := hb1.frozen; have lb1 := hb1.lt; have F1 := (Fr.nil (S := []) (a := w) (by ((repeat' (first | (with_reducible assumption) | (with_reducible exact Fr.refl _ _) | (with_reducible refine Fr.drew ?_) | (with_reducible refine Fr.drewN ?_ _) | (with_reducible refine Fr.alloc ?_ _) | (with_reducible refine Fr.setCell ?_ ?_ _))); all_goals (first | (left; simp only [List.mem_cons, true_or, or_true]; done) | (left; simp only [List.mem_cons, List.mem_append, true_or, or_true]; done) | (right; simp only []; omega) | (right; simp; done) | (right; simp; omega) | (left; simp; done)))) f1)))
  go_wp2
  go_ret
  exact ⟨ret_int (by (first | rfl | (simp [inc]; done) | (simp [inc, IntWalk.i64_left]; done))), by ((repeat' (first | (with_reducible assumption) | (with_reducible exact Fr.refl _ _) | (with_reducible refine Fr.drew ?_) | (with_reducible refine Fr.drewN ?_ _) | (with_reducible refine Fr.alloc ?_ _) | (with_reducible refine Fr.setCell ?_ ?_ _))); all_goals (first | (left; simp only [List.mem_cons, true_or, or_true]; done) | (left; simp only [List.mem_cons, List.mem_append, true_or, or_true]; done) | (right; simp only []; omega) | (right; simp; done) | (right; simp; omega) | (left; simp; done)))⟩

/-- What stands where the ways through the first region of next meet. -/
def Cut2 (w wx : World) (b : Nat) (T : TypeId) (arr : Array Value) (c : CellW) (s : SlotW) (s3 s4 : Value) : Prop :=
  ∃ k3 k4, s3 = .pointer (some ⟨k3, 0, none⟩) ∧ s4 = .pointer (some ⟨k4, 0, none⟩) ∧ At wx k3 127 #[.int .i64 c.value, .bool c.frozen, .int .i64 c.ver] ∧ At wx k4 59 #[.int .i64 s.state, .int .i64 s.addr, .int .i64 s.gen, .int .i64 s.ver] ∧ At wx b T arr ∧ Fr [] w wx
def nextOf (xk xo : Int) (c : CellW) (s : SlotW) : Int :=
  if xk = 1 ∨ (xk = 3 ∧ c.value ≠ xo) then 6 else if s.state = 4 then 4 else if c.frozen = false ∨ c.ver < s.ver then 5 else if c.ver = s.ver ∧ s.state = 2 then 3 else 0
theorem Access.next_eq (a : Access) : a.next = nextOf a.x.kind a.x.old (cellOf a.cell) (slotOf a.w) := rfl
theorem of_beq (a b : Int) (h : (a == b) = true) : a = b := by simpa using h
theorem next_any (w : World) (xk xh xi xv xo : Int) (own : Bool) (hs hg pc aw cell seen read size : Int) (hv : Value) (o0 o1 o2 o3 : Int) (b : Nat) (hb : At w b 115 #[.int .i64 xk, .int .u64 xh, .int .i64 xi, .int .i64 xv, .int .i64 xo, .bool own, .int .i64 hs, .int .i64 hg, .int .i64 pc, .int .u64 aw, .int .u64 cell, .int .i64 seen, .int .i64 read, .int .i64 size, hv, .int .i64 o0, .int .u64 o1, .int .i64 o2, .int .i64 o3]) :
    Calls Try.prog 79 #[.pointer (some ⟨b, 0, none⟩)] w fun r w' => r = .returned (.int .i64 (nextOf xk xo (cellOf cell) (slotOf aw))) ∧ Fr [] w w' := by
  have p0 := hb.cell
  have f0 := hb.frozen
  have lb := hb.lt
  generalize hc : cellOf cell = c
  generalize hs' : slotOf aw = s
  obtain ⟨cv, cf, cw⟩ := c
  obtain ⟨ss, sa, sg, sv⟩ := s
  have HC := hid hc
  have HS := hid hs'
  clear hc hs'
  go_enter Try.func79, Try.ntmps79
  go_upto_region 1 with (fail)
  go_cut [3, 4] (fun s3 s4 wx => Cut2 w wx b 115 #[.int .i64 xk, .int .u64 xh, .int .i64 xi, .int .i64 xv, .int .i64 xo, .bool own, .int .i64 hs, .int .i64 hg, .int .i64 pc, .int .u64 aw, .int .u64 cell, .int .i64 seen, .int .i64 read, .int .i64 size, hv, .int .i64 o0, .int .u64 o1, .int .i64 o2, .int .i64 o3] ⟨cv, cf, cw⟩ ⟨ss, sa, sg, sv⟩ s3 s4)
  case first =>
    go_region_held3 (fun w' => w'.cell? ⟨b, 9, none⟩ = some (.int .u64 aw) ∧ w'.cell? ⟨b, 10, none⟩ = some (.int .u64 cell)) (((try dsimp only); (repeat' apply And.intro); all_goals (first | with_reducible exact b1.cell | with_reducible exact p1 | with_reducible assumption | (refine At.cell (t := 30) ?_; ((repeat' (first | (with_reducible assumption) | (with_reducible apply At.drew) | (with_reducible apply At.drewN) | (with_reducible refine At.newAt ?_; (simp; done)) | (with_reducible apply At.alloc) | (with_reducible apply At.set) | (with_reducible apply At.setOther))); all_goals (first | assumption | (apply Ne.symm; assumption) | omega | (simp only []; omega) | (simp; done) | (simp; omega)))) | (refine At.cells (by ((repeat' (first | (with_reducible assumption) | (with_reducible apply At.drew) | (with_reducible apply At.drewN) | (with_reducible refine At.newAt ?_; (simp; done)) | (with_reducible apply At.alloc) | (with_reducible apply At.set) | (with_reducible apply At.setOther))); all_goals (first | assumption | (apply Ne.symm; assumption) | omega | (simp only []; omega) | (simp; done) | (simp; omega)))) ?_; (first | rfl | (simp; done))) | (rw [World.cell?_setCell_other _ _ _ _ (by simp)]; assumption) | (refine (At.cell (by ((repeat' (first | (with_reducible assumption) | (with_reducible apply At.drew) | (with_reducible apply At.drewN) | (with_reducible refine At.newAt ?_; (simp; done)) | (with_reducible apply At.alloc) | (with_reducible apply At.set) | (with_reducible apply At.setOther))); all_goals (first | assumption | (apply Ne.symm; assumption) | omega | (simp only []; omega) | (simp; done) | (simp; omega)))) _).trans ?_; (simp; done)) | (go_keep; done)))) (first | (go_at_call 84; refine (cellOf_exact _ _).mono ?_; rw [HC.out]; rintro r w9 ⟨rfl, rfl⟩) | (go_at_call 77; refine (slotOf_exact _ _).mono ?_; rw [HS.out]; rintro r w9 ⟨rfl, rfl⟩))
    all_goals (go_wp2_with fail; go_meet; refine ⟨_, _, rfl, rfl, ?_, ?_, ?_, ?_⟩; (focus (refine At.to (by ((repeat' (first | (with_reducible assumption) | (with_reducible apply At.drew) | (with_reducible apply At.drewN) | (with_reducible refine At.newAt ?_; (simp; done)) | (with_reducible apply At.alloc) | (with_reducible apply At.set) | (with_reducible apply At.setOther))); all_goals (first | assumption | (apply Ne.symm; assumption) | omega | (simp only []; omega) | (simp; done) | (simp; omega)))) ?_; (first | rfl | (simp [inc]; done) | (simp [inc, IntWalk.i64_left]; done)))); (focus (refine At.to (by ((repeat' (first | (with_reducible assumption) | (with_reducible apply At.drew) | (with_reducible apply At.drewN) | (with_reducible refine At.newAt ?_; (simp; done)) | (with_reducible apply At.alloc) | (with_reducible apply At.set) | (with_reducible apply At.setOther))); all_goals (first | assumption | (apply Ne.symm; assumption) | omega | (simp only []; omega) | (simp; done) | (simp; omega)))) ?_; (first | rfl | (simp [inc]; done) | (simp [inc, IntWalk.i64_left]; done)))); (focus (refine At.to (by ((repeat' (first | (with_reducible assumption) | (with_reducible apply At.drew) | (with_reducible apply At.drewN) | (with_reducible refine At.newAt ?_; (simp; done)) | (with_reducible apply At.alloc) | (with_reducible apply At.set) | (with_reducible apply At.setOther))); all_goals (first | assumption | (apply Ne.symm; assumption) | omega | (simp only []; omega) | (simp; done) | (simp; omega)))) ?_; (first | rfl | (simp [inc]; done) | (simp [inc, IntWalk.i64_left]; done)))); (focus ((repeat' (first | (with_reducible assumption) | (with_reducible exact Fr.refl _ _) | (with_reducible refine Fr.drew ?_) | (with_reducible refine Fr.drewN ?_ _) | (with_reducible refine Fr.alloc ?_ _) | (with_reducible refine Fr.setCell ?_ ?_ _))); all_goals (first | (left; simp only [List.mem_cons, true_or, or_true]; done) | (left; simp only [List.mem_cons, List.mem_append, true_or, or_true]; done) | (right; simp only []; omega) | (right; simp; done) | (right; simp; omega) | (left; simp; done)))))
  case rest =>
    obtain ⟨k3, k4, rfl, rfl, L3, L4, hb1, F1⟩ := hcut
    have c3 := L3.cell
    have c4 := L4.cell
    have p1 := hb1.cell
    cases d1 : (xk == 1) with
    | true =>
      go_wp2_with fail
      go_ret
      exact ⟨ret_int (by have := of_beq _ _ d1; simp [nextOf, this]), by ((repeat' (first | (with_reducible assumption) | (with_reducible exact Fr.refl _ _) | (with_reducible refine Fr.drew ?_) | (with_reducible refine Fr.drewN ?_ _) | (with_reducible refine Fr.alloc ?_ _) | (with_reducible refine Fr.setCell ?_ ?_ _))); all_goals (first | (left; simp only [List.mem_cons, true_or, or_true]; done) | (left; simp only [List.mem_cons, List.mem_append, true_or, or_true]; done) | (right; simp only []; omega) | (right; simp; done) | (right; simp; omega) | (left; simp; done)))⟩
    | false =>
      have e1 : xk ≠ 1 := by intro h; simp [h] at d1
      by_cases k3 : xk = 3 ∧ cv ≠ xo
      · have d2 : (xk == 3) = true := by simp [k3.1]
        have d3 : (cv != xo) = true := by simp [k3.2]
        have K3 := hid k3
        have E1 := hid e1
        clear k3 e1
        go_wp2_with fail
        go_quiet (fail)
        go_wp2
        go_ret
        exact ⟨ret_int (by simp [nextOf, K3.out]), by ((repeat' (first | (with_reducible assumption) | (with_reducible exact Fr.refl _ _) | (with_reducible refine Fr.drew ?_) | (with_reducible refine Fr.drewN ?_ _) | (with_reducible refine Fr.alloc ?_ _) | (with_reducible refine Fr.setCell ?_ ?_ _))); all_goals (first | (left; simp only [List.mem_cons, true_or, or_true]; done) | (left; simp only [List.mem_cons, List.mem_append, true_or, or_true]; done) | (right; simp only []; omega) | (right; simp; done) | (right; simp; omega) | (left; simp; done)))⟩
      · have d4' : (xk == 3) = false ∨ ((xk == 3) = true ∧ (cv != xo) = false) := by
          by_cases q : xk = 3
          · right; simp only [q, true_and, ne_eq, Decidable.not_not] at k3; simp [q, k3]
          · left; simpa using q
        have e2 : ¬ (xk = 1 ∨ (xk = 3 ∧ cv ≠ xo)) := by rintro (h | h) <;> contradiction
        have E2 := hid e2
        clear k3 e1 e2
        rcases d4' with d2 | ⟨d2, d3⟩
        · cases d4 : (ss == 4) with
          | true =>
            go_wp2_with fail
            go_quiet (fail)
            go_wp2
            go_ret
            exact ⟨ret_int (by have := of_beq _ _ d4; simp only [nextOf]; rw [if_neg E2.out]; simp [this]), by ((repeat' (first | (with_reducible assumption) | (with_reducible exact Fr.refl _ _) | (with_reducible refine Fr.drew ?_) | (with_reducible refine Fr.drewN ?_ _) | (with_reducible refine Fr.alloc ?_ _) | (with_reducible refine Fr.setCell ?_ ?_ _))); all_goals (first | (left; simp only [List.mem_cons, true_or, or_true]; done) | (left; simp only [List.mem_cons, List.mem_append, true_or, or_true]; done) | (right; simp only []; omega) | (right; simp; done) | (right; simp; omega) | (left; simp; done)))⟩
          | false =>
            have e4 : ss ≠ 4 := by intro h; simp [h] at d4
            have E4 := hid e4
            clear e4
            cases cf with
            | false =>
              go_wp2_with fail
              go_quiet (fail)
              go_wp2
              go_ret
              exact ⟨ret_int (by simp only [nextOf]; rw [if_neg E2.out, if_neg E4.out]; simp), by ((repeat' (first | (with_reducible assumption) | (with_reducible exact Fr.refl _ _) | (with_reducible refine Fr.drew ?_) | (with_reducible refine Fr.drewN ?_ _) | (with_reducible refine Fr.alloc ?_ _) | (with_reducible refine Fr.setCell ?_ ?_ _))); all_goals (first | (left; simp only [List.mem_cons, true_or, or_true]; done) | (left; simp only [List.mem_cons, List.mem_append, true_or, or_true]; done) | (right; simp only []; omega) | (right; simp; done) | (right; simp; omega) | (left; simp; done)))⟩
            | true =>
              by_cases q6 : cw < sv
              · have d6 : decide (cw < sv) = true := by simpa using q6
                have Q6 := hid q6
                clear q6
                go_wp2_with fail
                go_quiet (fail)
                go_wp2
                go_ret
                exact ⟨ret_int (by simp only [nextOf]; rw [if_neg E2.out, if_neg E4.out, if_pos (Or.inr Q6.out)]), by ((repeat' (first | (with_reducible assumption) | (with_reducible exact Fr.refl _ _) | (with_reducible refine Fr.drew ?_) | (with_reducible refine Fr.drewN ?_ _) | (with_reducible refine Fr.alloc ?_ _) | (with_reducible refine Fr.setCell ?_ ?_ _))); all_goals (first | (left; simp only [List.mem_cons, true_or, or_true]; done) | (left; simp only [List.mem_cons, List.mem_append, true_or, or_true]; done) | (right; simp only []; omega) | (right; simp; done) | (right; simp; omega) | (left; simp; done)))⟩
              · have d6 : decide (cw < sv) = false := by simpa using q6
                have q7 : ¬ (true = false ∨ cw < sv) := by simpa using q6
                have Q7 := hid q7
                clear q6 q7
                cases d7 : (cw == sv) with
                | false =>
                  have e7 : cw ≠ sv := by intro h; simp [h] at d7
                  have E7 := hid e7
                  clear e7
                  go_wp2_with fail
                  go_quiet (fail)
                  go_wp2
                  go_ret
                  exact ⟨ret_int (by simp only [nextOf]; rw [if_neg E2.out, if_neg E4.out, if_neg Q7.out, if_neg (fun h => E7.out h.1)]), by ((repeat' (first | (with_reducible assumption) | (with_reducible exact Fr.refl _ _) | (with_reducible refine Fr.drew ?_) | (with_reducible refine Fr.drewN ?_ _) | (with_reducible refine Fr.alloc ?_ _) | (with_reducible refine Fr.setCell ?_ ?_ _))); all_goals (first | (left; simp only [List.mem_cons, true_or, or_true]; done) | (left; simp only [List.mem_cons, List.mem_append, true_or, or_true]; done) | (right; simp only []; omega) | (right; simp; done) | (right; simp; omega) | (left; simp; done)))⟩
                | true =>
                  have e7 : cw = sv := of_beq _ _ d7
                  have E7 := hid e7
                  clear e7
                  cases d8 : (ss == 2) with
                  | true =>
                    have e8 : ss = 2 := of_beq _ _ d8
                    have E8 := hid e8
                    clear e8
                    go_wp2_with fail
                    go_quiet (fail)
                    go_wp2
                    go_ret
                    exact ⟨ret_int (by simp only [nextOf]; rw [if_neg E2.out, if_neg E4.out, if_neg Q7.out, if_pos ⟨E7.out, E8.out⟩]), by ((repeat' (first | (with_reducible assumption) | (with_reducible exact Fr.refl _ _) | (with_reducible refine Fr.drew ?_) | (with_reducible refine Fr.drewN ?_ _) | (with_reducible refine Fr.alloc ?_ _) | (with_reducible refine Fr.setCell ?_ ?_ _))); all_goals (first | (left; simp only [List.mem_cons, true_or, or_true]; done) | (left; simp only [List.mem_cons, List.mem_append, true_or, or_true]; done) | (right; simp only []; omega) | (right; simp; done) | (right; simp; omega) | (left; simp; done)))⟩
                  | false =>
                    have e8 : ss ≠ 2 := by intro h; simp [h] at d8
                    have E8 := hid e8
                    clear e8
                    go_wp2_with fail
                    go_quiet (fail)
                    go_wp2
                    go_ret
                    exact ⟨ret_int (by simp only [nextOf]; rw [if_neg E2.out, if_neg E4.out, if_neg Q7.out, if_neg (fun h => E8.out h.2)]), by ((repeat' (first | (with_reducible assumption) | (with_reducible exact Fr.refl _ _) | (with_reducible refine Fr.drew ?_) | (with_reducible refine Fr.drewN ?_ _) | (with_reducible refine Fr.alloc ?_ _) | (with_reducible refine Fr.setCell ?_ ?_ _))); all_goals (first | (left; simp only [List.mem_cons, true_or, or_true]; done) | (left; simp only [List.mem_cons, List.mem_append, true_or, or_true]; done) | (right; simp only []; omega) | (right; simp; done) | (right; simp; omega) | (left; simp; done)))⟩
        · cases d4 : (ss == 4) with
          | true =>
            go_wp2_with fail
            go_quiet (fail)
            go_wp2
            go_ret
            exact ⟨ret_int (by have := of_beq _ _ d4; simp only [nextOf]; rw [if_neg E2.out]; simp [this]), by ((repeat' (first | (with_reducible assumption) | (with_reducible exact Fr.refl _ _) | (with_reducible refine Fr.drew ?_) | (with_reducible refine Fr.drewN ?_ _) | (with_reducible refine Fr.alloc ?_ _) | (with_reducible refine Fr.setCell ?_ ?_ _))); all_goals (first | (left; simp only [List.mem_cons, true_or, or_true]; done) | (left; simp only [List.mem_cons, List.mem_append, true_or, or_true]; done) | (right; simp only []; omega) | (right; simp; done) | (right; simp; omega) | (left; simp; done)))⟩
          | false =>
            have e4 : ss ≠ 4 := by intro h; simp [h] at d4
            have E4 := hid e4
            clear e4
            cases cf with
            | false =>
              go_wp2_with fail
              go_quiet (fail)
              go_wp2
              go_ret
              exact ⟨ret_int (by simp only [nextOf]; rw [if_neg E2.out, if_neg E4.out]; simp), by ((repeat' (first | (with_reducible assumption) | (with_reducible exact Fr.refl _ _) | (with_reducible refine Fr.drew ?_) | (with_reducible refine Fr.drewN ?_ _) | (with_reducible refine Fr.alloc ?_ _) | (with_reducible refine Fr.setCell ?_ ?_ _))); all_goals (first | (left; simp only [List.mem_cons, true_or, or_true]; done) | (left; simp only [List.mem_cons, List.mem_append, true_or, or_true]; done) | (right; simp only []; omega) | (right; simp; done) | (right; simp; omega) | (left; simp; done)))⟩
            | true =>
              by_cases q6 : cw < sv
              · have d6 : decide (cw < sv) = true := by simpa using q6
                have Q6 := hid q6
                clear q6
                go_wp2_with fail
                go_quiet (fail)
                go_wp2
                go_ret
                exact ⟨ret_int (by simp only [nextOf]; rw [if_neg E2.out, if_neg E4.out, if_pos (Or.inr Q6.out)]), by ((repeat' (first | (with_reducible assumption) | (with_reducible exact Fr.refl _ _) | (with_reducible refine Fr.drew ?_) | (with_reducible refine Fr.drewN ?_ _) | (with_reducible refine Fr.alloc ?_ _) | (with_reducible refine Fr.setCell ?_ ?_ _))); all_goals (first | (left; simp only [List.mem_cons, true_or, or_true]; done) | (left; simp only [List.mem_cons, List.mem_append, true_or, or_true]; done) | (right; simp only []; omega) | (right; simp; done) | (right; simp; omega) | (left; simp; done)))⟩
              · have d6 : decide (cw < sv) = false := by simpa using q6
                have q7 : ¬ (true = false ∨ cw < sv) := by simpa using q6
                have Q7 := hid q7
                clear q6 q7
                cases d7 : (cw == sv) with
                | false =>
                  have e7 : cw ≠ sv := by intro h; simp [h] at d7
                  have E7 := hid e7
                  clear e7
                  go_wp2_with fail
                  go_quiet (fail)
                  go_wp2
                  go_ret
                  exact ⟨ret_int (by simp only [nextOf]; rw [if_neg E2.out, if_neg E4.out, if_neg Q7.out, if_neg (fun h => E7.out h.1)]), by ((repeat' (first | (with_reducible assumption) | (with_reducible exact Fr.refl _ _) | (with_reducible refine Fr.drew ?_) | (with_reducible refine Fr.drewN ?_ _) | (with_reducible refine Fr.alloc ?_ _) | (with_reducible refine Fr.setCell ?_ ?_ _))); all_goals (first | (left; simp only [List.mem_cons, true_or, or_true]; done) | (left; simp only [List.mem_cons, List.mem_append, true_or, or_true]; done) | (right; simp only []; omega) | (right; simp; done) | (right; simp; omega) | (left; simp; done)))⟩
                | true =>
                  have e7 : cw = sv := of_beq _ _ d7
                  have E7 := hid e7
                  clear e7
                  cases d8 : (ss == 2) with
                  | true =>
                    have e8 : ss = 2 := of_beq _ _ d8
                    have E8 := hid e8
                    clear e8
                    go_wp2_with fail
                    go_quiet (fail)
                    go_wp2
                    go_ret
                    exact ⟨ret_int (by simp only [nextOf]; rw [if_neg E2.out, if_neg E4.out, if_neg Q7.out, if_pos ⟨E7.out, E8.out⟩]), by ((repeat' (first | (with_reducible assumption) | (with_reducible exact Fr.refl _ _) | (with_reducible refine Fr.drew ?_) | (with_reducible refine Fr.drewN ?_ _) | (with_reducible refine Fr.alloc ?_ _) | (with_reducible refine Fr.setCell ?_ ?_ _))); all_goals (first | (left; simp only [List.mem_cons, true_or, or_true]; done) | (left; simp only [List.mem_cons, List.mem_append, true_or, or_true]; done) | (right; simp only []; omega) | (right; simp; done) | (right; simp; omega) | (left; simp; done)))⟩
                  | false =>
                    have e8 : ss ≠ 2 := by intro h; simp [h] at d8
                    have E8 := hid e8
                    clear e8
                    go_wp2_with fail
                    go_quiet (fail)
                    go_wp2
                    go_ret
                    exact ⟨ret_int (by simp only [nextOf]; rw [if_neg E2.out, if_neg E4.out, if_neg Q7.out, if_neg (fun h => E8.out h.2)]), by ((repeat' (first | (with_reducible assumption) | (with_reducible exact Fr.refl _ _) | (with_reducible refine Fr.drew ?_) | (with_reducible refine Fr.drewN ?_ _) | (with_reducible refine Fr.alloc ?_ _) | (with_reducible refine Fr.setCell ?_ ?_ _))); all_goals (first | (left; simp only [List.mem_cons, true_or, or_true]; done) | (left; simp only [List.mem_cons, List.mem_append, true_or, or_true]; done) | (right; simp only []; omega) | (right; simp; done) | (right; simp; omega) | (left; simp; done)))⟩

end Go.Proofs.Ytkgbifagledcaaa.FL
