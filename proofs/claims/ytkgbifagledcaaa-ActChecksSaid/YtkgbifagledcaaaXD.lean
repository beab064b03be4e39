/-
  The contract of the statements' own awake of layer 15; which acts may be.
-/
import Derived.Test.YtkgbifagledcaaaXC
import Derived.Deep.QuietTactic
import Derived.BigQuiet
namespace Go.Proofs.Ytkgbifagledcaaa.FL
open Go Go.RowKit
set_option linter.unusedVariables false
set_option linter.unusedSimpArgs false
set_option maxRecDepth 20000
set_option maxHeartbeats 4000000
attribute [local go_sem ↓] Go.wp_at_zero Go.wp_at_succ
attribute [local go_sem] fieldSlot0 fieldSlot1 fieldSlot2 fieldSlot3 fieldChunk0 fieldChunk1 fieldChunk3 fieldCell0
attribute [local go_sem] fieldDone0 fieldDone1 fieldDone2 fieldDone3

def aw0 : Mem := (arenaCfg 1 4 2 20).fresh
def awE : Env := arenaEnv 1 4 2 20
def awD : Done × Mem := doAct awE aw0 ⟨1, 2, 0, 0, 0, 0, false⟩
def awA : Done × Mem := doAct awE awD.2 ⟨4, 0, awD.1.handle, 0, 7, 0, false⟩
def awB : Done × Mem := doAct awE awA.2 ⟨3, 0, awD.1.handle, 0, 0, 0, false⟩
theorem aw_facts : (awD.1.handle == 65536) = true ∧ (awA.1.e == 0) = true ∧ (awB.1.e == 0) = true ∧ (awB.1.value == 7) = true ∧ (awB.2.peek (pinA 0) == 0) = true := ⟨by decide +kernel, by decide +kernel, by decide +kernel, by decide +kernel, by decide +kernel⟩
theorem aw_okD : Act.runOk awE 500 (Act.new ⟨1, 2, 0, 0, 0, 0, false⟩) aw0 = true := by kernel_rfl
theorem aw_okA : Act.runOk awE 500 (Act.new ⟨4, 0, awD.1.handle, 0, 7, 0, false⟩) awD.2 = true := by kernel_rfl
theorem aw_okB : Act.runOk awE 500 (Act.new ⟨3, 0, awD.1.handle, 0, 0, 0, false⟩) awA.2 = true := by kernel_rfl
theorem awake15_any (w : World) : Calls Try.prog 58 #[] w fun r w' => r = .returned (.bool true) ∧ Fr [] w w' := by
  obtain ⟨d1, d2, d3, d4, d5⟩ := aw_facts
  have hc := fun w => arena_any 1 4 2 20 w (by decide +kernel) (by decide +kernel) (by decide +kernel) (by decide +kernel)
  have kD := aw_okD
  have kA := aw_okA
  have kB := aw_okB
  have hD : doAct awE aw0 ⟨1, 2, 0, 0, 0, 0, false⟩ = awD := rfl
  have hA : doAct awE awD.2 ⟨4, 0, awD.1.handle, 0, 7, 0, false⟩ = awA := rfl
  have hB : doAct awE awA.2 ⟨3, 0, awD.1.handle, 0, 0, 0, false⟩ = awB := rfl
  generalize awB = B at d3 d4 d5 hB
  generalize awA = A at d2 hA hB kB
  generalize awD = D at d1 hD hA hB kA kB
  simp only [show (arenaCfg 1 4 2 20).fresh = aw0 from rfl, show arenaEnv 1 4 2 20 = awE from rfl] at hc
  generalize awE = e at hc kD kA kB hD hA hB
  generalize aw0 = m at hc kD hD
  have HC := hid hc
  have HD := hid hD
  have HA := hid hA
  have HB := hid hB
  have KD := hid kD
  have KA := hid kA
  have KB := hid kB
  clear hc hD hA hB kD kA kB
  go_enter Try.func58, Try.ntmps58
  go_wp2_with fail
  refine (HC.out _).mono ?_
  rintro r wa ⟨l, rfl, hl, h, fa⟩
  have lm := h.hd.lt
  have nl : ∀ k, wa.heap.size ≤ k → k ∉ l.list := fun k hk => h.nin hk
  have HL := hid hl
  have FA := hid fa
  clear hl fa
  go_wp2_with fail
  refine (doAct_any e _ l m (by ((repeat' (first | (with_reducible assumption) | (with_reducible apply MemAt.drew) | (with_reducible apply MemAt.drewN) | (with_reducible apply MemAt.alloc) | (with_reducible apply MemAt.setN))); all_goals (first | assumption | (simp only []; assumption) | (refine nl _ ?_; first | omega | (simp only []; omega) | (simp; omega))))) ⟨1, 2, 0, 0, 0, 0, false⟩ (by decide) KD.out).mono ?_
  rw [HD.out]
  rintro r w1 ⟨rfl, h1, f1⟩
  have b1 := At.fr (b := wa.heap.size) (t := 30) (vs := e.arr l) (by ((repeat' (first | (with_reducible assumption) | (with_reducible apply At.drew) | (with_reducible apply At.drewN) | (with_reducible refine At.newAt ?_; (simp; done)) | (with_reducible apply At.alloc) | (with_reducible apply At.set) | (with_reducible apply At.setOther))); all_goals (first | assumption | (apply Ne.symm; assumption) | omega | (simp only []; omega) | (simp; done) | (simp; omega)))) f1 (nl _ (by omega))
  have c1 := b1.cell
  have le1 := b1.lt
  have F1 := Fr.sub (S := l.list) (a := wa) (by ((repeat' (first | (with_reducible assumption) | (with_reducible exact Fr.refl _ _) | (with_reducible refine Fr.drew ?_) | (with_reducible refine Fr.drewN ?_ _) | (with_reducible refine Fr.alloc ?_ _) | (with_reducible refine Fr.setCell ?_ ?_ _))); all_goals (first | (left; simp only [List.mem_cons, true_or, or_true]; done) | (left; simp only [List.mem_cons, List.mem_append, true_or, or_true]; done) | (right; simp only []; omega) | (right; simp; done) | (right; simp; omega) | (left; simp; done)))) f1 (by simp)
  clear f1
  go_wp2_with fail
  refine (doAct_any e _ l _ (by ((repeat' (first | (with_reducible assumption) | (with_reducible apply MemAt.drew) | (with_reducible apply MemAt.drewN) | (with_reducible apply MemAt.alloc) | (with_reducible apply MemAt.setN))); all_goals (first | assumption | (simp only []; assumption) | (refine nl _ ?_; first | omega | (simp only []; omega) | (simp; omega))))) ⟨4, 0, D.1.handle, 0, 7, 0, false⟩ (by simp [ActX.check]) KA.out).mono ?_
  rw [HA.out]
  rintro r w2 ⟨rfl, h2, f2⟩
  have b1 := At.fr (b := wa.heap.size) (t := 30) (vs := e.arr l) (by ((repeat' (first | (with_reducible assumption) | (with_reducible apply At.drew) | (with_reducible apply At.drewN) | (with_reducible refine At.newAt ?_; (simp; done)) | (with_reducible apply At.alloc) | (with_reducible apply At.set) | (with_reducible apply At.setOther))); all_goals (first | assumption | (apply Ne.symm; assumption) | omega | (simp only []; omega) | (simp; done) | (simp; omega)))) f2 (nl _ (by omega))
  have c1 := b1.cell
  have le1 := b1.lt
  have F1 := Fr.sub (S := l.list) (a := wa) (by ((repeat' (first | (with_reducible assumption) | (with_reducible exact Fr.refl _ _) | (with_reducible refine Fr.drew ?_) | (with_reducible refine Fr.drewN ?_ _) | (with_reducible refine Fr.alloc ?_ _) | (with_reducible refine Fr.setCell ?_ ?_ _))); all_goals (first | (left; simp only [List.mem_cons, true_or, or_true]; done) | (left; simp only [List.mem_cons, List.mem_append, true_or, or_true]; done) | (right; simp only []; omega) | (right; simp; done) | (right; simp; omega) | (left; simp; done)))) f2 (by simp)
  clear f2
  go_wp2_with fail
  refine (doAct_any e _ l _ (by ((repeat' (first | (with_reducible assumption) | (with_reducible apply MemAt.drew) | (with_reducible apply MemAt.drewN) | (with_reducible apply MemAt.alloc) | (with_reducible apply MemAt.setN))); all_goals (first | assumption | (simp only []; assumption) | (refine nl _ ?_; first | omega | (simp only []; omega) | (simp; omega))))) ⟨3, 0, D.1.handle, 0, 0, 0, false⟩ (by simp [ActX.check]) KB.out).mono ?_
  rw [HB.out]
  rintro r w3 ⟨rfl, h3, f3⟩
  have s2 := F1.size
  have b1 := At.fr (b := wa.heap.size) (t := 30) (vs := e.arr l) (by ((repeat' (first | (with_reducible assumption) | (with_reducible apply At.drew) | (with_reducible apply At.drewN) | (with_reducible refine At.newAt ?_; (simp; done)) | (with_reducible apply At.alloc) | (with_reducible apply At.set) | (with_reducible apply At.setOther))); all_goals (first | assumption | (apply Ne.symm; assumption) | omega | (simp only []; omega) | (simp; done) | (simp; omega)))) f3 (nl _ (by omega))
  have c1 := b1.cell
  have le1 := b1.lt
  have b2 := At.fr (b := w2.heap.size) (t := 36) (vs := A.1.arr) (by ((repeat' (first | (with_reducible assumption) | (with_reducible apply At.drew) | (with_reducible apply At.drewN) | (with_reducible refine At.newAt ?_; (simp; done)) | (with_reducible apply At.alloc) | (with_reducible apply At.set) | (with_reducible apply At.setOther))); all_goals (first | assumption | (apply Ne.symm; assumption) | omega | (simp only []; omega) | (simp; done) | (simp; omega)))) f3 (nl _ (by omega))
  have c2 := b2.cell
  have le2 := b2.lt
  have F1 := Fr.sub (S := l.list) (a := wa) (by ((repeat' (first | (with_reducible assumption) | (with_reducible exact Fr.refl _ _) | (with_reducible refine Fr.drew ?_) | (with_reducible refine Fr.drewN ?_ _) | (with_reducible refine Fr.alloc ?_ _) | (with_reducible refine Fr.setCell ?_ ?_ _))); all_goals (first | (left; simp only [List.mem_cons, true_or, or_true]; done) | (left; simp only [List.mem_cons, List.mem_append, true_or, or_true]; done) | (right; simp only []; omega) | (right; simp; done) | (right; simp; omega) | (left; simp; done)))) f3 (by simp)
  clear f3
  go_wp2_with fail
  go_quiet ((first | (go_at_call 62; exact Calls.quiet_of_same (Calls.mono (pinA_any _ _) (fun _ _ h => ⟨h.1, h.2.symm⟩))) | (go_at_call 24; exact Calls.quiet_of_same (Calls.mono (peek_any _ l B.2 (by ((repeat' (first | (with_reducible assumption) | (with_reducible apply MemAt.drew) | (with_reducible apply MemAt.drewN) | (with_reducible apply MemAt.alloc) | (with_reducible apply MemAt.setN))); all_goals (first | assumption | (simp only []; assumption) | (refine nl _ ?_; first | omega | (simp only []; omega) | (simp; omega))))) _) (fun _ _ h => ⟨h.1, h.2.symm⟩)))))
  go_wp2
  go_ret
  refine ⟨rfl, ?_⟩
  have F := Fr.trans' (S := []) FA.out (Fr.mono F1 (by intro k _ hk; exact hk)) (fun x hx hlt => by have := HL.out x hx; omega)
  ((repeat' (first | (with_reducible assumption) | (with_reducible exact Fr.refl _ _) | (with_reducible refine Fr.drew ?_) | (with_reducible refine Fr.drewN ?_ _) | (with_reducible refine Fr.alloc ?_ _) | (with_reducible refine Fr.setCell ?_ ?_ _))); all_goals (first | (left; simp only [List.mem_cons, true_or, or_true]; done) | (left; simp only [List.mem_cons, List.mem_append, true_or, or_true]; done) | (right; simp only []; omega) | (right; simp; done) | (right; simp; omega) | (left; simp; done)))
end Go.Proofs.Ytkgbifagledcaaa.FL
