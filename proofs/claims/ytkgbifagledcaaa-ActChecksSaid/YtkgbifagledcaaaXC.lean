/-
  The contract of the statements' own loop over acts.
-/
import Derived.Test.YtkgbifagledcaaaXB
import Derived.Test.YtkgbifagledcaaaU
namespace Go.Proofs.Ytkgbifagledcaaa.FL
open Go Go.RowKit
set_option linter.unusedVariables false
set_option linter.unusedSimpArgs false
set_option maxRecDepth 20000
set_option maxHeartbeats 4000000
attribute [local go_sem ↓] Go.wp_at_zero Go.wp_at_succ
attribute [local go_sem] fieldSlot0 fieldSlot1 fieldSlot2 fieldSlot3 fieldChunk0 fieldChunk1 fieldChunk3 fieldCell0

def Act.okB (a : Act) (c : Cfg) : Bool := !decide (a.pc = 1) || (match a.work with | .alloc _ => true | .drop d => d.okB c | .access _ => true)
/-- Along a run alone nothing is met that the contract of a step does not take. -/
def Act.runOk (e : Env) : Nat → Act → Mem → Bool
  | 0, _, _ => true
  | n + 1, a, m => a.okB e.c && (let r := a.step e m; r.2.2 || Act.runOk e n r.1 r.2.1)
/-- What stays along the steps of an act. -/
def Doer.Ok0 : Doer → Prop
  | .alloc x => AllocOk x
  | .drop _ => True
  | .access x => x.Ok
def Act.Ok0 (a : Act) : Prop := a.work.Ok0
theorem Act.ok_of {a : Act} {c : Cfg} (h : a.okB c = true) (h0 : a.Ok0) : a.Ok c := by
  obtain ⟨pin, pc, work, out⟩ := a
  intro h1
  simp only at h1
  subst h1
  cases work with
  | alloc x => exact h0
  | drop d => exact Drop.ok_of (by simpa [Act.okB] using h)
  | access x => exact h0
theorem Doer.Ok0.step {d : Doer} (h : d.Ok0) (e : Env) (m : Mem) : (d.step e m).1.Ok0 := by
  cases d with
  | alloc x => exact AllocOk.step h e m
  | drop d => trivial
  | access x => exact Access.Ok.step h e m
theorem Act.step_work (a : Act) (e : Env) (m : Mem) : (a.step e m).1.work = a.work ∨ (a.step e m).1.work = (a.work.step e m).1 := by
  obtain ⟨pin, pc, work, out⟩ := a
  by_cases c0 : pc = 0
  · subst c0
    left
    simp only [Act.step, if_true]
    split <;> rfl
  by_cases c1 : pc = 1
  · subst c1
    right
    simp only [Act.step, if_neg c0, if_true]
    split <;> rfl
  · left
    simp only [Act.step, if_neg c0, if_neg c1]
theorem Act.Ok0.step {a : Act} (h : a.Ok0) (e : Env) (m : Mem) : (a.step e m).1.Ok0 := by
  unfold Act.Ok0
  rcases a.step_work e m with q | q
  · rw [q]; exact h
  · rw [q]; exact Doer.Ok0.step h e m
theorem Act.Ok0.new (x : ActX) : (Act.new x).Ok0 := by
  show (ActX.doer x).Ok0
  unfold ActX.doer
  by_cases k1 : x.kind = 1
  · rw [if_pos k1]; exact AllocOk.new _ _
  · rw [if_neg k1]
    by_cases k2 : x.kind = 2
    · rw [if_pos k2]; trivial
    · rw [if_neg k2]; intro q; simp [Access.new] at q

def DoActCut (w wx : World) (l : Loc) (m : Mem) (d : Done) : Prop := At wx (w.heap.size + 2) 36 d.arr ∧ MemAt wx l m ∧ Fr l.list w wx
def DoActLoop (w wr : World) (e : Env) (l : Loc) (b : Nat) (x : ActX) (m0 : Mem) (k : Nat) : Prop :=
  ∃ a m F, ActAt wr b F a ∧ a.Ok0 ∧ MemAt wr l m ∧ (∀ q ∈ F, w.heap.size + 3 ≤ q ∧ q ∉ l.list) ∧ (At wr w.heap.size 30 (e.arr l) ∧ At wr (w.heap.size + 1) 91 x.arr ∧ At wr (w.heap.size + 2) 36 #[.int .i64 0, .int .u64 0, .int .i64 0, .int .i64 0]) ∧ Fr l.list w wr ∧ Act.run e (500 - k) a m = Act.run e 500 (Act.new x) m0 ∧ Act.runOk e (500 - k) a m = true
theorem doAct_any (e : Env) (w : World) (l : Loc) (m0 : Mem) (h : MemAt w l m0) (x : ActX) (hc : x.check = true) (hro : Act.runOk e 500 (Act.new x) m0 = true) :
    Calls Try.prog 60 #[.agg (e.arr l), .agg x.arr] w fun r w' => r = .returned (.agg (doAct e m0 x).1.arr) ∧ MemAt w' l (doAct e m0 x).2 ∧ Fr l.list w w' := by
  have HRO0 := hid hro
  clear hro
  have n0 := h.nin (Nat.le_refl w.heap.size)
  have nl : ∀ k, w.heap.size ≤ k → k ∉ l.list := fun k hk => h.nin hk
  rw [show doAct e m0 x = ((Act.run e 500 (Act.new x) m0).1.out, (Act.run e 500 (Act.new x) m0).2) from by unfold doAct; rw [if_pos hc]]
  go_enter Try.func60, Try.ntmps60
  go_wp2_with fail
  refine (actNew_yes x _ hc).mono ?_
  rintro r w1 ⟨b, F, rfl, hA, hF, f1⟩
  (try simp only [World.size_alloc] at hF)
  have b0 := At.fr (b := w.heap.size) (t := 30) (vs := e.arr l) (by first | ((repeat' (first | (with_reducible assumption) | (with_reducible apply At.drew) | (with_reducible apply At.drewN) | (with_reducible refine At.newAt ?_; (simp; done)) | (with_reducible apply At.alloc) | (with_reducible apply At.set) | (with_reducible apply At.setOther))); all_goals (first | assumption | (apply Ne.symm; assumption) | omega | (simp only []; omega) | (simp; done) | (simp; omega))) | exact At.to (by ((repeat' (first | (with_reducible assumption) | (with_reducible apply At.drew) | (with_reducible apply At.drewN) | (with_reducible refine At.newAt ?_; (simp; done)) | (with_reducible apply At.alloc) | (with_reducible apply At.set) | (with_reducible apply At.setOther))); all_goals (first | assumption | (apply Ne.symm; assumption) | omega | (simp only []; omega) | (simp; done) | (simp; omega)))) (by (first | rfl | (simp [inc]; done) | (simp [inc, IntWalk.i64_left]; done)))) f1 (by simp)
  have b1 := At.fr (b := w.heap.size + 1) (t := 91) (vs := x.arr) (by first | ((repeat' (first | (with_reducible assumption) | (with_reducible apply At.drew) | (with_reducible apply At.drewN) | (with_reducible refine At.newAt ?_; (simp; done)) | (with_reducible apply At.alloc) | (with_reducible apply At.set) | (with_reducible apply At.setOther))); all_goals (first | assumption | (apply Ne.symm; assumption) | omega | (simp only []; omega) | (simp; done) | (simp; omega))) | exact At.to (by ((repeat' (first | (with_reducible assumption) | (with_reducible apply At.drew) | (with_reducible apply At.drewN) | (with_reducible refine At.newAt ?_; (simp; done)) | (with_reducible apply At.alloc) | (with_reducible apply At.set) | (with_reducible apply At.setOther))); all_goals (first | assumption | (apply Ne.symm; assumption) | omega | (simp only []; omega) | (simp; done) | (simp; omega)))) (by (first | rfl | (simp [inc]; done) | (simp [inc, IntWalk.i64_left]; done)))) f1 (by simp)
  have bo := At.fr (b := w.heap.size + 2) (t := 36) (vs := #[.int .i64 0, .int .u64 0, .int .i64 0, .int .i64 0]) (by first | ((repeat' (first | (with_reducible assumption) | (with_reducible apply At.drew) | (with_reducible apply At.drewN) | (with_reducible refine At.newAt ?_; (simp; done)) | (with_reducible apply At.alloc) | (with_reducible apply At.set) | (with_reducible apply At.setOther))); all_goals (first | assumption | (apply Ne.symm; assumption) | omega | (simp only []; omega) | (simp; done) | (simp; omega))) | exact At.to (by ((repeat' (first | (with_reducible assumption) | (with_reducible apply At.drew) | (with_reducible apply At.drewN) | (with_reducible refine At.newAt ?_; (simp; done)) | (with_reducible apply At.alloc) | (with_reducible apply At.set) | (with_reducible apply At.setOther))); all_goals (first | assumption | (apply Ne.symm; assumption) | omega | (simp only []; omega) | (simp; done) | (simp; omega)))) (by (first | rfl | (simp [inc]; done) | (simp [inc, IntWalk.i64_left]; done)))) f1 (by simp)
  have c0 := b0.cell
  have h1 := MemAt.frl (l := l) (by ((repeat' (first | (with_reducible assumption) | (with_reducible apply MemAt.drew) | (with_reducible apply MemAt.drewN) | (with_reducible apply MemAt.alloc) | (with_reducible apply MemAt.setN))); all_goals (first | assumption | (simp only []; assumption) | (refine nl _ ?_; first | omega | (simp only []; omega) | (simp; omega))))) f1 (by simp)
  have F1 := (Fr.nil (S := l.list) (a := w) (by ((repeat' (first | (with_reducible assumption) | (with_reducible exact Fr.refl _ _) | (with_reducible refine Fr.drew ?_) | (with_reducible refine Fr.drewN ?_ _) | (with_reducible refine Fr.alloc ?_ _) | (with_reducible refine Fr.setCell ?_ ?_ _))); all_goals (first | (left; simp only [List.mem_cons, true_or, or_true]; done) | (left; simp only [List.mem_cons, List.mem_append, true_or, or_true]; done) | (right; simp only []; omega) | (right; simp; done) | (right; simp; omega) | (left; simp; done)))) f1)
  have HF0 := hid hF
  clear f1 hF
  go_wp2
  go_loopw [7] (fun i wr => ∃ k : Nat, k ≤ 500 ∧ i = .int .i64 (k : Int) ∧ DoActLoop w wr e l b x m0 k) (fun i _ => 500 - (intOf i).toNat)
  case atStart => exact ⟨0, by omega, rfl, _, _, _, hA, Act.Ok0.new x, h1, (fun q hq => by have := HF0.out q hq; exact ⟨by omega, nl _ (by omega)⟩), ⟨b0, b1, bo⟩, F1, rfl, HRO0.out⟩
  case round =>
    obtain ⟨k, hk, rfl, a, m, F, hA, ok, h1, hF, ⟨b0, b1, bo⟩, F1, hrun, hro⟩ := hrel
    have c0 := b0.cell
    have HF := hid hF
    have HRUN := hid hrun
    have OK := hid ok
    have HRO1 := hid hro
    clear hF hrun ok hro
    by_cases hlt : (k : Int) < 500
    · have hro : Act.runOk e ((500 - (k + 1)) + 1) a m = true := by rw [show (500 - (k + 1)) + 1 = 500 - k by omega]; exact HRO1.out
      have HRO2 := hid hro
      clear hro
      go_wp2_with fail
      refine (act_any e _ l m (by ((repeat' (first | (with_reducible assumption) | (with_reducible apply MemAt.drew) | (with_reducible apply MemAt.drewN) | (with_reducible apply MemAt.alloc) | (with_reducible apply MemAt.setN))); all_goals (first | assumption | (simp only []; assumption) | (refine nl _ ?_; first | omega | (simp only []; omega) | (simp; omega))))) a b F (hA.fr (S := []) (by ((repeat' (first | (with_reducible assumption) | (with_reducible exact Fr.refl _ _) | (with_reducible refine Fr.drew ?_) | (with_reducible refine Fr.drewN ?_ _) | (with_reducible refine Fr.alloc ?_ _) | (with_reducible refine Fr.setCell ?_ ?_ _))); all_goals (first | (left; simp only [List.mem_cons, true_or, or_true]; done) | (left; simp only [List.mem_cons, List.mem_append, true_or, or_true]; done) | (right; simp only []; omega) | (right; simp; done) | (right; simp; omega) | (left; simp; done)))) (by simp)) (fun x hx => (HF.out x hx).2) (Act.ok_of (by have q := HRO2.out; rw [Act.runOk, Bool.and_eq_true] at q; exact q.1) OK.out)).mono ?_
      rintro r w1 ⟨F', rfl, hA', h1', f1, hF'⟩
      have lw : w.heap.size + 3 ≤ wr.heap.size := by have := bo.lt; omega
      have nin : ∀ q, w.heap.size ≤ q → q < w.heap.size + 3 → q ∉ F ++ l.list := fun q h1 h2 hm => by
        rw [List.mem_append] at hm
        rcases hm with hm | hm
        · have := (HF.out q hm).1; omega
        · exact nl q h1 hm
      have b0 := At.fr (b := w.heap.size) (t := 30) (vs := e.arr l) (by first | ((repeat' (first | (with_reducible assumption) | (with_reducible apply At.drew) | (with_reducible apply At.drewN) | (with_reducible refine At.newAt ?_; (simp; done)) | (with_reducible apply At.alloc) | (with_reducible apply At.set) | (with_reducible apply At.setOther))); all_goals (first | assumption | (apply Ne.symm; assumption) | omega | (simp only []; omega) | (simp; done) | (simp; omega))) | exact At.to (by ((repeat' (first | (with_reducible assumption) | (with_reducible apply At.drew) | (with_reducible apply At.drewN) | (with_reducible refine At.newAt ?_; (simp; done)) | (with_reducible apply At.alloc) | (with_reducible apply At.set) | (with_reducible apply At.setOther))); all_goals (first | assumption | (apply Ne.symm; assumption) | omega | (simp only []; omega) | (simp; done) | (simp; omega)))) (by (first | rfl | (simp [inc]; done) | (simp [inc, IntWalk.i64_left]; done)))) f1 (nin _ (by omega) (by omega))
      have b1 := At.fr (b := w.heap.size + 1) (t := 91) (vs := x.arr) (by first | ((repeat' (first | (with_reducible assumption) | (with_reducible apply At.drew) | (with_reducible apply At.drewN) | (with_reducible refine At.newAt ?_; (simp; done)) | (with_reducible apply At.alloc) | (with_reducible apply At.set) | (with_reducible apply At.setOther))); all_goals (first | assumption | (apply Ne.symm; assumption) | omega | (simp only []; omega) | (simp; done) | (simp; omega))) | exact At.to (by ((repeat' (first | (with_reducible assumption) | (with_reducible apply At.drew) | (with_reducible apply At.drewN) | (with_reducible refine At.newAt ?_; (simp; done)) | (with_reducible apply At.alloc) | (with_reducible apply At.set) | (with_reducible apply At.setOther))); all_goals (first | assumption | (apply Ne.symm; assumption) | omega | (simp only []; omega) | (simp; done) | (simp; omega)))) (by (first | rfl | (simp [inc]; done) | (simp [inc, IntWalk.i64_left]; done)))) f1 (nin _ (by omega) (by omega))
      have bo := At.fr (b := w.heap.size + 2) (t := 36) (vs := #[.int .i64 0, .int .u64 0, .int .i64 0, .int .i64 0]) (by first | ((repeat' (first | (with_reducible assumption) | (with_reducible apply At.drew) | (with_reducible apply At.drewN) | (with_reducible refine At.newAt ?_; (simp; done)) | (with_reducible apply At.alloc) | (with_reducible apply At.set) | (with_reducible apply At.setOther))); all_goals (first | assumption | (apply Ne.symm; assumption) | omega | (simp only []; omega) | (simp; done) | (simp; omega))) | exact At.to (by ((repeat' (first | (with_reducible assumption) | (with_reducible apply At.drew) | (with_reducible apply At.drewN) | (with_reducible refine At.newAt ?_; (simp; done)) | (with_reducible apply At.alloc) | (with_reducible apply At.set) | (with_reducible apply At.setOther))); all_goals (first | assumption | (apply Ne.symm; assumption) | omega | (simp only []; omega) | (simp; done) | (simp; omega)))) (by (first | rfl | (simp [inc]; done) | (simp [inc, IntWalk.i64_left]; done)))) f1 (nin _ (by omega) (by omega))
      have F1' : Fr l.list w w1 := Fr.trans' (S := l.list) (a := w) (by ((repeat' (first | (with_reducible assumption) | (with_reducible exact Fr.refl _ _) | (with_reducible refine Fr.drew ?_) | (with_reducible refine Fr.drewN ?_ _) | (with_reducible refine Fr.alloc ?_ _) | (with_reducible refine Fr.setCell ?_ ?_ _))); all_goals (first | (left; simp only [List.mem_cons, true_or, or_true]; done) | (left; simp only [List.mem_cons, List.mem_append, true_or, or_true]; done) | (right; simp only []; omega) | (right; simp; done) | (right; simp; omega) | (left; simp; done)))) f1 (fun x hx hxw => by
        rw [List.mem_append] at hx
        rcases hx with hx | hx
        · have := (HF.out x hx).1; omega
        · exact hx)
      have HFn : Hid (∀ x ∈ F', w.heap.size + 3 ≤ x ∧ x ∉ l.list) := hid (fun x hx => by
        rcases hF' x hx with hx | hx
        · exact HF.out x hx
        · (try simp only [World.size_drew] at hx)
          exact ⟨by omega, nl x (by omega)⟩)
      clear hF' f1 nin F1
      have ks : 500 - k = (500 - (k + 1)) + 1 := by omega
      have HKS := hid ks
      clear ks
      cases hd : (a.step e m).2.2 with
      | false =>
        have HD := hid hd
        clear hd
        have HRUN' : Hid (Act.run e (500 - (k + 1)) (a.step e m).1 (a.step e m).2.1 = Act.run e 500 (Act.new x) m0) := hid (by
          rw [← HRUN.out, HKS.out, Act.run]; simp only [HD.out, Bool.false_eq_true, if_false])
        have HRO3 : Hid (Act.runOk e (500 - (k + 1)) (a.step e m).1 (a.step e m).2.1 = true) := hid (by
          have q := HRO2.out
          rw [Act.runOk, Bool.and_eq_true] at q
          have := q.2
          simp only [HD.out, Bool.false_or] at this
          exact this)
        go_wp2
        go_roundw
        case rel => exact ⟨k + 1, by omega, by simp, _, _, _, hA', OK.out.step e m, h1', HFn.out, ⟨b0, b1, bo⟩, F1', HRUN'.out, HRO3.out⟩
        case measure => simp [intOf]; omega
      | true =>
        have HD := hid hd
        clear hd
        have HRUN' : Hid (Act.run e 500 (Act.new x) m0 = ((a.step e m).1, (a.step e m).2.1)) := hid (by
          rw [← HRUN.out, HKS.out, Act.run]; simp only [HD.out, if_true])
        go_upto_region 8 with (fail)
        go_cut [25] (fun s25 wx => DoActCut w wx l (Act.run e 500 (Act.new x) m0).2 (Act.run e 500 (Act.new x) m0).1.out)
        case first =>
          go_wp2_with fail
          refine (actDone_any _ _ b _ (hA'.fr (S := []) (by ((repeat' (first | (with_reducible assumption) | (with_reducible exact Fr.refl _ _) | (with_reducible refine Fr.drew ?_) | (with_reducible refine Fr.drewN ?_ _) | (with_reducible refine Fr.alloc ?_ _) | (with_reducible refine Fr.setCell ?_ ?_ _))); all_goals (first | (left; simp only [List.mem_cons, true_or, or_true]; done) | (left; simp only [List.mem_cons, List.mem_append, true_or, or_true]; done) | (right; simp only []; omega) | (right; simp; done) | (right; simp; omega) | (left; simp; done)))) (by simp))).mono ?_
          rintro r w2 ⟨rfl, f2⟩
          have h2 := MemAt.frl (l := l) h1' (Fr.trans (S := []) (by ((repeat' (first | (with_reducible assumption) | (with_reducible exact Fr.refl _ _) | (with_reducible refine Fr.drew ?_) | (with_reducible refine Fr.drewN ?_ _) | (with_reducible refine Fr.alloc ?_ _) | (with_reducible refine Fr.setCell ?_ ?_ _))); all_goals (first | (left; simp only [List.mem_cons, true_or, or_true]; done) | (left; simp only [List.mem_cons, List.mem_append, true_or, or_true]; done) | (right; simp only []; omega) | (right; simp; done) | (right; simp; omega) | (left; simp; done)))) f2) (by simp)
          have bo := At.fr (b := w.heap.size + 2) (t := 36) (vs := #[.int .i64 0, .int .u64 0, .int .i64 0, .int .i64 0]) (by ((repeat' (first | (with_reducible assumption) | (with_reducible apply At.drew) | (with_reducible apply At.drewN) | (with_reducible refine At.newAt ?_; (simp; done)) | (with_reducible apply At.alloc) | (with_reducible apply At.set) | (with_reducible apply At.setOther))); all_goals (first | assumption | (apply Ne.symm; assumption) | omega | (simp only []; omega) | (simp; done) | (simp; omega)))) f2 (by simp)
          have co := bo.cell
          have go_ := bo.frozen
          have F2 := Fr.nil (S := l.list) (a := w) (by ((repeat' (first | (with_reducible assumption) | (with_reducible exact Fr.refl _ _) | (with_reducible refine Fr.drew ?_) | (with_reducible refine Fr.drewN ?_ _) | (with_reducible refine Fr.alloc ?_ _) | (with_reducible refine Fr.setCell ?_ ?_ _))); all_goals (first | (left; simp only [List.mem_cons, true_or, or_true]; done) | (left; simp only [List.mem_cons, List.mem_append, true_or, or_true]; done) | (right; simp only []; omega) | (right; simp; done) | (right; simp; omega) | (left; simp; done)))) f2
          go_wp2_with fail
          go_meet
          rw [HRUN'.out]
          refine ⟨?_, ?_, ?_⟩
          · (refine At.to (by ((repeat' (first | (with_reducible assumption) | (with_reducible apply At.drew) | (with_reducible apply At.drewN) | (with_reducible refine At.newAt ?_; (simp; done)) | (with_reducible apply At.alloc) | (with_reducible apply At.set) | (with_reducible apply At.setOther))); all_goals (first | assumption | (apply Ne.symm; assumption) | omega | (simp only []; omega) | (simp; done) | (simp; omega)))) ?_; (first | rfl | (simp [inc]; done) | (simp [inc, IntWalk.i64_left]; done)))
          · ((repeat' (first | (with_reducible assumption) | (with_reducible apply MemAt.drew) | (with_reducible apply MemAt.drewN) | (with_reducible apply MemAt.alloc) | (with_reducible apply MemAt.setN))); all_goals (first | assumption | (simp only []; assumption) | (refine nl _ ?_; first | omega | (simp only []; omega) | (simp; omega))))
          · ((repeat' (first | (with_reducible assumption) | (with_reducible exact Fr.refl _ _) | (with_reducible refine Fr.drew ?_) | (with_reducible refine Fr.drewN ?_ _) | (with_reducible refine Fr.alloc ?_ _) | (with_reducible refine Fr.setCell ?_ ?_ _))); all_goals (first | (left; simp only [List.mem_cons, true_or, or_true]; done) | (left; simp only [List.mem_cons, List.mem_append, true_or, or_true]; done) | (right; simp only []; omega) | (right; simp; done) | (right; simp; omega) | (left; simp; done)))
        case rest =>
          obtain ⟨B, M, F⟩ := hcut
          have cB := B.cell
          go_wp2
          refine bodyPost_ret (v := .agg (Act.run e 500 (Act.new x) m0).1.out.arr) (by simp [results, Try.results60, go_sem, cB]) rfl ⟨rfl, M, F⟩
    · have hk0 : k = 500 := by omega
      have HRUN' : Hid (Act.run e 500 (Act.new x) m0 = (a, m)) := hid (by
        rw [← HRUN.out, hk0]; rfl)
      clear hk0
      go_upto_region 8 with (fail)
      go_cut [25] (fun s25 wx => DoActCut w wx l (Act.run e 500 (Act.new x) m0).2 (Act.run e 500 (Act.new x) m0).1.out)
      case first =>
        go_wp2_with fail
        refine (actDone_any _ _ b _ (hA.fr (S := []) (by ((repeat' (first | (with_reducible assumption) | (with_reducible exact Fr.refl _ _) | (with_reducible refine Fr.drew ?_) | (with_reducible refine Fr.drewN ?_ _) | (with_reducible refine Fr.alloc ?_ _) | (with_reducible refine Fr.setCell ?_ ?_ _))); all_goals (first | (left; simp only [List.mem_cons, true_or, or_true]; done) | (left; simp only [List.mem_cons, List.mem_append, true_or, or_true]; done) | (right; simp only []; omega) | (right; simp; done) | (right; simp; omega) | (left; simp; done)))) (by simp))).mono ?_
        rintro r w2 ⟨rfl, f2⟩
        have h2 := MemAt.frl (l := l) h1 (Fr.trans (S := []) (by ((repeat' (first | (with_reducible assumption) | (with_reducible exact Fr.refl _ _) | (with_reducible refine Fr.drew ?_) | (with_reducible refine Fr.drewN ?_ _) | (with_reducible refine Fr.alloc ?_ _) | (with_reducible refine Fr.setCell ?_ ?_ _))); all_goals (first | (left; simp only [List.mem_cons, true_or, or_true]; done) | (left; simp only [List.mem_cons, List.mem_append, true_or, or_true]; done) | (right; simp only []; omega) | (right; simp; done) | (right; simp; omega) | (left; simp; done)))) f2) (by simp)
        have bo := At.fr (b := w.heap.size + 2) (t := 36) (vs := #[.int .i64 0, .int .u64 0, .int .i64 0, .int .i64 0]) (by ((repeat' (first | (with_reducible assumption) | (with_reducible apply At.drew) | (with_reducible apply At.drewN) | (with_reducible refine At.newAt ?_; (simp; done)) | (with_reducible apply At.alloc) | (with_reducible apply At.set) | (with_reducible apply At.setOther))); all_goals (first | assumption | (apply Ne.symm; assumption) | omega | (simp only []; omega) | (simp; done) | (simp; omega)))) f2 (by simp)
        have co := bo.cell
        have go_ := bo.frozen
        have F2 := Fr.nil (S := l.list) (a := w) (by ((repeat' (first | (with_reducible assumption) | (with_reducible exact Fr.refl _ _) | (with_reducible refine Fr.drew ?_) | (with_reducible refine Fr.drewN ?_ _) | (with_reducible refine Fr.alloc ?_ _) | (with_reducible refine Fr.setCell ?_ ?_ _))); all_goals (first | (left; simp only [List.mem_cons, true_or, or_true]; done) | (left; simp only [List.mem_cons, List.mem_append, true_or, or_true]; done) | (right; simp only []; omega) | (right; simp; done) | (right; simp; omega) | (left; simp; done)))) f2
        go_wp2_with fail
        go_meet
        rw [HRUN'.out]
        refine ⟨?_, ?_, ?_⟩
        · (refine At.to (by ((repeat' (first | (with_reducible assumption) | (with_reducible apply At.drew) | (with_reducible apply At.drewN) | (with_reducible refine At.newAt ?_; (simp; done)) | (with_reducible apply At.alloc) | (with_reducible apply At.set) | (with_reducible apply At.setOther))); all_goals (first | assumption | (apply Ne.symm; assumption) | omega | (simp only []; omega) | (simp; done) | (simp; omega)))) ?_; (first | rfl | (simp [inc]; done) | (simp [inc, IntWalk.i64_left]; done)))
        · ((repeat' (first | (with_reducible assumption) | (with_reducible apply MemAt.drew) | (with_reducible apply MemAt.drewN) | (with_reducible apply MemAt.alloc) | (with_reducible apply MemAt.setN))); all_goals (first | assumption | (simp only []; assumption) | (refine nl _ ?_; first | omega | (simp only []; omega) | (simp; omega))))
        · ((repeat' (first | (with_reducible assumption) | (with_reducible exact Fr.refl _ _) | (with_reducible refine Fr.drew ?_) | (with_reducible refine Fr.drewN ?_ _) | (with_reducible refine Fr.alloc ?_ _) | (with_reducible refine Fr.setCell ?_ ?_ _))); all_goals (first | (left; simp only [List.mem_cons, true_or, or_true]; done) | (left; simp only [List.mem_cons, List.mem_append, true_or, or_true]; done) | (right; simp only []; omega) | (right; simp; done) | (right; simp; omega) | (left; simp; done)))
      case rest =>
        obtain ⟨B, M, F⟩ := hcut
        have cB := B.cell
        go_wp2
        refine bodyPost_ret (v := .agg (Act.run e 500 (Act.new x) m0).1.out.arr) (by simp [results, Try.results60, go_sem, cB]) rfl ⟨rfl, M, F⟩
end Go.Proofs.Ytkgbifagledcaaa.FL
