/-
  The contract of the statements' own loop over Alloc: footlockerlaw08.Make.
-/
import Derived.Test.YtkgbifagledcaaaT0
import Derived.Deep.DeepCutAuto
namespace Go.Proofs.Ytkgbifagledcaaa.FL
open Go Go.RowKit
set_option linter.unusedVariables false
set_option linter.unusedSimpArgs false
set_option maxRecDepth 20000
set_option maxHeartbeats 4000000
attribute [local go_sem ↓] Go.wp_at_zero Go.wp_at_succ
attribute [local go_sem] fieldSlot0 fieldSlot1 fieldSlot2 fieldSlot3 fieldChunk0 fieldChunk1 fieldChunk3 fieldCell0

def AllocLoop (w wr : World) (e : Env) (l : Loc) (b : Nat) (size : Int) (own : Bool) (a0 : Alloc) (m0 : Mem) (k : Nat) : Prop :=
  ∃ a m F, AllocAt wr b F a ∧ AllocOk a ∧ MemAt wr l m ∧ (∀ x ∈ F, w.heap.size + 2 ≤ x ∧ x ∉ l.list) ∧ (At wr w.heap.size 30 (e.arr l) ∧ At wr (w.heap.size + 1) 36 #[.int .i64 0, .int .u64 0, .int .i64 0, .int .i64 0]) ∧ Fr l.list w wr ∧ Alloc.run e (400 - k) a m = Alloc.run e 400 a0 m0
def AllocCut (w wx : World) (l : Loc) (m : Mem) (d : Done) : Prop := At wx (w.heap.size + 1) 36 d.arr ∧ MemAt wx l m ∧ Fr l.list w wx
theorem make_any (e : Env) (w : World) (l : Loc) (m0 : Mem) (h : MemAt w l m0) (size : Int) (own : Bool) :
    Calls Try.prog 22 #[.agg (e.arr l), .int .i64 size, .bool own] w fun r w' => r = .returned (.agg (make e m0 size own).1.arr) ∧ MemAt w' l (make e m0 size own).2 ∧ Fr l.list w w' := by
  have n0 := h.nin (Nat.le_refl w.heap.size)
  have nl : ∀ k, w.heap.size ≤ k → k ∉ l.list := fun k hk => h.nin hk
  rw [show make e m0 size own = ((Alloc.run e 400 (Alloc.new size own) m0).1.out, (Alloc.run e 400 (Alloc.new size own) m0).2) from rfl]
  go_enter Try.func22, Try.ntmps22
  go_wp2_with fail
  refine (alloc_new _ size own).mono ?_
  rintro r w1 ⟨b, rfl, hlt, hA, f1⟩
  simp only [World.size_alloc] at hlt
  have b0 := At.fr (b := w.heap.size) (t := 30) (vs := (e.arr l)) (by first | ((repeat' (first | (with_reducible assumption) | (with_reducible apply At.drew) | (with_reducible apply At.drewN) | (with_reducible refine At.newAt ?_; (simp; done)) | (with_reducible apply At.alloc) | (with_reducible apply At.set) | (with_reducible apply At.setOther))); all_goals (first | assumption | (apply Ne.symm; assumption) | omega | (simp only []; omega) | (simp; done) | (simp; omega))) | exact At.to (by ((repeat' (first | (with_reducible assumption) | (with_reducible apply At.drew) | (with_reducible apply At.drewN) | (with_reducible refine At.newAt ?_; (simp; done)) | (with_reducible apply At.alloc) | (with_reducible apply At.set) | (with_reducible apply At.setOther))); all_goals (first | assumption | (apply Ne.symm; assumption) | omega | (simp only []; omega) | (simp; done) | (simp; omega)))) (by (first | rfl | (simp [inc]; done) | (simp [inc, IntWalk.i64_left]; done)))) f1 (by simp)
  have bo := At.fr (b := w.heap.size + 1) (t := 36) (vs := #[.int .i64 0, .int .u64 0, .int .i64 0, .int .i64 0]) (by first | ((repeat' (first | (with_reducible assumption) | (with_reducible apply At.drew) | (with_reducible apply At.drewN) | (with_reducible refine At.newAt ?_; (simp; done)) | (with_reducible apply At.alloc) | (with_reducible apply At.set) | (with_reducible apply At.setOther))); all_goals (first | assumption | (apply Ne.symm; assumption) | omega | (simp only []; omega) | (simp; done) | (simp; omega))) | exact At.to (by ((repeat' (first | (with_reducible assumption) | (with_reducible apply At.drew) | (with_reducible apply At.drewN) | (with_reducible refine At.newAt ?_; (simp; done)) | (with_reducible apply At.alloc) | (with_reducible apply At.set) | (with_reducible apply At.setOther))); all_goals (first | assumption | (apply Ne.symm; assumption) | omega | (simp only []; omega) | (simp; done) | (simp; omega)))) (by (first | rfl | (simp [inc]; done) | (simp [inc, IntWalk.i64_left]; done)))) f1 (by simp)
  have c0 := b0.cell
  have h1 := MemAt.frl (l := l) (by ((repeat' (first | (with_reducible assumption) | (with_reducible apply MemAt.drew) | (with_reducible apply MemAt.drewN) | (with_reducible apply MemAt.alloc) | (with_reducible apply MemAt.setN))); all_goals (first | assumption | (simp only []; assumption) | (refine nl _ ?_; first | omega | (simp only []; omega) | (simp; omega))))) f1 (by simp)
  have F1 := (Fr.nil (S := l.list) (a := w) (by ((repeat' (first | (with_reducible assumption) | (with_reducible exact Fr.refl _ _) | (with_reducible refine Fr.drew ?_) | (with_reducible refine Fr.drewN ?_ _) | (with_reducible refine Fr.alloc ?_ _) | (with_reducible refine Fr.setCell ?_ ?_ _))); all_goals (first | (left; simp only [List.mem_cons, true_or, or_true]; done) | (left; simp only [List.mem_cons, List.mem_append, true_or, or_true]; done) | (right; simp only []; omega) | (right; simp; done) | (right; simp; omega) | (left; simp; done)))) f1)
  clear f1
  go_wp2
  go_loopw [8] (fun i wr => ∃ k : Nat, k ≤ 400 ∧ i = .int .i64 (k : Int) ∧ AllocLoop w wr e l b size own (Alloc.new size own) m0 k) (fun i _ => 400 - (intOf i).toNat)
  case atStart => exact ⟨0, by omega, rfl, _, _, _, hA, AllocOk.new size own, h1, (by intro x hx; simp only [List.mem_singleton] at hx; subst hx; exact ⟨hlt, nl _ (by omega)⟩), ⟨b0, bo⟩, F1, rfl⟩
  case round =>
    obtain ⟨k, hk, rfl, a, m, F, hA, ok, h1, hF, ⟨b0, bo⟩, F1, hrun⟩ := hrel
    have c0 := b0.cell
    have HF := hid hF
    have HRUN := hid hrun
    have OK := hid ok
    clear hF hrun ok
    by_cases hlt : (k : Int) < 400
    · go_wp2_with fail
      refine (alloc_any e _ l m (by ((repeat' (first | (with_reducible assumption) | (with_reducible apply MemAt.drew) | (with_reducible apply MemAt.drewN) | (with_reducible apply MemAt.alloc) | (with_reducible apply MemAt.setN))); all_goals (first | assumption | (simp only []; assumption) | (refine nl _ ?_; first | omega | (simp only []; omega) | (simp; omega))))) a b F (hA.fr (S := []) (by ((repeat' (first | (with_reducible assumption) | (with_reducible exact Fr.refl _ _) | (with_reducible refine Fr.drew ?_) | (with_reducible refine Fr.drewN ?_ _) | (with_reducible refine Fr.alloc ?_ _) | (with_reducible refine Fr.setCell ?_ ?_ _))); all_goals (first | (left; simp only [List.mem_cons, true_or, or_true]; done) | (left; simp only [List.mem_cons, List.mem_append, true_or, or_true]; done) | (right; simp only []; omega) | (right; simp; done) | (right; simp; omega) | (left; simp; done)))) (by simp)) (fun x hx => (HF.out x hx).2) OK.out.ok).mono ?_
      rintro r w1 ⟨F', rfl, hA', h1', f1, hF'⟩
      have lw : w.heap.size + 2 ≤ wr.heap.size := by have := bo.lt; omega
      have nin : ∀ q, w.heap.size ≤ q → q < w.heap.size + 2 → q ∉ F ++ l.list := fun q h1 h2 hm => by
        rw [List.mem_append] at hm
        rcases hm with hm | hm
        · have := (HF.out q hm).1; omega
        · exact nl q h1 hm
      have b0 := At.fr (b := w.heap.size) (t := 30) (vs := (e.arr l)) (by first | ((repeat' (first | (with_reducible assumption) | (with_reducible apply At.drew) | (with_reducible apply At.drewN) | (with_reducible refine At.newAt ?_; (simp; done)) | (with_reducible apply At.alloc) | (with_reducible apply At.set) | (with_reducible apply At.setOther))); all_goals (first | assumption | (apply Ne.symm; assumption) | omega | (simp only []; omega) | (simp; done) | (simp; omega))) | exact At.to (by ((repeat' (first | (with_reducible assumption) | (with_reducible apply At.drew) | (with_reducible apply At.drewN) | (with_reducible refine At.newAt ?_; (simp; done)) | (with_reducible apply At.alloc) | (with_reducible apply At.set) | (with_reducible apply At.setOther))); all_goals (first | assumption | (apply Ne.symm; assumption) | omega | (simp only []; omega) | (simp; done) | (simp; omega)))) (by (first | rfl | (simp [inc]; done) | (simp [inc, IntWalk.i64_left]; done)))) f1 (nin _ (by omega) (by omega))
      have bo := At.fr (b := w.heap.size + 1) (t := 36) (vs := #[.int .i64 0, .int .u64 0, .int .i64 0, .int .i64 0]) (by first | ((repeat' (first | (with_reducible assumption) | (with_reducible apply At.drew) | (with_reducible apply At.drewN) | (with_reducible refine At.newAt ?_; (simp; done)) | (with_reducible apply At.alloc) | (with_reducible apply At.set) | (with_reducible apply At.setOther))); all_goals (first | assumption | (apply Ne.symm; assumption) | omega | (simp only []; omega) | (simp; done) | (simp; omega))) | exact At.to (by ((repeat' (first | (with_reducible assumption) | (with_reducible apply At.drew) | (with_reducible apply At.drewN) | (with_reducible refine At.newAt ?_; (simp; done)) | (with_reducible apply At.alloc) | (with_reducible apply At.set) | (with_reducible apply At.setOther))); all_goals (first | assumption | (apply Ne.symm; assumption) | omega | (simp only []; omega) | (simp; done) | (simp; omega)))) (by (first | rfl | (simp [inc]; done) | (simp [inc, IntWalk.i64_left]; done)))) f1 (nin _ (by omega) (by omega))
      have F1' : Fr l.list w w1 := Fr.trans' (S := l.list) (a := w) (by ((repeat' (first | (with_reducible assumption) | (with_reducible exact Fr.refl _ _) | (with_reducible refine Fr.drew ?_) | (with_reducible refine Fr.drewN ?_ _) | (with_reducible refine Fr.alloc ?_ _) | (with_reducible refine Fr.setCell ?_ ?_ _))); all_goals (first | (left; simp only [List.mem_cons, true_or, or_true]; done) | (left; simp only [List.mem_cons, List.mem_append, true_or, or_true]; done) | (right; simp only []; omega) | (right; simp; done) | (right; simp; omega) | (left; simp; done)))) f1 (fun x hx hxw => by
        rw [List.mem_append] at hx
        rcases hx with hx | hx
        · have := (HF.out x hx).1; omega
        · exact hx)
      have HFn : Hid (∀ x ∈ F', w.heap.size + 2 ≤ x ∧ x ∉ l.list) := hid (fun x hx => by
        rcases hF' x hx with hx | hx
        · exact HF.out x hx
        · (try simp only [World.size_drew] at hx)
          exact ⟨by omega, nl x (by omega)⟩)
      clear hF' f1 nin F1
      have ks : 400 - k = (400 - (k + 1)) + 1 := by omega
      have HKS := hid ks
      clear ks
      cases hd : (Alloc.step a e m).2.2 with
      | false =>
        have HD := hid hd
        clear hd
        have HRUN' : Hid (Alloc.run e (400 - (k + 1)) (a.step e m).1 (a.step e m).2.1 = Alloc.run e 400 (Alloc.new size own) m0) := hid (by
          rw [← HRUN.out, HKS.out, Alloc.run]; simp only [HD.out, Bool.false_eq_true, if_false])
        go_wp2
        go_roundw
        case rel => exact ⟨k + 1, by omega, by simp, _, _, _, hA', OK.out.step e m, h1', HFn.out, ⟨b0, bo⟩, F1', HRUN'.out⟩
        case measure => simp [intOf]; omega
      | true =>
        have HD := hid hd
        clear hd
        have HRUN' : Hid (Alloc.run e 400 (Alloc.new size own) m0 = ((a.step e m).1, (a.step e m).2.1)) := hid (by
          rw [← HRUN.out, HKS.out, Alloc.run]; simp only [HD.out, if_true])
        go_upto_region 6 with (fail)
        go_cut [20] (fun s20 wx => AllocCut w wx l (Alloc.run e 400 (Alloc.new size own) m0).2 (Alloc.run e 400 (Alloc.new size own) m0).1.out)
        case first =>
          go_wp2_with fail
          refine (alloc_done _ _ b _ (hA'.fr (S := []) (by ((repeat' (first | (with_reducible assumption) | (with_reducible exact Fr.refl _ _) | (with_reducible refine Fr.drew ?_) | (with_reducible refine Fr.drewN ?_ _) | (with_reducible refine Fr.alloc ?_ _) | (with_reducible refine Fr.setCell ?_ ?_ _))); all_goals (first | (left; simp only [List.mem_cons, true_or, or_true]; done) | (left; simp only [List.mem_cons, List.mem_append, true_or, or_true]; done) | (right; simp only []; omega) | (right; simp; done) | (right; simp; omega) | (left; simp; done)))) (by simp))).mono ?_
          rintro r w2 ⟨rfl, f2⟩
          have h2 := MemAt.frl (l := l) h1' (Fr.trans (S := []) (by ((repeat' (first | (with_reducible assumption) | (with_reducible exact Fr.refl _ _) | (with_reducible refine Fr.drew ?_) | (with_reducible refine Fr.drewN ?_ _) | (with_reducible refine Fr.alloc ?_ _) | (with_reducible refine Fr.setCell ?_ ?_ _))); all_goals (first | (left; simp only [List.mem_cons, true_or, or_true]; done) | (left; simp only [List.mem_cons, List.mem_append, true_or, or_true]; done) | (right; simp only []; omega) | (right; simp; done) | (right; simp; omega) | (left; simp; done)))) f2) (by simp)
          have bo := At.fr (b := w.heap.size + 1) (t := 36) (vs := #[.int .i64 0, .int .u64 0, .int .i64 0, .int .i64 0]) (by ((repeat' (first | (with_reducible assumption) | (with_reducible apply At.drew) | (with_reducible apply At.drewN) | (with_reducible refine At.newAt ?_; (simp; done)) | (with_reducible apply At.alloc) | (with_reducible apply At.set) | (with_reducible apply At.setOther))); all_goals (first | assumption | (apply Ne.symm; assumption) | omega | (simp only []; omega) | (simp; done) | (simp; omega)))) f2 (by simp)
          have co := bo.cell
          have go_ := bo.frozen
          have F2 := Fr.nil (S := l.list) (a := w) (by ((repeat' (first | (with_reducible assumption) | (with_reducible exact Fr.refl _ _) | (with_reducible refine Fr.drew ?_) | (with_reducible refine Fr.drewN ?_ _) | (with_reducible refine Fr.alloc ?_ _) | (with_reducible refine Fr.setCell ?_ ?_ _))); all_goals (first | (left; simp only [List.mem_cons, true_or, or_true]; done) | (left; simp only [List.mem_cons, List.mem_append, true_or, or_true]; done) | (right; simp only []; omega) | (right; simp; done) | (right; simp; omega) | (left; simp; done)))) f2
          go_wp2_with fail
          go_meet
          rw [HRUN'.out]
          refine ⟨?_, ?_, ?_⟩
          · (refine At.to (by ((repeat' (first | (with_reducible assumption) | (with_reducible apply At.drew) | (with_reducible apply At.drewN) | (with_reducible refine At.newAt ?_; (simp; done)) | (with_reducible apply At.alloc) | (with_reducible apply At.set) | (with_reducible apply At.setOther))); all_goals (first | assumption | (apply Ne.symm; assumption) | omega | (simp only []; omega) | (simp; done) | (simp; omega)))) ?_; (first | rfl | (simp [inc]; done) | (simp [inc, IntWalk.i64_left]; done)))
          · ((repeat' (first | (with_reducible assumption) | (with_reducible apply MemAt.drew) | (with_reducible apply MemAt.drewN) | (with_reducible apply MemAt.alloc) | (with_reducible apply MemAt.setN))); all_goals (first | assumption | (simp only []; assumption) | (refine nl _ ?_; first | omega | (simp only []; omega) | (simp; omega))))
          · ((repeat' (first | (with_reducible assumption) | (with_reducible exact Fr.refl _ _) | (with_reducible refine Fr.drew ?_) | (with_reducible refine Fr.drewN ?_ _) | (with_reducible refine Fr.alloc ?_ _) | (with_reducible refine Fr.setCell ?_ ?_ _))); all_goals (first | (left; simp only [List.mem_cons, true_or, or_true]; done) | (left; simp only [List.mem_cons, List.mem_append, true_or, or_true]; done) | (right; simp only []; omega) | (right; simp; done) | (right; simp; omega) | (left; simp; done)))
        case rest =>
          obtain ⟨B, M, F⟩ := hcut
          have cB := B.cell
          go_wp2
          refine bodyPost_ret (v := .agg (Alloc.run e 400 (Alloc.new size own) m0).1.out.arr) (by simp [results, Try.results22, go_sem, cB]) rfl ⟨rfl, M, F⟩
    · have hk0 : k = 400 := by omega
      have HRUN' : Hid (Alloc.run e 400 (Alloc.new size own) m0 = (a, m)) := hid (by
        rw [← HRUN.out, hk0]; rfl)
      clear hk0
      go_upto_region 6 with (fail)
      go_cut [20] (fun s20 wx => AllocCut w wx l (Alloc.run e 400 (Alloc.new size own) m0).2 (Alloc.run e 400 (Alloc.new size own) m0).1.out)
      case first =>
        go_wp2_with fail
        refine (alloc_done _ _ b _ (hA.fr (S := []) (by ((repeat' (first | (with_reducible assumption) | (with_reducible exact Fr.refl _ _) | (with_reducible refine Fr.drew ?_) | (with_reducible refine Fr.drewN ?_ _) | (with_reducible refine Fr.alloc ?_ _) | (with_reducible refine Fr.setCell ?_ ?_ _))); all_goals (first | (left; simp only [List.mem_cons, true_or, or_true]; done) | (left; simp only [List.mem_cons, List.mem_append, true_or, or_true]; done) | (right; simp only []; omega) | (right; simp; done) | (right; simp; omega) | (left; simp; done)))) (by simp))).mono ?_
        rintro r w2 ⟨rfl, f2⟩
        have h2 := MemAt.frl (l := l) h1 (Fr.trans (S := []) (by ((repeat' (first | (with_reducible assumption) | (with_reducible exact Fr.refl _ _) | (with_reducible refine Fr.drew ?_) | (with_reducible refine Fr.drewN ?_ _) | (with_reducible refine Fr.alloc ?_ _) | (with_reducible refine Fr.setCell ?_ ?_ _))); all_goals (first | (left; simp only [List.mem_cons, true_or, or_true]; done) | (left; simp only [List.mem_cons, List.mem_append, true_or, or_true]; done) | (right; simp only []; omega) | (right; simp; done) | (right; simp; omega) | (left; simp; done)))) f2) (by simp)
        have bo := At.fr (b := w.heap.size + 1) (t := 36) (vs := #[.int .i64 0, .int .u64 0, .int .i64 0, .int .i64 0]) (by ((repeat' (first | (with_reducible assumption) | (with_reducible apply At.drew) | (with_reducible apply At.drewN) | (with_reducible refine At.newAt ?_; (simp; done)) | (with_reducible apply At.alloc) | (with_reducible apply At.set) | (with_reducible apply At.setOther))); all_goals (first | assumption | (apply Ne.symm; assumption) | omega | (simp only []; omega) | (simp; done) | (simp; omega)))) f2 (by simp)
        have co := bo.cell
        have go_ := bo.frozen
        have F2 := Fr.nil (S := l.list) (a := w) (by ((repeat' (first | (with_reducible assumption) | (with_reducible exact Fr.refl _ _) | (with_reducible refine Fr.drew ?_) | (with_reducible refine Fr.drewN ?_ _) | (with_reducible refine Fr.alloc ?_ _) | (with_reducible refine Fr.setCell ?_ ?_ _))); all_goals (first | (left; simp only [List.mem_cons, true_or, or_true]; done) | (left; simp only [List.mem_cons, List.mem_append, true_or, or_true]; done) | (right; simp only []; omega) | (right; simp; done) | (right; simp; omega) | (left; simp; done)))) f2
        go_wp2_with fail
        go_meet
        rw [HRUN'.out]
        refine ⟨?_, ?_, ?_⟩
        · (refine At.to (by ((repeat' (first | (with_reducible assumption) | (with_reducible apply At.drew) | (with_reducible apply At.drewN) | (with_reducible refine At.newAt ?_; (simp; done)) | (with_reducible apply At.alloc) | (with_reducible apply At.set) | (with_reducible apply At.setOther))); all_goals (first | assumption | (apply Ne.symm; assumption) | omega | (simp only []; omega) | (simp; done) | (simp; omega)))) ?_; (first | rfl | (simp [inc]; done) | (simp [inc, IntWalk.i64_left]; done)))
        · ((repeat' (first | (with_reducible assumption) | (with_reducible apply MemAt.drew) | (with_reducible apply MemAt.drewN) | (with_reducible apply MemAt.alloc) | (with_reducible apply MemAt.setN))); all_goals (first | assumption | (simp only []; assumption) | (refine nl _ ?_; first | omega | (simp only []; omega) | (simp; omega))))
        · ((repeat' (first | (with_reducible assumption) | (with_reducible exact Fr.refl _ _) | (with_reducible refine Fr.drew ?_) | (with_reducible refine Fr.drewN ?_ _) | (with_reducible refine Fr.alloc ?_ _) | (with_reducible refine Fr.setCell ?_ ?_ _))); all_goals (first | (left; simp only [List.mem_cons, true_or, or_true]; done) | (left; simp only [List.mem_cons, List.mem_append, true_or, or_true]; done) | (right; simp only []; omega) | (right; simp; done) | (right; simp; omega) | (left; simp; done)))
      case rest =>
        obtain ⟨B, M, F⟩ := hcut
        have cB := B.cell
        go_wp2
        refine bodyPost_ret (v := .agg (Alloc.run e 400 (Alloc.new size own) m0).1.out.arr) (by simp [results, Try.results22, go_sem, cB]) rfl ⟨rfl, M, F⟩
end Go.Proofs.Ytkgbifagledcaaa.FL
