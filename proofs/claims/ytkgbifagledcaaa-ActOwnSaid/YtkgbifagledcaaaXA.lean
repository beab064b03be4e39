/-
  The contracts of layer 15 (act).
-/
import Derived.Test.YtkgbifagledcaaaR
import Derived.Test.YtkgbifagledcaaaT0
import Derived.Test.YtkgbifagledcaaaXP
namespace Go.Proofs.Ytkgbifagledcaaa.FL
open Go Go.RowKit
set_option linter.unusedVariables false
set_option linter.unusedSimpArgs false
set_option maxRecDepth 20000
set_option maxHeartbeats 4000000
attribute [local go_sem ↓] Go.wp_at_zero Go.wp_at_succ
attribute [local go_sem] fieldSlot0 fieldSlot1 fieldSlot2 fieldSlot3 fieldChunk0 fieldChunk1 fieldChunk3 fieldCell0

abbrev ActX.arr (x : ActX) : Array Value := #[.int .i64 x.kind, .int .i64 x.size, .int .u64 x.handle, .int .i64 x.index, .int .i64 x.value, .int .i64 x.old, .bool x.own]
/-- Who does an act lies in the blocks F. -/
def DoerP (w : World) (F : List Nat) (v : Value) : Doer → Prop
  | .alloc a => ∃ b, v = .iface 107 (.pointer (some ⟨b, 0, none⟩)) ∧ AllocAt w b F a
  | .drop a => ∃ b, v = .iface 116 (.pointer (some ⟨b, 0, none⟩)) ∧ DropAt w b F a
  | .access a => ∃ b, v = .iface 44 (.pointer (some ⟨b, 0, none⟩)) ∧ AccessAt w b F a
def ActAt (w : World) (b : Nat) (F : List Nat) (a : Act) : Prop :=
  ∃ v Fw, F = b :: Fw ∧ At w b 154 #[.int .i64 a.pin.pc, .int .u64 a.pin.epoch, .int .i64 a.pc, v, .int .i64 a.out.e, .int .u64 a.out.handle, .int .i64 a.out.value, .int .i64 a.out.stamp] ∧ DoerP w Fw v a.work ∧ b ∉ Fw
theorem DoerP.fr {w w' : World} {S F : List Nat} {v : Value} {d : Doer} (h : DoerP w F v d) (f : Fr S w w') (hs : ∀ k ∈ F, k ∉ S) : DoerP w' F v d := by
  cases d with
  | alloc a => obtain ⟨b, h1, h2⟩ := h; exact ⟨b, h1, h2.fr f hs⟩
  | drop a => obtain ⟨b, h1, h2⟩ := h; exact ⟨b, h1, h2.fr f hs⟩
  | access a => obtain ⟨b, h1, h2⟩ := h; exact ⟨b, h1, h2.fr f hs⟩
theorem DoerP.form {w : World} {F : List Nat} {v : Value} {d : Doer} (h : DoerP w F v d) : ∃ T b, v = .iface T (.pointer (some ⟨b, 0, none⟩)) := by
  cases d <;> (obtain ⟨b, h1, h2⟩ := h; exact ⟨_, _, h1⟩)
theorem DoerP.lt {w : World} {F : List Nat} {v : Value} {d : Doer} (h : DoerP w F v d) : ∀ k ∈ F, k < w.heap.size := by
  cases d with
  | alloc a => obtain ⟨b, h1, h2⟩ := h; exact h2.lt
  | drop a => obtain ⟨b, h1, h2⟩ := h; exact h2.lt
  | access a => obtain ⟨b, h1, h2⟩ := h; exact h2.lt
theorem ActAt.fr {w w' : World} {S F : List Nat} {b : Nat} {a : Act} (h : ActAt w b F a) (f : Fr S w w') (hs : ∀ k ∈ F, k ∉ S) : ActAt w' b F a := by
  obtain ⟨v, Fw, rfl, ha, hp, h1⟩ := h
  exact ⟨v, Fw, rfl, ha.fr f (hs b (by simp)), hp.fr f (fun k hk => hs k (by simp [hk])), h1⟩
theorem ActAt.lt {w : World} {F : List Nat} {b : Nat} {a : Act} (h : ActAt w b F a) : ∀ k ∈ F, k < w.heap.size := by
  obtain ⟨v, Fw, rfl, ha, hp, h1⟩ := h
  have := ha.lt; have := hp.lt
  intro k hk
  simp only [List.mem_cons] at hk
  rcases hk with rfl | hk <;> simp_all
def DoerOk : Doer → Cfg → Prop
  | .alloc a, _ => AllocOk a
  | .drop d, c => d.Ok c
  | .access a, _ => a.Ok

theorem actCheck_any (x : ActX) (w : World) :
    Calls Try.prog 64 #[.agg x.arr] w fun r w' => r = .returned (.bool x.check) ∧ Fr [] w w' := by
  go_enter Try.func64, Try.ntmps64
  go_wp2
  all_goals
    go_ret
    exact ⟨ret_bool (by first | (rw [eq_comm]; simp only [ActX.check, Bool.and_eq_false_iff, decide_eq_false_iff_not]; omega) | (rw [eq_comm]; simp only [ActX.check, Bool.and_eq_true, decide_eq_true_eq]; omega) | (simp [ActX.check, *])), by ((repeat' (first | (with_reducible assumption) | (with_reducible exact Fr.refl _ _) | (with_reducible refine Fr.drew ?_) | (with_reducible refine Fr.drewN ?_ _) | (with_reducible refine Fr.alloc ?_ _) | (with_reducible refine Fr.setCell ?_ ?_ _))); all_goals (first | (left; simp only [List.mem_cons, true_or, or_true]; done) | (left; simp only [List.mem_cons, List.mem_append, true_or, or_true]; done) | (right; simp only []; omega) | (right; simp; done) | (right; simp; omega) | (left; simp; done)))⟩

theorem actOf_any (x : ActX) (w : World) :
    Calls Try.prog 103 #[.agg x.arr] w fun r w' => ∃ v F, r = .returned v ∧ DoerP w' F v x.doer ∧ (∀ k ∈ F, w.heap.size ≤ k) ∧ Fr [] w w' := by
  by_cases k1 : x.kind = 1
  · have es : x.doer = .alloc (Alloc.new x.size x.own) := by unfold ActX.doer; rw [if_pos k1]
    rw [es]
    have d1 : (x.kind == 1) = true := by simpa using k1
    clear es k1
    go_enter Try.func103, Try.ntmps103
    go_wp2_with fail
    refine (alloc_new _ x.size x.own).mono ?_
    rintro r w1 ⟨b, rfl, hlt, hA, f1⟩
    have F1 := (Fr.nil (S := []) (a := w) (by ((repeat' (first | (with_reducible assumption) | (with_reducible exact Fr.refl _ _) | (with_reducible refine Fr.drew ?_) | (with_reducible refine Fr.drewN ?_ _) | (with_reducible refine Fr.alloc ?_ _) | (with_reducible refine Fr.setCell ?_ ?_ _))); all_goals (first | (left; simp only [List.mem_cons, true_or, or_true]; done) | (left; simp only [List.mem_cons, List.mem_append, true_or, or_true]; done) | (right; simp only []; omega) | (right; simp; done) | (right; simp; omega) | (left; simp; done)))) f1)
    simp only [World.size_alloc] at hlt
    go_wp2
    go_ret
    exact ⟨_, [b], rfl, ⟨b, rfl, hA⟩, by simp; omega, F1⟩
  by_cases k2 : x.kind = 2
  · have es : x.doer = .drop (Drop.new x.handle x.own) := by unfold ActX.doer; rw [if_neg k1, if_pos k2]
    rw [es]
    have d1 : (x.kind == 1) = false := by simpa using k1
    have d2 : (x.kind == 2) = true := by simpa using k2
    clear es k1 k2
    go_enter Try.func103, Try.ntmps103
    go_wp2_with fail
    refine (drop_new _ x.handle x.own).mono ?_
    rintro r w1 ⟨b, rfl, hlt, hA, f1⟩
    have F1 := (Fr.nil (S := []) (a := w) (by ((repeat' (first | (with_reducible assumption) | (with_reducible exact Fr.refl _ _) | (with_reducible refine Fr.drew ?_) | (with_reducible refine Fr.drewN ?_ _) | (with_reducible refine Fr.alloc ?_ _) | (with_reducible refine Fr.setCell ?_ ?_ _))); all_goals (first | (left; simp only [List.mem_cons, true_or, or_true]; done) | (left; simp only [List.mem_cons, List.mem_append, true_or, or_true]; done) | (right; simp only []; omega) | (right; simp; done) | (right; simp; omega) | (left; simp; done)))) f1)
    simp only [World.size_alloc] at hlt
    go_wp2
    go_ret
    exact ⟨_, [b], rfl, ⟨b, rfl, hA⟩, by simp; omega, F1⟩
  · have es : x.doer = .access (Access.new ⟨wrap64 (wrap64 (x.kind - 3) + 1), x.handle, x.index, x.value, x.old⟩ x.own) := by unfold ActX.doer; rw [if_neg k1, if_neg k2]
    rw [es]
    have d1 : (x.kind == 1) = false := by simpa using k1
    have d2 : (x.kind == 2) = false := by simpa using k2
    clear es k1 k2
    go_enter Try.func103, Try.ntmps103
    go_wp2_with fail
    refine (access_new _ ⟨wrap64 (wrap64 (x.kind - 3) + 1), x.handle, x.index, x.value, x.old⟩ x.own).mono ?_
    rintro r w1 ⟨b, rfl, hlt, hA, f1⟩
    have F1 := (Fr.nil (S := []) (a := w) (by ((repeat' (first | (with_reducible assumption) | (with_reducible exact Fr.refl _ _) | (with_reducible refine Fr.drew ?_) | (with_reducible refine Fr.drewN ?_ _) | (with_reducible refine Fr.alloc ?_ _) | (with_reducible refine Fr.setCell ?_ ?_ _))); all_goals (first | (left; simp only [List.mem_cons, true_or, or_true]; done) | (left; simp only [List.mem_cons, List.mem_append, true_or, or_true]; done) | (right; simp only []; omega) | (right; simp; done) | (right; simp; omega) | (left; simp; done)))) f1)
    simp only [World.size_alloc] at hlt
    go_wp2
    go_ret
    exact ⟨_, [b], rfl, ⟨b, rfl, hA⟩, by simp; omega, F1⟩
theorem actNew_no (x : ActX) (w : World) (hc : x.check = false) :
    Calls Try.prog 61 #[.agg x.arr] w fun r w' => r = .returned (.tuple #[.pointer none, .int .i64 1]) ∧ Fr [] w w' := by
  go_enter Try.func61, Try.ntmps61
  go_wp2_with fail
  refine (actCheck_any x _).mono ?_
  rw [hc]
  rintro r w1 ⟨rfl, f1⟩
  have F1 := (Fr.nil (S := []) (a := w) (by ((repeat' (first | (with_reducible assumption) | (with_reducible exact Fr.refl _ _) | (with_reducible refine Fr.drew ?_) | (with_reducible refine Fr.drewN ?_ _) | (with_reducible refine Fr.alloc ?_ _) | (with_reducible refine Fr.setCell ?_ ?_ _))); all_goals (first | (left; simp only [List.mem_cons, true_or, or_true]; done) | (left; simp only [List.mem_cons, List.mem_append, true_or, or_true]; done) | (right; simp only []; omega) | (right; simp; done) | (right; simp; omega) | (left; simp; done)))) f1)
  go_wp2
  go_ret2
  exact ⟨rfl, F1⟩
theorem actNew_yes (x : ActX) (w : World) (hc : x.check = true) :
    Calls Try.prog 61 #[.agg x.arr] w fun r w' => ∃ b F, r = .returned (.tuple #[.pointer (some ⟨b, 0, none⟩), .int .i64 0]) ∧ ActAt w' b F (Act.new x) ∧ (∀ k ∈ F, w.heap.size ≤ k) ∧ Fr [] w w' := by
  have b0 := At.new w 91 x.arr
  go_enter Try.func61, Try.ntmps61
  go_wp2_with fail
  refine (actCheck_any x _).mono ?_
  rw [hc]
  rintro r w1 ⟨rfl, f1⟩
  have b1 := At.fr (b := w.heap.size) (t := 91) (vs := x.arr) (by ((repeat' (first | (with_reducible assumption) | (with_reducible apply At.drew) | (with_reducible apply At.drewN) | (with_reducible refine At.newAt ?_; (simp; done)) | (with_reducible apply At.alloc) | (with_reducible apply At.set) | (with_reducible apply At.setOther))); all_goals (first | assumption | (apply Ne.symm; assumption) | omega | (simp only []; omega) | (simp; done) | (simp; omega)))) f1 (by simp)
  have c1 := b1.cell
  have F1 := (Fr.nil (S := []) (a := w) (by ((repeat' (first | (with_reducible assumption) | (with_reducible exact Fr.refl _ _) | (with_reducible refine Fr.drew ?_) | (with_reducible refine Fr.drewN ?_ _) | (with_reducible refine Fr.alloc ?_ _) | (with_reducible refine Fr.setCell ?_ ?_ _))); all_goals (first | (left; simp only [List.mem_cons, true_or, or_true]; done) | (left; simp only [List.mem_cons, List.mem_append, true_or, or_true]; done) | (right; simp only []; omega) | (right; simp; done) | (right; simp; omega) | (left; simp; done)))) f1)
  clear f1
  go_wp2_with fail
  refine (actOf_any x _).mono ?_
  rintro r w2 ⟨v, Fw, rfl, hD, hF, f1⟩
  have F2 := (Fr.nil (S := []) (a := w) (by ((repeat' (first | (with_reducible assumption) | (with_reducible exact Fr.refl _ _) | (with_reducible refine Fr.drew ?_) | (with_reducible refine Fr.drewN ?_ _) | (with_reducible refine Fr.alloc ?_ _) | (with_reducible refine Fr.setCell ?_ ?_ _))); all_goals (first | (left; simp only [List.mem_cons, true_or, or_true]; done) | (left; simp only [List.mem_cons, List.mem_append, true_or, or_true]; done) | (right; simp only []; omega) | (right; simp; done) | (right; simp; omega) | (left; simp; done)))) f1)
  have s1 := F1.size
  have s2 := f1.size
  have lw := hD.lt
  have HF := hid hF
  have LW := hid lw
  have HDD := hid hD
  obtain ⟨T, bb, rfl⟩ := hD.form
  clear f1 hF lw hD
  go_wp2
  go_ret2
  have hD := HDD.out
  refine ⟨w2.heap.size, w2.heap.size :: Fw, rfl, ⟨_, Fw, rfl, ?_, hD.fr (S := []) (by ((repeat' (first | (with_reducible assumption) | (with_reducible exact Fr.refl _ _) | (with_reducible refine Fr.drew ?_) | (with_reducible refine Fr.drewN ?_ _) | (with_reducible refine Fr.alloc ?_ _) | (with_reducible refine Fr.setCell ?_ ?_ _))); all_goals (first | (left; simp only [List.mem_cons, true_or, or_true]; done) | (left; simp only [List.mem_cons, List.mem_append, true_or, or_true]; done) | (right; simp only []; omega) | (right; simp; done) | (right; simp; omega) | (left; simp; done)))) (by simp), ?_⟩, ?_, by ((repeat' (first | (with_reducible assumption) | (with_reducible exact Fr.refl _ _) | (with_reducible refine Fr.drew ?_) | (with_reducible refine Fr.drewN ?_ _) | (with_reducible refine Fr.alloc ?_ _) | (with_reducible refine Fr.setCell ?_ ?_ _))); all_goals (first | (left; simp only [List.mem_cons, true_or, or_true]; done) | (left; simp only [List.mem_cons, List.mem_append, true_or, or_true]; done) | (right; simp only []; omega) | (right; simp; done) | (right; simp; omega) | (left; simp; done)))⟩
  · exact At.newAt rfl
  · intro q; have := LW.out _ q; omega
  · intro k hk
    simp only [List.mem_cons] at hk
    rcases hk with rfl | hk
    · omega
    · have := HF.out k hk; omega
end Go.Proofs.Ytkgbifagledcaaa.FL
