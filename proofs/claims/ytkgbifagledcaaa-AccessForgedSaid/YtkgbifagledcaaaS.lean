/-
  The contracts of a fresh arena: mem.New, layout.Check, layout.Fresh, the statements' own Arena.
-/
import Derived.Test.YtkgbifagledcaaaC
import Derived.Test.YtkgbifagledcaaaD
import Derived.Test.YtkgbifagledcaaaPW
import Derived.Laws.OwnMore
import Derived.Deep.DeepCutAuto
namespace Go.Proofs.Ytkgbifagledcaaa.FL
open Go Go.RowKit
set_option linter.unusedVariables false
set_option linter.unusedSimpArgs false
set_option maxRecDepth 20000
set_option maxHeartbeats 4000000
attribute [local go_sem ↓] Go.wp_at_zero Go.wp_at_succ
attribute [local go_sem] fieldSlot0 fieldSlot1 fieldSlot2 fieldSlot3 fieldChunk0 fieldChunk1 fieldChunk3 fieldCell0

theorem infoU64 : (Try.prog.info? 23).map (fun i => (i.zero, i.size, i.bytes)) = some (some (.int .u64 0), 1, 8) := by kernel_rfl
theorem infoI64 : (Try.prog.info? 3).map (fun i => (i.zero, i.size, i.bytes)) = some (some (.int .i64 0), 1, 8) := by kernel_rfl
theorem makeU64 (w : World) (n : Nat) (hn : n ≤ 1048576) : (Instr.makeSlice 38 (.int .i64 (n : Int)) (.int .i64 (n : Int))).run Try.prog w = .ok (.slice (some ⟨w.heap.size, 0, none⟩) n n) (w.alloc (.cells ((List.replicate n (0 : Int)).map (Value.int .u64)).toArray 23)) := by
  obtain ⟨i, hi, hz, hs, hb⟩ := info_parts infoU64
  have := run_make (P := Try.prog) w 38 23 i _ Try.underlying38 hi hz .i64 .i64 (n : Int) (n : Int) (by omega) (by omega) (by rw [hb]; omega) (by omega)
  rw [this, hs]
  simp only [Int.toNat_natCast, Nat.mul_one]
  congr 4
  apply Array.toList_inj.1
  rw [show Value.cells (.int .u64 0) = #[.int .u64 0] from rfl, toList_madeCells_one]
  simp
theorem makeI64 (w : World) (n : Nat) (hn : n ≤ 1048576) : (Instr.makeSlice 22 (.int .i64 (n : Int)) (.int .i64 (n : Int))).run Try.prog w = .ok (.slice (some ⟨w.heap.size, 0, none⟩) n n) (w.alloc (.cells ((List.replicate n (0 : Int)).map (Value.int .i64)).toArray 3)) := by
  obtain ⟨i, hi, hz, hs, hb⟩ := info_parts infoI64
  have := run_make (P := Try.prog) w 22 3 i _ Try.underlying22 hi hz .i64 .i64 (n : Int) (n : Int) (by omega) (by omega) (by rw [hb]; omega) (by omega)
  rw [this, hs]
  simp only [Int.toNat_natCast, Nat.mul_one]
  congr 4
  apply Array.toList_inj.1
  rw [show Value.cells (.int .i64 0) = #[.int .i64 0] from rfl, toList_madeCells_one]
  simp

theorem newMem_any (w : World) (n : Nat) (h1 : 1 ≤ n) (h2 : n ≤ 1048576) :
    Calls Try.prog 107 #[.int .i64 (n : Int)] w fun r w' => ∃ l : Loc, r = .returned (.tuple #[.pointer (some ⟨l.m, 0, none⟩), .int .i64 0]) ∧ (∀ k ∈ l.list, w.heap.size ≤ k) ∧ MemAt w' l (Mem.new n) ∧ Fr [] w w' := by
  have m1 := fun w => makeU64 w n h2
  have m2 := fun w => makeI64 w n h2
  have d1 : decide ((n : Int) < 1) = false := by simp; omega
  have d2 : decide ((1048576 : Int) < n) = false := by simp; omega
  have H2 := hid h2
  clear h1 h2
  go_enter Try.func107, Try.ntmps107
  go_wp2
  go_region
  all_goals
    go_wp2
    go_ret2
  · refine ⟨⟨w.heap.size + 1 + 1, w.heap.size, w.heap.size + 1⟩, rfl, (by intro k hk; simp only [Loc.list, List.mem_cons, List.not_mem_nil, or_false] at hk; rcases hk with rfl | rfl | rfl <;> omega), ⟨?_, ?_, ?_, (by simp only []; omega), (by simp only []; omega), (by simp only []; omega), by simp [Mem.new], by have := H2.out; simp [Mem.new]; omega⟩, ?_⟩
    · refine At.to (At.newAt (by simp)) ?_
      simp [Mem.cells, Mem.new]
    · show At _ (w.heap.size) 23 ((List.replicate n (0 : Int)).map (Value.int .u64)).toArray
      refine At.to (by ((repeat' (first | (with_reducible assumption) | (with_reducible apply At.drew) | (with_reducible apply At.drewN) | (with_reducible refine At.newAt ?_; (simp; done)) | (with_reducible apply At.alloc) | (with_reducible apply At.set) | (with_reducible apply At.setOther))); all_goals (first | assumption | (apply Ne.symm; assumption) | omega | (simp only []; omega) | (simp; done) | (simp; omega)))) ?_; simp
    · show At _ (w.heap.size + 1) 3 ((List.replicate n (0 : Int)).map (Value.int .i64)).toArray
      refine At.to (by ((repeat' (first | (with_reducible assumption) | (with_reducible apply At.drew) | (with_reducible apply At.drewN) | (with_reducible refine At.newAt ?_; (simp; done)) | (with_reducible apply At.alloc) | (with_reducible apply At.set) | (with_reducible apply At.setOther))); all_goals (first | assumption | (apply Ne.symm; assumption) | omega | (simp only []; omega) | (simp; done) | (simp; omega)))) ?_; simp
    · ((repeat' (first | (with_reducible assumption) | (with_reducible exact Fr.refl _ _) | (with_reducible refine Fr.drew ?_) | (with_reducible refine Fr.drewN ?_ _) | (with_reducible refine Fr.alloc ?_ _) | (with_reducible refine Fr.setCell ?_ ?_ _))); all_goals (first | (left; simp only [List.mem_cons, true_or, or_true]; done) | (left; simp only [List.mem_cons, List.mem_append, true_or, or_true]; done) | (right; simp only []; omega) | (right; simp; done) | (right; simp; omega) | (left; simp; done)))
  · refine ⟨⟨w.heap.size + 1 + 1, w.heap.size + 1, w.heap.size⟩, rfl, (by intro k hk; simp only [Loc.list, List.mem_cons, List.not_mem_nil, or_false] at hk; rcases hk with rfl | rfl | rfl <;> omega), ⟨?_, ?_, ?_, (by simp only []; omega), (by simp only []; omega), (by simp only []; omega), by simp [Mem.new], by have := H2.out; simp [Mem.new]; omega⟩, ?_⟩
    · refine At.to (At.newAt (by simp)) ?_
      simp [Mem.cells, Mem.new]
    · show At _ (w.heap.size + 1) 23 ((List.replicate n (0 : Int)).map (Value.int .u64)).toArray
      refine At.to (by ((repeat' (first | (with_reducible assumption) | (with_reducible apply At.drew) | (with_reducible apply At.drewN) | (with_reducible refine At.newAt ?_; (simp; done)) | (with_reducible apply At.alloc) | (with_reducible apply At.set) | (with_reducible apply At.setOther))); all_goals (first | assumption | (apply Ne.symm; assumption) | omega | (simp only []; omega) | (simp; done) | (simp; omega)))) ?_; simp
    · show At _ (w.heap.size) 3 ((List.replicate n (0 : Int)).map (Value.int .i64)).toArray
      refine At.to (by ((repeat' (first | (with_reducible assumption) | (with_reducible apply At.drew) | (with_reducible apply At.drewN) | (with_reducible refine At.newAt ?_; (simp; done)) | (with_reducible apply At.alloc) | (with_reducible apply At.set) | (with_reducible apply At.setOther))); all_goals (first | assumption | (apply Ne.symm; assumption) | omega | (simp only []; omega) | (simp; done) | (simp; omega)))) ?_; simp
    · ((repeat' (first | (with_reducible assumption) | (with_reducible exact Fr.refl _ _) | (with_reducible refine Fr.drew ?_) | (with_reducible refine Fr.drewN ?_ _) | (with_reducible refine Fr.alloc ?_ _) | (with_reducible refine Fr.setCell ?_ ?_ _))); all_goals (first | (left; simp only [List.mem_cons, true_or, or_true]; done) | (left; simp only [List.mem_cons, List.mem_append, true_or, or_true]; done) | (right; simp only []; omega) | (right; simp; done) | (right; simp; omega) | (left; simp; done)))

theorem cfgCheck_any (c : Cfg) (w : World) (hc : c.check = true) :
    Calls Try.prog 106 #[.agg c.arr] w fun r w' => r = .returned (.bool true) ∧ Fr [] w w' := by
  obtain ⟨t, s, k, ws, g, sp, tr⟩ := c
  simp only [Cfg.check, Bool.and_eq_true] at hc
  obtain ⟨⟨⟨⟨⟨t1, t2⟩, s1⟩, s2⟩, ⟨⟨k1, k2⟩, w1⟩, w2⟩, ⟨⟨⟨⟨g1, g2⟩, p1⟩, p2⟩, r1⟩, r2⟩ := hc
  go_enter Try.func106, Try.ntmps106
  go_wp2
  go_ret
  exact ⟨rfl, by ((repeat' (first | (with_reducible assumption) | (with_reducible exact Fr.refl _ _) | (with_reducible refine Fr.drew ?_) | (with_reducible refine Fr.drewN ?_ _) | (with_reducible refine Fr.alloc ?_ _) | (with_reducible refine Fr.setCell ?_ ?_ _))); all_goals (first | (left; simp only [List.mem_cons, true_or, or_true]; done) | (left; simp only [List.mem_cons, List.mem_append, true_or, or_true]; done) | (right; simp only []; omega) | (right; simp; done) | (right; simp; omega) | (left; simp; done)))⟩

theorem Mem.len_new (n : Nat) : (Mem.new n).w.length = n := by simp [Mem.new]
theorem freshSlots_len (c : Cfg) : ∀ (k : Nat) (m : Mem), (freshSlots c k m).w.length = m.w.length
  | 0, _ => rfl
  | k + 1, m => by unfold freshSlots; simp only [Mem.len_store]; exact freshSlots_len c k m

theorem mstore_any (w : World) (l : Loc) (m : Mem) (h : MemAt w l m) (a v : Int) :
    Calls Try.prog 41 #[.pointer (some ⟨l.m, 0, none⟩), .int .i64 a, .int .u64 v] w fun r w' => ∃ n, r = .returned (.int .i64 n) ∧ MemAt w' l (m.store m.who a v) ∧ Fr l.list w w' := by
  cases ha : m.has a with
  | true =>
    refine (store_yes w l m h a v ha).mono ?_
    rintro r w' ⟨rfl, h1, f1⟩
    simp only [Mem.store, ha, if_true]
    exact ⟨_, rfl, h1, f1⟩
  | false =>
    refine (store_no w l m h a v ha).mono ?_
    rintro r w' ⟨rfl, rfl⟩
    simp only [Mem.store, ha, Bool.false_eq_true, if_false]
    exact ⟨_, rfl, h, Fr.refl _ _⟩

def FreshAt (w wr : World) (c : Cfg) (l : Loc) (N k : Nat) : Prop :=
  MemAt wr l (freshSlots c k (Mem.new N)) ∧ At wr w.heap.size 27 c.arr ∧ Fr [] w wr
theorem freshMem_any (c : Cfg) (w : World) (hc : c.check = true) (h1 : 1 ≤ c.len) (h2 : c.len ≤ 1048576) (hs : c.slots ≤ 1000) :
    Calls Try.prog 66 #[.agg c.arr] w fun r w' => ∃ l : Loc, r = .returned (.tuple #[.pointer (some ⟨l.m, 0, none⟩), .int .i64 0]) ∧ (∀ k ∈ l.list, w.heap.size ≤ k) ∧ MemAt w' l c.fresh ∧ Fr [] w w' := by
  obtain ⟨N, hN⟩ : ∃ N, N = c.len.toNat := ⟨_, rfl⟩
  have hN' : c.len = (N : Int) := by omega
  clear hN
  have b0 := At.new w 27 c.arr
  have hs1 : 1 ≤ c.slots := by simp only [Cfg.check, Bool.and_eq_true, decide_eq_true_eq] at hc; omega
  go_enter Try.func66, Try.ntmps66
  go_wp2_with fail
  refine (cfgCheck_any c _ hc).mono ?_
  rintro r w1 ⟨rfl, f1⟩
  have b1 := At.fr (b := w.heap.size) (t := 27) (vs := c.arr) (by ((repeat' (first | (with_reducible assumption) | (with_reducible apply At.drew) | (with_reducible apply At.drewN) | (with_reducible refine At.newAt ?_; (simp; done)) | (with_reducible apply At.alloc) | (with_reducible apply At.set) | (with_reducible apply At.setOther))); all_goals (first | assumption | (apply Ne.symm; assumption) | omega | (simp only []; omega) | (simp; done) | (simp; omega)))) f1 (by simp)
  have c1 := b1.cell
  have F1 := (Fr.nil (S := []) (a := w) (by ((repeat' (first | (with_reducible assumption) | (with_reducible exact Fr.refl _ _) | (with_reducible refine Fr.drew ?_) | (with_reducible refine Fr.drewN ?_ _) | (with_reducible refine Fr.alloc ?_ _) | (with_reducible refine Fr.setCell ?_ ?_ _))); all_goals (first | (left; simp only [List.mem_cons, true_or, or_true]; done) | (left; simp only [List.mem_cons, List.mem_append, true_or, or_true]; done) | (right; simp only []; omega) | (right; simp; done) | (right; simp; omega) | (left; simp; done)))) f1)
  clear f1
  go_wp2_with fail
  refine (lenA_any c _).mono ?_
  rintro r w1 ⟨rfl, f1⟩
  have b1 := At.fr (b := w.heap.size) (t := 27) (vs := c.arr) (by ((repeat' (first | (with_reducible assumption) | (with_reducible apply At.drew) | (with_reducible apply At.drewN) | (with_reducible refine At.newAt ?_; (simp; done)) | (with_reducible apply At.alloc) | (with_reducible apply At.set) | (with_reducible apply At.setOther))); all_goals (first | assumption | (apply Ne.symm; assumption) | omega | (simp only []; omega) | (simp; done) | (simp; omega)))) f1 (by simp)
  have c1 := b1.cell
  have F1 := (Fr.nil (S := []) (a := w) (by ((repeat' (first | (with_reducible assumption) | (with_reducible exact Fr.refl _ _) | (with_reducible refine Fr.drew ?_) | (with_reducible refine Fr.drewN ?_ _) | (with_reducible refine Fr.alloc ?_ _) | (with_reducible refine Fr.setCell ?_ ?_ _))); all_goals (first | (left; simp only [List.mem_cons, true_or, or_true]; done) | (left; simp only [List.mem_cons, List.mem_append, true_or, or_true]; done) | (right; simp only []; omega) | (right; simp; done) | (right; simp; omega) | (left; simp; done)))) f1)
  clear f1
  rw [hN']
  rw [hN'] at h1 h2
  have HN := hid hN'
  clear hN'
  have le0 := b1.lt
  go_wp2_with fail
  refine (newMem_any _ N (by omega) (by omega)).mono ?_
  rintro r w1 ⟨l, rfl, hl, hm, f1⟩
  have b1 := At.fr (b := w.heap.size) (t := 27) (vs := c.arr) (by ((repeat' (first | (with_reducible assumption) | (with_reducible apply At.drew) | (with_reducible apply At.drewN) | (with_reducible refine At.newAt ?_; (simp; done)) | (with_reducible apply At.alloc) | (with_reducible apply At.set) | (with_reducible apply At.setOther))); all_goals (first | assumption | (apply Ne.symm; assumption) | omega | (simp only []; omega) | (simp; done) | (simp; omega)))) f1 (by simp)
  have c1 := b1.cell
  have le1 := b1.lt
  have F1 := (Fr.nil (S := []) (a := w) (by ((repeat' (first | (with_reducible assumption) | (with_reducible exact Fr.refl _ _) | (with_reducible refine Fr.drew ?_) | (with_reducible refine Fr.drewN ?_ _) | (with_reducible refine Fr.alloc ?_ _) | (with_reducible refine Fr.setCell ?_ ?_ _))); all_goals (first | (left; simp only [List.mem_cons, true_or, or_true]; done) | (left; simp only [List.mem_cons, List.mem_append, true_or, or_true]; done) | (right; simp only []; omega) | (right; simp; done) | (right; simp; omega) | (left; simp; done)))) f1)
  have n0 : w.heap.size ∉ l.list := fun q => by have := hl _ q; (try simp only [World.size_drew] at this); omega
  have hl' : ∀ x ∈ l.list, x < w.heap.size → x ∈ ([] : List Nat) := fun x hx hlt => by have := hl x hx; (try simp only [World.size_drew] at this); omega
  have HL := hid hl
  have HL' := hid hl'
  clear hl hl' f1
  go_wp2
  go_loopw [21] (fun i wr => ∃ k : Nat, (k : Int) ≤ c.slots ∧ i = .int .i64 (k : Int) ∧ FreshAt w wr c l N k) (fun i _ => c.slots.toNat - (intOf i).toNat)
  case atStart => exact ⟨0, by omega, rfl, hm, b1, F1⟩
  case round =>
    obtain ⟨k, hk, rfl, h1, b1, F1⟩ := hrel
    have c1 := b1.cell
    have le1 := b1.lt
    have HN0 := hid n0
    by_cases hlt : (k : Int) < c.slots
    · go_wp2_with (first | (go_at_call 43; (try simp only [IntWalk.i64_left]); refine (slotA_any c _ _).mono ?_; rintro r w1 ⟨rfl, f1⟩; have b1 := At.fr (b := w.heap.size) (t := 27) (vs := c.arr) (by ((repeat' (first | (with_reducible assumption) | (with_reducible apply At.drew) | (with_reducible apply At.drewN) | (with_reducible refine At.newAt ?_; (simp; done)) | (with_reducible apply At.alloc) | (with_reducible apply At.set) | (with_reducible apply At.setOther))); all_goals (first | assumption | (apply Ne.symm; assumption) | omega | (simp only []; omega) | (simp; done) | (simp; omega)))) f1 (by simp); have c1 := b1.cell; have h1 := MemAt.frl (l := l) (by ((repeat' (first | (with_reducible assumption) | (with_reducible apply MemAt.drew) | (with_reducible apply MemAt.drewN) | (with_reducible apply MemAt.alloc) | (with_reducible apply MemAt.setN))); all_goals (first | assumption | (simp only []; assumption) | (refine nl _ ?_; first | omega | (simp only []; omega) | (simp; omega))))) f1 (by simp); have F1 := (Fr.nil (S := []) (a := w) (by ((repeat' (first | (with_reducible assumption) | (with_reducible exact Fr.refl _ _) | (with_reducible refine Fr.drew ?_) | (with_reducible refine Fr.drewN ?_ _) | (with_reducible refine Fr.alloc ?_ _) | (with_reducible refine Fr.setCell ?_ ?_ _))); all_goals (first | (left; simp only [List.mem_cons, true_or, or_true]; done) | (left; simp only [List.mem_cons, List.mem_append, true_or, or_true]; done) | (right; simp only []; omega) | (right; simp; done) | (right; simp; omega) | (left; simp; done)))) f1); clear f1) | (go_at_call 44; (try simp only [IntWalk.i64_left]); refine (putSlot_any ⟨0, 0, 1, 0⟩ _).mono ?_; rintro r w1 ⟨rfl, f1⟩; have b1 := At.fr (b := w.heap.size) (t := 27) (vs := c.arr) (by ((repeat' (first | (with_reducible assumption) | (with_reducible apply At.drew) | (with_reducible apply At.drewN) | (with_reducible refine At.newAt ?_; (simp; done)) | (with_reducible apply At.alloc) | (with_reducible apply At.set) | (with_reducible apply At.setOther))); all_goals (first | assumption | (apply Ne.symm; assumption) | omega | (simp only []; omega) | (simp; done) | (simp; omega)))) f1 (by simp); have c1 := b1.cell; have h1 := MemAt.frl (l := l) (by ((repeat' (first | (with_reducible assumption) | (with_reducible apply MemAt.drew) | (with_reducible apply MemAt.drewN) | (with_reducible apply MemAt.alloc) | (with_reducible apply MemAt.setN))); all_goals (first | assumption | (simp only []; assumption) | (refine nl _ ?_; first | omega | (simp only []; omega) | (simp; omega))))) f1 (by simp); have F1 := (Fr.nil (S := []) (a := w) (by ((repeat' (first | (with_reducible assumption) | (with_reducible exact Fr.refl _ _) | (with_reducible refine Fr.drew ?_) | (with_reducible refine Fr.drewN ?_ _) | (with_reducible refine Fr.alloc ?_ _) | (with_reducible refine Fr.setCell ?_ ?_ _))); all_goals (first | (left; simp only [List.mem_cons, true_or, or_true]; done) | (left; simp only [List.mem_cons, List.mem_append, true_or, or_true]; done) | (right; simp only []; omega) | (right; simp; done) | (right; simp; omega) | (left; simp; done)))) f1); clear f1) | (go_at_call 108; (try simp only [IntWalk.i64_left]); refine (putTop_any _ _ _).mono ?_; rintro r w9 ⟨rfl, rfl⟩) | (go_at_call 41; (try simp only [IntWalk.i64_left]); refine (mstore_any _ l _ (by ((repeat' (first | (with_reducible assumption) | (with_reducible apply MemAt.drew) | (with_reducible apply MemAt.drewN) | (with_reducible apply MemAt.alloc) | (with_reducible apply MemAt.setN))); all_goals (first | assumption | (simp only []; assumption) | (refine nl _ ?_; first | omega | (simp only []; omega) | (simp; omega))))) _ _).mono ?_; rintro r w1 ⟨n, rfl, h1, f1⟩; have b1 := At.fr (b := w.heap.size) (t := 27) (vs := c.arr) (by ((repeat' (first | (with_reducible assumption) | (with_reducible apply At.drew) | (with_reducible apply At.drewN) | (with_reducible refine At.newAt ?_; (simp; done)) | (with_reducible apply At.alloc) | (with_reducible apply At.set) | (with_reducible apply At.setOther))); all_goals (first | assumption | (apply Ne.symm; assumption) | omega | (simp only []; omega) | (simp; done) | (simp; omega)))) f1 n0; have c1 := b1.cell; have F1 := Fr.trans' (S := []) (a := w) (by ((repeat' (first | (with_reducible assumption) | (with_reducible exact Fr.refl _ _) | (with_reducible refine Fr.drew ?_) | (with_reducible refine Fr.drewN ?_ _) | (with_reducible refine Fr.alloc ?_ _) | (with_reducible refine Fr.setCell ?_ ?_ _))); all_goals (first | (left; simp only [List.mem_cons, true_or, or_true]; done) | (left; simp only [List.mem_cons, List.mem_append, true_or, or_true]; done) | (right; simp only []; omega) | (right; simp; done) | (right; simp; omega) | (left; simp; done)))) f1 HL'.out; clear f1))
      go_roundw
      case rel =>
        refine ⟨k + 1, by omega, by simp, ?_, b1, F1⟩
        have e1 : inc (k : Int) = (k : Int) + 1 := inc_in (by omega) (by omega)
        unfold freshSlots
        simp only [e1]
        exact h1
      case measure => simp [intOf]; omega
    · have HK := hid (show c.slots.toNat = k by omega)
      have e1 : wrap64 (c.slots - 1) = c.slots - 1 := wrap64_in _ (by omega) (by omega)
      have E1 := hid e1
      clear e1
      go_wp2_with (first | (go_at_call 43; (try simp only [IntWalk.i64_left]); refine (slotA_any c _ _).mono ?_; rintro r w1 ⟨rfl, f1⟩; have b1 := At.fr (b := w.heap.size) (t := 27) (vs := c.arr) (by ((repeat' (first | (with_reducible assumption) | (with_reducible apply At.drew) | (with_reducible apply At.drewN) | (with_reducible refine At.newAt ?_; (simp; done)) | (with_reducible apply At.alloc) | (with_reducible apply At.set) | (with_reducible apply At.setOther))); all_goals (first | assumption | (apply Ne.symm; assumption) | omega | (simp only []; omega) | (simp; done) | (simp; omega)))) f1 (by simp); have c1 := b1.cell; have h1 := MemAt.frl (l := l) (by ((repeat' (first | (with_reducible assumption) | (with_reducible apply MemAt.drew) | (with_reducible apply MemAt.drewN) | (with_reducible apply MemAt.alloc) | (with_reducible apply MemAt.setN))); all_goals (first | assumption | (simp only []; assumption) | (refine nl _ ?_; first | omega | (simp only []; omega) | (simp; omega))))) f1 (by simp); have F1 := (Fr.nil (S := []) (a := w) (by ((repeat' (first | (with_reducible assumption) | (with_reducible exact Fr.refl _ _) | (with_reducible refine Fr.drew ?_) | (with_reducible refine Fr.drewN ?_ _) | (with_reducible refine Fr.alloc ?_ _) | (with_reducible refine Fr.setCell ?_ ?_ _))); all_goals (first | (left; simp only [List.mem_cons, true_or, or_true]; done) | (left; simp only [List.mem_cons, List.mem_append, true_or, or_true]; done) | (right; simp only []; omega) | (right; simp; done) | (right; simp; omega) | (left; simp; done)))) f1); clear f1) | (go_at_call 109; (try simp only [IntWalk.i64_left]); refine (topA_any _).mono ?_; rintro r w9 ⟨rfl, rfl⟩) | (go_at_call 108; (try simp only [IntWalk.i64_left]); refine (putTop_any _ _ _).mono ?_; rintro r w9 ⟨rfl, rfl⟩) | (go_at_call 41; (try simp only [IntWalk.i64_left]); refine (mstore_any _ l _ (by ((repeat' (first | (with_reducible assumption) | (with_reducible apply MemAt.drew) | (with_reducible apply MemAt.drewN) | (with_reducible apply MemAt.alloc) | (with_reducible apply MemAt.setN))); all_goals (first | assumption | (simp only []; assumption) | (refine nl _ ?_; first | omega | (simp only []; omega) | (simp; omega))))) _ _).mono ?_; rintro r w1 ⟨n, rfl, h1, f1⟩; have b1 := At.fr (b := w.heap.size) (t := 27) (vs := c.arr) (by ((repeat' (first | (with_reducible assumption) | (with_reducible apply At.drew) | (with_reducible apply At.drewN) | (with_reducible refine At.newAt ?_; (simp; done)) | (with_reducible apply At.alloc) | (with_reducible apply At.set) | (with_reducible apply At.setOther))); all_goals (first | assumption | (apply Ne.symm; assumption) | omega | (simp only []; omega) | (simp; done) | (simp; omega)))) f1 n0; have c1 := b1.cell; have F1 := Fr.trans' (S := []) (a := w) (by ((repeat' (first | (with_reducible assumption) | (with_reducible exact Fr.refl _ _) | (with_reducible refine Fr.drew ?_) | (with_reducible refine Fr.drewN ?_ _) | (with_reducible refine Fr.alloc ?_ _) | (with_reducible refine Fr.setCell ?_ ?_ _))); all_goals (first | (left; simp only [List.mem_cons, true_or, or_true]; done) | (left; simp only [List.mem_cons, List.mem_append, true_or, or_true]; done) | (right; simp only []; omega) | (right; simp; done) | (right; simp; omega) | (left; simp; done)))) f1 HL'.out; clear f1))
      go_ret2
      refine ⟨l, rfl, ?_, ?_, F1⟩
      · intro q hq
        by_cases z : w.heap.size ≤ q
        · exact z
        · have := HL'.out q hq (by omega); simp at this
      · have e2 : c.fresh = ((freshSlots c k (Mem.new N)).store (freshSlots c k (Mem.new N)).who (inc (c.slotA (c.slots - 1))) (putTop (-1) 0)).store ((freshSlots c k (Mem.new N)).store (freshSlots c k (Mem.new N)).who (inc (c.slotA (c.slots - 1))) (putTop (-1) 0)).who 1 (putTop 0 0) := by
          unfold Cfg.fresh
          simp only [HK.out, HN.out, Int.toNat_natCast, E1.out]
        rw [e2]
        exact h1

def BoxCut (w wx : World) (t : TypeId) (vs : Array Value) (l : Loc) (m : Mem) (s : Value) : Prop := s = .bool true ∧ At wx w.heap.size t vs ∧ MemAt wx l m ∧ Fr [] w wx
/-- The statements' own arena. -/
theorem arena_any (t s k ws : Int) (w : World) (hc : (arenaCfg t s k ws).check = true) (h1 : 1 ≤ (arenaCfg t s k ws).len) (h2 : (arenaCfg t s k ws).len ≤ 1048576) (hs : s ≤ 1000) :
    Calls Try.prog 20 #[.int .i64 t, .int .i64 s, .int .i64 k, .int .i64 ws] w fun r w' => ∃ l : Loc, r = .returned (.tuple #[.agg ((arenaEnv t s k ws).arr l), .bool true]) ∧ (∀ x ∈ l.list, w.heap.size ≤ x) ∧ MemAt w' l (arenaCfg t s k ws).fresh ∧ Fr [] w w' := by
  go_enter Try.func20, Try.ntmps20
  go_wp2_with fail
  refine (freshMem_any (arenaCfg t s k ws) _ hc h1 h2 hs).mono ?_
  rintro r w1 ⟨l, rfl, hl, hm, f1⟩
  have b0 := At.fr (b := w.heap.size) (t := 30) (by ((repeat' (first | (with_reducible assumption) | (with_reducible apply At.drew) | (with_reducible apply At.drewN) | (with_reducible refine At.newAt ?_; (simp; done)) | (with_reducible apply At.alloc) | (with_reducible apply At.set) | (with_reducible apply At.setOther))); all_goals (first | assumption | (apply Ne.symm; assumption) | omega | (simp only []; omega) | (simp; done) | (simp; omega)))) f1 (by simp)
  have nl : ∀ q, q = w.heap.size → q ∉ l.list := fun q hq hm => by have := hl _ hm; simp at this; omega
  have b1 := At.fr (b := w.heap.size + 1) (t := 27) (vs := #[.int .i64 t, .int .i64 s, .int .i64 k, .int .i64 ws, .int .i64 100, .int .i64 600, .int .i64 3]) (by ((repeat' (first | (with_reducible assumption) | (with_reducible apply At.drew) | (with_reducible apply At.drewN) | (with_reducible refine At.newAt ?_; (simp; done)) | (with_reducible apply At.alloc) | (with_reducible apply At.set) | (with_reducible apply At.setOther))); all_goals (first | assumption | (apply Ne.symm; assumption) | omega | (simp only []; omega) | (simp; done) | (simp; omega)))) f1 (by simp)
  have c0 := b0.cell
  have c1 := b1.cell
  have g0 := b0.frozen
  have n0 : w.heap.size ∉ l.list := fun q => by have := hl _ q; simp at this; omega
  have F1 := (Fr.nil (S := []) (a := w) (by ((repeat' (first | (with_reducible assumption) | (with_reducible exact Fr.refl _ _) | (with_reducible refine Fr.drew ?_) | (with_reducible refine Fr.drewN ?_ _) | (with_reducible refine Fr.alloc ?_ _) | (with_reducible refine Fr.setCell ?_ ?_ _))); all_goals (first | (left; simp only [List.mem_cons, true_or, or_true]; done) | (left; simp only [List.mem_cons, List.mem_append, true_or, or_true]; done) | (right; simp only []; omega) | (right; simp; done) | (right; simp; omega) | (left; simp; done)))) f1)
  have HL := hid hl
  clear f1 hl
  go_upto_region 3 with (fail)
  go_cut [9] (fun s9 wx => BoxCut w wx 30 ((arenaEnv t s k ws).arr l) l (arenaCfg t s k ws).fresh s9)
  case first =>
    go_wp2_with fail
    go_meet
    refine ⟨rfl, ?_, ?_, ?_⟩
    · (refine At.to (by ((repeat' (first | (with_reducible assumption) | (with_reducible apply At.drew) | (with_reducible apply At.drewN) | (with_reducible refine At.newAt ?_; (simp; done)) | (with_reducible apply At.alloc) | (with_reducible apply At.set) | (with_reducible apply At.setOther))); all_goals (first | assumption | (apply Ne.symm; assumption) | omega | (simp only []; omega) | (simp; done) | (simp; omega)))) ?_; (first | rfl | (simp [inc]; done) | (simp [inc, IntWalk.i64_left]; done)))
    · ((repeat' (first | (with_reducible assumption) | (with_reducible apply MemAt.drew) | (with_reducible apply MemAt.drewN) | (with_reducible apply MemAt.alloc) | (with_reducible apply MemAt.setN))); all_goals (first | assumption | (simp only []; assumption) | (refine nl _ ?_; first | omega | (simp only []; omega) | (simp; omega))))
    · ((repeat' (first | (with_reducible assumption) | (with_reducible exact Fr.refl _ _) | (with_reducible refine Fr.drew ?_) | (with_reducible refine Fr.drewN ?_ _) | (with_reducible refine Fr.alloc ?_ _) | (with_reducible refine Fr.setCell ?_ ?_ _))); all_goals (first | (left; simp only [List.mem_cons, true_or, or_true]; done) | (left; simp only [List.mem_cons, List.mem_append, true_or, or_true]; done) | (right; simp only []; omega) | (right; simp; done) | (right; simp; omega) | (left; simp; done)))
  case rest =>
    obtain ⟨rfl, B, M, F⟩ := hcut
    have cB : ∀ i, wc.cell? ⟨w.heap.size, i, none⟩ = (#[.int .i64 t, .int .i64 s, .int .i64 k, .int .i64 ws, .int .i64 100, .int .i64 600, .int .i64 3, .pointer (some ⟨l.m, 0, none⟩), .int .i64 0] : Array Value)[i]? := B.cell
    go_wp2
    refine bodyPost_ret (v := .tuple #[.agg ((arenaEnv t s k ws).arr l), .bool true]) (by simp [results, Try.results20, go_sem, cB, arenaEnv, arenaCfg]) rfl ⟨l, rfl, fun x hx => ?_, M, F⟩
    have := HL.out x hx; simp at this; omega
end Go.Proofs.Ytkgbifagledcaaa.FL
