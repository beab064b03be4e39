/-
  The contracts of layer 1 (word) and of layout's places.
-/
import Derived.Test.YtkgbifagledcaaaC
import Derived.Test.YtkgbifagledcaaaL
import Derived.StillTailTactics
namespace Go.Proofs.Ytkgbifagledcaaa.FL
open Go Go.RowKit
set_option linter.unusedVariables false
set_option linter.unusedSimpArgs false
attribute [local go_sem ↓] Go.wp_at_zero Go.wp_at_succ

/-- A region that draws its order: quiet operations first, then a tail in its order; the world behind the draw by its name. -/
theorem region_tail {P : Program} {id : Nat} {Q : Exit → Act → World → Prop} {a : Act} {w : World} {l : List Oper} (n : Nat) (hm : P.follows .mixedOrders = true) (hB : Region.lexTailB .any l.toArray n = true)
    (h : wpStill P l.toArray w.drew (fun a' => wpList P l.toArray Q (l.drop n) a' w.drew) (l.take n) a) : (Code.region id l.toArray true).wp P Q a w := wp_region_still_tail n hm hB h
theorem fieldSlot0 (a b c d : Value) (w : World) : (Instr.field 59 (.agg #[a, b, c, d]) 0).run Try.prog w = .ok a w := by kernel_rfl
theorem fieldSlot1 (a b c d : Value) (w : World) : (Instr.field 59 (.agg #[a, b, c, d]) 1).run Try.prog w = .ok b w := by kernel_rfl
theorem fieldSlot2 (a b c d : Value) (w : World) : (Instr.field 59 (.agg #[a, b, c, d]) 2).run Try.prog w = .ok c w := by kernel_rfl
theorem fieldSlot3 (a b c d : Value) (w : World) : (Instr.field 59 (.agg #[a, b, c, d]) 3).run Try.prog w = .ok d w := by kernel_rfl
theorem fieldChunk0 (a b c d : Value) (w : World) : (Instr.field 64 (.agg #[a, b, c, d]) 0).run Try.prog w = .ok a w := by kernel_rfl
theorem fieldChunk1 (a b c d : Value) (w : World) : (Instr.field 64 (.agg #[a, b, c, d]) 1).run Try.prog w = .ok b w := by kernel_rfl
theorem fieldChunk3 (a b c d : Value) (w : World) : (Instr.field 64 (.agg #[a, b, c, d]) 3).run Try.prog w = .ok d w := by kernel_rfl
theorem fieldCell0 (a b c : Value) (w : World) : (Instr.field 127 (.agg #[a, b, c]) 0).run Try.prog w = .ok a w := by kernel_rfl
theorem ret_int {k : IntKind} {a b : Int} (h : a = b) : Ending.returned (.int k a) = .returned (.int k b) := by rw [h]
theorem ret_bool {a b : Bool} (h : a = b) : Ending.returned (.bool a) = .returned (.bool b) := by rw [h]

theorem fit_any (n most : Int) (w : World) (h0 : 0 ≤ most) (h1 : most < 18446744073709551616) :
    Calls Try.prog 99 #[.int .i64 n, .int .i64 most] w fun e w' => e = .returned (.int .u64 (fit n most)) ∧ w' = w := by
  go_enter Try.func99, Try.ntmps99
  go_wp2
  all_goals go_ret
  all_goals (refine ⟨ret_int ?_, rfl⟩; unfold fit; (repeat' split) <;> omega)

theorem slotOf_any (x : Int) (w : World) :
    Calls Try.prog 77 #[.int .u64 x] w fun e w' => e = .returned (.agg #[.int .i64 (slotOf x).state, .int .i64 (slotOf x).addr, .int .i64 (slotOf x).gen, .int .i64 (slotOf x).ver]) ∧ Fr [] w w' := by
  go_enter Try.func77, Try.ntmps77
  go_wp2
  go_returns
  refine ⟨?_, by ((repeat' (first | (with_reducible assumption) | (with_reducible exact Fr.refl _ _) | (with_reducible refine Fr.drew ?_) | (with_reducible refine Fr.drewN ?_ _) | (with_reducible refine Fr.alloc ?_ _) | (with_reducible refine Fr.setCell ?_ ?_ _))); all_goals (first | (left; simp only [List.mem_cons, true_or, or_true]; done) | (left; simp only [List.mem_cons, List.mem_append, true_or, or_true]; done) | (right; simp only []; omega) | (right; simp; done) | (right; simp; omega) | (left; simp; done)))⟩
  simp only [and7, and20, and16, and22, slotOf]
  rw [wrap_mod _ 8 (by omega) (by omega), wrap_mod _ 1048576 (by omega) (by omega), wrap_mod _ 65536 (by omega) (by omega), wrap_mod _ 4194304 (by omega) (by omega)]
theorem chunkOf_any (x : Int) (w : World) :
    Calls Try.prog 40 #[.int .u64 x] w fun e w' => e = .returned (.agg #[.int .i64 (chunkOf x).state, .int .i64 (chunkOf x).cls, .int .i64 (chunkOf x).used, .int .i64 (chunkOf x).stamp]) ∧ Fr [] w w' := by
  go_enter Try.func40, Try.ntmps40
  go_wp2
  go_returns
  refine ⟨?_, by ((repeat' (first | (with_reducible assumption) | (with_reducible exact Fr.refl _ _) | (with_reducible refine Fr.drew ?_) | (with_reducible refine Fr.drewN ?_ _) | (with_reducible refine Fr.alloc ?_ _) | (with_reducible refine Fr.setCell ?_ ?_ _))); all_goals (first | (left; simp only [List.mem_cons, true_or, or_true]; done) | (left; simp only [List.mem_cons, List.mem_append, true_or, or_true]; done) | (right; simp only []; omega) | (right; simp; done) | (right; simp; omega) | (left; simp; done)))⟩
  simp only [and3, and63, and20, and36, chunkOf]
  rw [wrap_mod _ 4 (by omega) (by omega), wrap_mod _ 1048576 (by omega) (by omega), wrap_mod _ 64 (by omega) (by omega), wrap_mod _ 68719476736 (by omega) (by omega)]
theorem headOf_any (x : Int) (w : World) :
    Calls Try.prog 48 #[.int .u64 x] w fun e w' => e = .returned (.agg #[.int .i64 (headOf x).kind, .int .i64 (headOf x).size, .int .i64 (headOf x).slot, .int .i64 (headOf x).gen, .bool (headOf x).own]) ∧ Fr [] w w' := by
  go_enter Try.func48, Try.ntmps48
  go_wp2
  all_goals go_returns
  all_goals (
    refine ⟨?_, by ((repeat' (first | (with_reducible assumption) | (with_reducible exact Fr.refl _ _) | (with_reducible refine Fr.drew ?_) | (with_reducible refine Fr.drewN ?_ _) | (with_reducible refine Fr.alloc ?_ _) | (with_reducible refine Fr.setCell ?_ ?_ _))); all_goals (first | (left; simp only [List.mem_cons, true_or, or_true]; done) | (left; simp only [List.mem_cons, List.mem_append, true_or, or_true]; done) | (right; simp only []; omega) | (right; simp; done) | (right; simp; omega) | (left; simp; done)))⟩
    simp only [and3, and16, and1, headOf]
    rw [wrap_mod _ 4 (by omega) (by omega), wrap_mod _ 65536 (by omega) (by omega), wrap_mod _ 65536 (by omega) (by omega), wrap_mod _ 65536 (by omega) (by omega)]
    try rfl)
theorem cellOf_any (x : Int) (w : World) :
    Calls Try.prog 84 #[.int .u64 x] w fun e w' => e = .returned (.agg #[.int .i64 (cellOf x).value, .bool (cellOf x).frozen, .int .i64 (cellOf x).ver]) ∧ Fr [] w w' := by
  by_cases g : x / 9223372036854775808 = 1
  · have e1 : cellOf x = ⟨x % 1099511627776, true, x / 1099511627776 % 4194304⟩ := by unfold cellOf; rw [if_pos g]
    rw [e1]
    have g1 : (x / 9223372036854775808 == 1) = true := by simpa using g
    clear g e1
    go_enter Try.func84, Try.ntmps84
    go_wp2
    go_returns
    refine ⟨?_, by ((repeat' (first | (with_reducible assumption) | (with_reducible exact Fr.refl _ _) | (with_reducible refine Fr.drew ?_) | (with_reducible refine Fr.drewN ?_ _) | (with_reducible refine Fr.alloc ?_ _) | (with_reducible refine Fr.setCell ?_ ?_ _))); all_goals (first | (left; simp only [List.mem_cons, true_or, or_true]; done) | (left; simp only [List.mem_cons, List.mem_append, true_or, or_true]; done) | (right; simp only []; omega) | (right; simp; done) | (right; simp; omega) | (left; simp; done)))⟩
    simp only [and40, and22]
    rw [wrap_mod _ 1099511627776 (by omega) (by omega), wrap_mod _ 4194304 (by omega) (by omega)]
  · have e1 : cellOf x = ⟨x % 1099511627776, false, 0⟩ := by unfold cellOf; rw [if_neg g]
    rw [e1]
    have g1 : (x / 9223372036854775808 == 1) = false := by simpa using g
    clear g e1
    go_enter Try.func84, Try.ntmps84
    go_wp2
    go_returns
    refine ⟨?_, by ((repeat' (first | (with_reducible assumption) | (with_reducible exact Fr.refl _ _) | (with_reducible refine Fr.drew ?_) | (with_reducible refine Fr.drewN ?_ _) | (with_reducible refine Fr.alloc ?_ _) | (with_reducible refine Fr.setCell ?_ ?_ _))); all_goals (first | (left; simp only [List.mem_cons, true_or, or_true]; done) | (left; simp only [List.mem_cons, List.mem_append, true_or, or_true]; done) | (right; simp only []; omega) | (right; simp; done) | (right; simp; omega) | (left; simp; done)))⟩
    simp only [and40]
    rw [wrap_mod _ 1099511627776 (by omega) (by omega)]
theorem handleOf_any (x : Int) (w : World) :
    Calls Try.prog 73 #[.int .u64 x] w fun e w' => e = .returned (.tuple #[.agg #[.int .i64 (handleOf x).1.slot, .int .i64 (handleOf x).1.gen], .bool (handleOf x).2]) ∧ Fr [] w w' := by
  by_cases g : x / 4294967296 = 0
  · by_cases g' : x / 65536 = 0
    · have e1 : handleOf x = (⟨0, 0⟩, false) := by unfold handleOf; rw [if_neg (by omega)]
      rw [e1]
      have g1 : (x / 4294967296 != 0) = false := by simpa using g
      have g2 : (x / 65536 == 0) = true := by simpa using g'
      clear g g' e1
      go_enter Try.func73, Try.ntmps73
      go_wp2
      go_returns
      exact ⟨rfl, by ((repeat' (first | (with_reducible assumption) | (with_reducible exact Fr.refl _ _) | (with_reducible refine Fr.drew ?_) | (with_reducible refine Fr.drewN ?_ _) | (with_reducible refine Fr.alloc ?_ _) | (with_reducible refine Fr.setCell ?_ ?_ _))); all_goals (first | (left; simp only [List.mem_cons, true_or, or_true]; done) | (left; simp only [List.mem_cons, List.mem_append, true_or, or_true]; done) | (right; simp only []; omega) | (right; simp; done) | (right; simp; omega) | (left; simp; done)))⟩
    · have e1 : handleOf x = (⟨x % 65536, x / 65536⟩, true) := by unfold handleOf; rw [if_pos (by omega)]
      rw [e1]
      have g1 : (x / 4294967296 != 0) = false := by simpa using g
      have g2 : (x / 65536 == 0) = false := by simpa using g'
      have g3 : wrap64 (x / 65536) = x / 65536 := by unfold wrap64; omega
      clear g g' e1
      go_enter Try.func73, Try.ntmps73
      go_wp2
      go_returns
      refine ⟨?_, by ((repeat' (first | (with_reducible assumption) | (with_reducible exact Fr.refl _ _) | (with_reducible refine Fr.drew ?_) | (with_reducible refine Fr.drewN ?_ _) | (with_reducible refine Fr.alloc ?_ _) | (with_reducible refine Fr.setCell ?_ ?_ _))); all_goals (first | (left; simp only [List.mem_cons, true_or, or_true]; done) | (left; simp only [List.mem_cons, List.mem_append, true_or, or_true]; done) | (right; simp only []; omega) | (right; simp; done) | (right; simp; omega) | (left; simp; done)))⟩
      simp only [and16]
      rw [wrap_mod _ 65536 (by omega) (by omega)]
      try rfl
  · have e1 : handleOf x = (⟨0, 0⟩, false) := by unfold handleOf; rw [if_neg (by omega)]
    rw [e1]
    have g1 : (x / 4294967296 != 0) = true := by simpa using g
    clear g e1
    go_enter Try.func73, Try.ntmps73
    go_wp2
    go_returns
    exact ⟨rfl, by ((repeat' (first | (with_reducible assumption) | (with_reducible exact Fr.refl _ _) | (with_reducible refine Fr.drew ?_) | (with_reducible refine Fr.drewN ?_ _) | (with_reducible refine Fr.alloc ?_ _) | (with_reducible refine Fr.setCell ?_ ?_ _))); all_goals (first | (left; simp only [List.mem_cons, true_or, or_true]; done) | (left; simp only [List.mem_cons, List.mem_append, true_or, or_true]; done) | (right; simp only []; omega) | (right; simp; done) | (right; simp; omega) | (left; simp; done)))⟩
theorem topOf_any (x : Int) (w : World) :
    Calls Try.prog 136 #[.int .u64 x] w fun e w' => e = .returned (.tuple #[.int .i64 (topOf x).1, .int .i64 (topOf x).2]) ∧ w = w' := by
  go_enter Try.func136, Try.ntmps136
  go_wp2
  go_ret2
  refine ⟨?_, rfl⟩
  simp only [and17, and36, topOf]
  rw [wrap_mod _ 131072 (by omega) (by omega), wrap_mod _ 68719476736 (by omega) (by omega)]
  have : wrap64 (x % 131072 - 1) = x % 131072 - 1 := by unfold wrap64; omega
  rw [this]
  rfl

theorem putSlot_any (s : SlotW) (w : World) :
    Calls Try.prog 44 #[.agg #[.int .i64 s.state, .int .i64 s.addr, .int .i64 s.gen, .int .i64 s.ver]] w fun e w' => e = .returned (.int .u64 (putSlot s)) ∧ Fr [] w w' := by
  go_enter Try.func44, Try.ntmps44
  go_wp2_with fail
  go_quiet ((go_at_call 99; exact Calls.quiet_of_same (fit_any _ _ _ (by omega) (by omega))))
  go_wp2
  go_ret
  exact ⟨ret_int (putSlot_bits s), by ((repeat' (first | (with_reducible assumption) | (with_reducible exact Fr.refl _ _) | (with_reducible refine Fr.drew ?_) | (with_reducible refine Fr.drewN ?_ _) | (with_reducible refine Fr.alloc ?_ _) | (with_reducible refine Fr.setCell ?_ ?_ _))); all_goals (first | (left; simp only [List.mem_cons, true_or, or_true]; done) | (left; simp only [List.mem_cons, List.mem_append, true_or, or_true]; done) | (right; simp only []; omega) | (right; simp; done) | (right; simp; omega) | (left; simp; done)))⟩
theorem putChunk_any (s : ChunkW) (w : World) :
    Calls Try.prog 42 #[.agg #[.int .i64 s.state, .int .i64 s.cls, .int .i64 s.used, .int .i64 s.stamp]] w fun e w' => e = .returned (.int .u64 (putChunk s)) ∧ Fr [] w w' := by
  go_enter Try.func42, Try.ntmps42
  go_wp2_with fail
  go_quiet ((go_at_call 99; exact Calls.quiet_of_same (fit_any _ _ _ (by omega) (by omega))))
  go_wp2
  go_ret
  exact ⟨ret_int (putChunk_bits s), by ((repeat' (first | (with_reducible assumption) | (with_reducible exact Fr.refl _ _) | (with_reducible refine Fr.drew ?_) | (with_reducible refine Fr.drewN ?_ _) | (with_reducible refine Fr.alloc ?_ _) | (with_reducible refine Fr.setCell ?_ ?_ _))); all_goals (first | (left; simp only [List.mem_cons, true_or, or_true]; done) | (left; simp only [List.mem_cons, List.mem_append, true_or, or_true]; done) | (right; simp only []; omega) | (right; simp; done) | (right; simp; omega) | (left; simp; done)))⟩
theorem putHead_any (h : HeadW) (w : World) :
    Calls Try.prog 129 #[.agg #[.int .i64 h.kind, .int .i64 h.size, .int .i64 h.slot, .int .i64 h.gen, .bool h.own]] w fun e w' => e = .returned (.int .u64 (putHead h)) ∧ Fr [] w w' := by
  have e0 : putHead h = headPart h + (if h.own then 1125899906842624 else 0) := rfl
  rw [e0]
  clear e0
  by_cases g : h.own = true
  · rw [if_pos g]
    go_enter Try.func129, Try.ntmps129
    go_wp2_with fail
    go_quiet ((go_at_call 99; exact Calls.quiet_of_same (fit_any _ _ _ (by omega) (by omega))))
    go_wp2
    go_ret
    refine ⟨ret_int ?_, by ((repeat' (first | (with_reducible assumption) | (with_reducible exact Fr.refl _ _) | (with_reducible refine Fr.drew ?_) | (with_reducible refine Fr.drewN ?_ _) | (with_reducible refine Fr.alloc ?_ _) | (with_reducible refine Fr.setCell ?_ ?_ _))); all_goals (first | (left; simp only [List.mem_cons, true_or, or_true]; done) | (left; simp only [List.mem_cons, List.mem_append, true_or, or_true]; done) | (right; simp only []; omega) | (right; simp; done) | (right; simp; omega) | (left; simp; done)))⟩
    have := headPart_bits h
    have := headPart_own h
    simp_all
  · rw [if_neg g]
    have g' : h.own = false := by simpa using g
    clear g
    go_enter Try.func129, Try.ntmps129
    go_wp2_with fail
    go_quiet ((go_at_call 99; exact Calls.quiet_of_same (fit_any _ _ _ (by omega) (by omega))))
    go_wp2
    go_ret
    refine ⟨ret_int ?_, by ((repeat' (first | (with_reducible assumption) | (with_reducible exact Fr.refl _ _) | (with_reducible refine Fr.drew ?_) | (with_reducible refine Fr.drewN ?_ _) | (with_reducible refine Fr.alloc ?_ _) | (with_reducible refine Fr.setCell ?_ ?_ _))); all_goals (first | (left; simp only [List.mem_cons, true_or, or_true]; done) | (left; simp only [List.mem_cons, List.mem_append, true_or, or_true]; done) | (right; simp only []; omega) | (right; simp; done) | (right; simp; omega) | (left; simp; done)))⟩
    have := headPart_bits h
    simp_all
theorem putCell_any (c : CellW) (w : World) :
    Calls Try.prog 83 #[.agg #[.int .i64 c.value, .bool c.frozen, .int .i64 c.ver]] w fun e w' => e = .returned (.int .u64 (putCell c)) ∧ Fr [] w w' := by
  by_cases g : c.frozen = true
  · have e0 := putCell_bits c g
    have E := hid e0
    clear e0
    go_enter Try.func83, Try.ntmps83
    go_wp2_with (first | (go_at_call 99; refine (fit_any _ _ _ (by omega) (by omega)).mono ?_; rintro e w' ⟨rfl, rfl⟩))
    go_ret
    exact ⟨ret_int E.out, by ((repeat' (first | (with_reducible assumption) | (with_reducible exact Fr.refl _ _) | (with_reducible refine Fr.drew ?_) | (with_reducible refine Fr.drewN ?_ _) | (with_reducible refine Fr.alloc ?_ _) | (with_reducible refine Fr.setCell ?_ ?_ _))); all_goals (first | (left; simp only [List.mem_cons, true_or, or_true]; done) | (left; simp only [List.mem_cons, List.mem_append, true_or, or_true]; done) | (right; simp only []; omega) | (right; simp; done) | (right; simp; omega) | (left; simp; done)))⟩
  · have g' : c.frozen = false := by simpa using g
    have e0 : fit c.value 1099511627775 = putCell c := by unfold putCell; rw [if_neg g]; omega
    have E := hid e0
    clear e0 g
    go_enter Try.func83, Try.ntmps83
    go_wp2_with (first | (go_at_call 99; refine (fit_any _ _ _ (by omega) (by omega)).mono ?_; rintro e w' ⟨rfl, rfl⟩))
    go_ret
    exact ⟨ret_int E.out, by ((repeat' (first | (with_reducible assumption) | (with_reducible exact Fr.refl _ _) | (with_reducible refine Fr.drew ?_) | (with_reducible refine Fr.drewN ?_ _) | (with_reducible refine Fr.alloc ?_ _) | (with_reducible refine Fr.setCell ?_ ?_ _))); all_goals (first | (left; simp only [List.mem_cons, true_or, or_true]; done) | (left; simp only [List.mem_cons, List.mem_append, true_or, or_true]; done) | (right; simp only []; omega) | (right; simp; done) | (right; simp; omega) | (left; simp; done)))⟩
theorem putHandle_any (h : HandleW) (w : World) :
    Calls Try.prog 117 #[.agg #[.int .i64 h.slot, .int .i64 h.gen]] w fun e w' => e = .returned (.int .u64 (putHandle h)) ∧ Fr [] w w' := by
  go_enter Try.func117, Try.ntmps117
  go_wp2_with fail
  go_quiet ((go_at_call 99; exact Calls.quiet_of_same (fit_any _ _ _ (by omega) (by omega))))
  go_wp2
  go_ret
  exact ⟨ret_int (putHandle_bits h), by ((repeat' (first | (with_reducible assumption) | (with_reducible exact Fr.refl _ _) | (with_reducible refine Fr.drew ?_) | (with_reducible refine Fr.drewN ?_ _) | (with_reducible refine Fr.alloc ?_ _) | (with_reducible refine Fr.setCell ?_ ?_ _))); all_goals (first | (left; simp only [List.mem_cons, true_or, or_true]; done) | (left; simp only [List.mem_cons, List.mem_append, true_or, or_true]; done) | (right; simp only []; omega) | (right; simp; done) | (right; simp; omega) | (left; simp; done)))⟩
theorem putTop_any (s n : Int) (w : World) :
    Calls Try.prog 108 #[.int .i64 s, .int .i64 n] w fun e w' => e = .returned (.int .u64 (putTop s n)) ∧ w = w' := by
  have e0 := putTop_bits s n
  by_cases g : 65535 < s
  · rw [if_pos g, show wrap64 (65535 + 1) = 65536 from by unfold wrap64; omega] at e0
    have E := hid e0
    clear e0
    go_enter Try.func108, Try.ntmps108
    go_wp2_with (first | (go_at_call 99; refine (fit_any _ _ _ (by omega) (by omega)).mono ?_; rintro e w' ⟨rfl, rfl⟩))
    go_ret
    exact ⟨ret_int E.out, rfl⟩
  · rw [if_neg g] at e0
    have E := hid e0
    clear e0
    go_enter Try.func108, Try.ntmps108
    go_wp2_with (first | (go_at_call 99; refine (fit_any _ _ _ (by omega) (by omega)).mono ?_; rintro e w' ⟨rfl, rfl⟩))
    go_ret
    exact ⟨ret_int E.out, rfl⟩

theorem slotA_any (c : Cfg) (i : Int) (w : World) :
    Calls Try.prog 43 #[.agg c.arr, .int .i64 i] w fun e w' => e = .returned (.int .i64 (c.slotA i)) ∧ Fr [] w w' := by
  go_enter Try.func43, Try.ntmps43
  go_wp2
  go_ret
  exact ⟨rfl, by ((repeat' (first | (with_reducible assumption) | (with_reducible exact Fr.refl _ _) | (with_reducible refine Fr.drew ?_) | (with_reducible refine Fr.drewN ?_ _) | (with_reducible refine Fr.alloc ?_ _) | (with_reducible refine Fr.setCell ?_ ?_ _))); all_goals (first | (left; simp only [List.mem_cons, true_or, or_true]; done) | (left; simp only [List.mem_cons, List.mem_append, true_or, or_true]; done) | (right; simp only []; omega) | (right; simp; done) | (right; simp; omega) | (left; simp; done)))⟩
theorem chunkA_any (c : Cfg) (i : Int) (w : World) :
    Calls Try.prog 38 #[.agg c.arr, .int .i64 i] w fun e w' => e = .returned (.int .i64 (c.chunkA i)) ∧ Fr [] w w' := by
  go_enter Try.func38, Try.ntmps38
  go_wp2
  go_ret
  exact ⟨rfl, by ((repeat' (first | (with_reducible assumption) | (with_reducible exact Fr.refl _ _) | (with_reducible refine Fr.drew ?_) | (with_reducible refine Fr.drewN ?_ _) | (with_reducible refine Fr.alloc ?_ _) | (with_reducible refine Fr.setCell ?_ ?_ _))); all_goals (first | (left; simp only [List.mem_cons, true_or, or_true]; done) | (left; simp only [List.mem_cons, List.mem_append, true_or, or_true]; done) | (right; simp only []; omega) | (right; simp; done) | (right; simp; omega) | (left; simp; done)))⟩
theorem baseA_any (c : Cfg) (i : Int) (w : World) :
    Calls Try.prog 57 #[.agg c.arr, .int .i64 i] w fun e w' => e = .returned (.int .i64 (c.baseA i)) ∧ Fr [] w w' := by
  go_enter Try.func57, Try.ntmps57
  go_wp2
  go_ret
  exact ⟨rfl, by ((repeat' (first | (with_reducible assumption) | (with_reducible exact Fr.refl _ _) | (with_reducible refine Fr.drew ?_) | (with_reducible refine Fr.drewN ?_ _) | (with_reducible refine Fr.alloc ?_ _) | (with_reducible refine Fr.setCell ?_ ?_ _))); all_goals (first | (left; simp only [List.mem_cons, true_or, or_true]; done) | (left; simp only [List.mem_cons, List.mem_append, true_or, or_true]; done) | (right; simp only []; omega) | (right; simp; done) | (right; simp; omega) | (left; simp; done)))⟩
theorem lenA_any (c : Cfg) (w : World) :
    Calls Try.prog 96 #[.agg c.arr] w fun e w' => e = .returned (.int .i64 c.len) ∧ Fr [] w w' := by
  go_enter Try.func96, Try.ntmps96
  go_wp2_with fail
  refine (baseA_any c _ _).mono ?_
  rintro e w1 ⟨rfl, f1⟩
  go_wp2
  go_ret
  exact ⟨rfl, ((Fr.refl _ _).alloc _).trans f1⟩
theorem openA_any (i : Int) (w : World) :
    Calls Try.prog 53 #[.int .i64 i] w fun e w' => e = .returned (.int .i64 (openA i)) ∧ w = w' := by
  go_enter Try.func53, Try.ntmps53
  go_wp2
  go_ret
  exact ⟨rfl, rfl⟩
theorem pinA_any (i : Int) (w : World) :
    Calls Try.prog 62 #[.int .i64 i] w fun e w' => e = .returned (.int .i64 (pinA i)) ∧ w = w' := by
  go_enter Try.func62, Try.ntmps62
  go_wp2
  go_ret
  exact ⟨rfl, rfl⟩
theorem topA_any (w : World) :
    Calls Try.prog 109 #[] w fun e w' => e = .returned (.int .i64 1) ∧ w = w' := by
  go_enter Try.func109, Try.ntmps109
  go_wp2
  go_ret
  exact ⟨rfl, rfl⟩
theorem epochA_any (w : World) :
    Calls Try.prog 134 #[] w fun e w' => e = .returned (.int .i64 0) ∧ w = w' := by
  go_enter Try.func134, Try.ntmps134
  go_wp2
  go_ret
  exact ⟨rfl, rfl⟩
theorem room_any (i : Int) (w : World) (h : 0 ≤ i) :
    Calls Try.prog 46 #[.int .i64 i] w fun e w' => e = .returned (.int .i64 (room i)) ∧ w = w' := by
  go_enter Try.func46, Try.ntmps46
  go_wp2
  go_ret
  exact ⟨rfl, rfl⟩
theorem classOf_any (i : Int) (w : World) :
    Calls Try.prog 47 #[.int .i64 i] w fun e w' => e = .returned (.int .i64 (classOf i)) ∧ w = w' := by
  by_cases h1 : 1 ≤ i
  · by_cases h2 : i ≤ 2
    · rw [show classOf i = 0 from by unfold classOf; rw [if_pos h1, if_pos h2]]
      go_enter Try.func47, Try.ntmps47
      go_wp2
      go_rounds 5
      all_goals go_ret
      all_goals exact ⟨rfl, rfl⟩
    · by_cases h3 : i ≤ 4
      · rw [show classOf i = 1 from by unfold classOf; rw [if_pos h1, if_neg h2, if_pos h3]]
        go_enter Try.func47, Try.ntmps47
        go_wp2
        go_rounds 5
        all_goals go_ret
        all_goals exact ⟨rfl, rfl⟩
      · by_cases h4 : i ≤ 8
        · rw [show classOf i = 2 from by unfold classOf; rw [if_pos h1, if_neg h2, if_neg h3, if_pos h4]]
          go_enter Try.func47, Try.ntmps47
          go_wp2
          go_rounds 5
          all_goals go_ret
          all_goals exact ⟨rfl, rfl⟩
        · by_cases h5 : i ≤ 16
          · rw [show classOf i = 3 from by unfold classOf; rw [if_pos h1, if_neg h2, if_neg h3, if_neg h4, if_pos h5]]
            go_enter Try.func47, Try.ntmps47
            go_wp2
            go_rounds 5
            all_goals go_ret
            all_goals exact ⟨rfl, rfl⟩
          · rw [show classOf i = -1 from by unfold classOf; rw [if_pos h1, if_neg h2, if_neg h3, if_neg h4, if_neg h5]]
            go_enter Try.func47, Try.ntmps47
            go_wp2
            go_rounds 5
            all_goals go_ret
            all_goals exact ⟨rfl, rfl⟩
  · rw [show classOf i = -1 from by unfold classOf; rw [if_neg h1]]
    go_enter Try.func47, Try.ntmps47
    go_wp2
    go_rounds 5
    all_goals go_ret
    all_goals exact ⟨rfl, rfl⟩

theorem live_any (s : SlotW) (h : HandleW) (w : World) :
    Calls Try.prog 76 #[.agg #[.int .i64 s.state, .int .i64 s.addr, .int .i64 s.gen, .int .i64 s.ver], .agg #[.int .i64 h.slot, .int .i64 h.gen]] w
      fun e w' => e = .returned (.bool (live s h)) ∧ Fr [] w w' := by
  have eg : decide (s.gen = h.gen) = (s.gen == h.gen) := by rw [Bool.eq_iff_iff]; simp
  by_cases h1 : s.state = 1
  · have g1 : (s.state == 1) = true := by simpa using h1
    have E := hid (show live s h = (s.gen == h.gen) by unfold live; rw [eg]; simp [h1])
    clear h1 eg
    go_enter Try.func76, Try.ntmps76
    go_wp2
    all_goals go_ret
    all_goals exact ⟨ret_bool E.out.symm, by ((repeat' (first | (with_reducible assumption) | (with_reducible exact Fr.refl _ _) | (with_reducible refine Fr.drew ?_) | (with_reducible refine Fr.drewN ?_ _) | (with_reducible refine Fr.alloc ?_ _) | (with_reducible refine Fr.setCell ?_ ?_ _))); all_goals (first | (left; simp only [List.mem_cons, true_or, or_true]; done) | (left; simp only [List.mem_cons, List.mem_append, true_or, or_true]; done) | (right; simp only []; omega) | (right; simp; done) | (right; simp; omega) | (left; simp; done)))⟩
  · by_cases h2 : s.state = 2
    · have g1 : (s.state == 1) = false := by simpa using h1
      have g2 : (s.state == 2) = true := by simpa using h2
      have E := hid (show live s h = (s.gen == h.gen) by unfold live; rw [eg]; simp [h2])
      clear h1 h2 eg
      go_enter Try.func76, Try.ntmps76
      go_wp2
      all_goals go_ret
      all_goals exact ⟨ret_bool E.out.symm, by ((repeat' (first | (with_reducible assumption) | (with_reducible exact Fr.refl _ _) | (with_reducible refine Fr.drew ?_) | (with_reducible refine Fr.drewN ?_ _) | (with_reducible refine Fr.alloc ?_ _) | (with_reducible refine Fr.setCell ?_ ?_ _))); all_goals (first | (left; simp only [List.mem_cons, true_or, or_true]; done) | (left; simp only [List.mem_cons, List.mem_append, true_or, or_true]; done) | (right; simp only []; omega) | (right; simp; done) | (right; simp; omega) | (left; simp; done)))⟩
    · by_cases h3 : s.state = 4
      · have g1 : (s.state == 1) = false := by simpa using h1
        have g2 : (s.state == 2) = false := by simpa using h2
        have g3 : (s.state == 4) = true := by simpa using h3
        have E := hid (show live s h = (s.gen == h.gen) by unfold live; rw [eg]; simp [h3])
        clear h1 h2 h3 eg
        go_enter Try.func76, Try.ntmps76
        go_wp2
        all_goals go_ret
        all_goals exact ⟨ret_bool E.out.symm, by ((repeat' (first | (with_reducible assumption) | (with_reducible exact Fr.refl _ _) | (with_reducible refine Fr.drew ?_) | (with_reducible refine Fr.drewN ?_ _) | (with_reducible refine Fr.alloc ?_ _) | (with_reducible refine Fr.setCell ?_ ?_ _))); all_goals (first | (left; simp only [List.mem_cons, true_or, or_true]; done) | (left; simp only [List.mem_cons, List.mem_append, true_or, or_true]; done) | (right; simp only []; omega) | (right; simp; done) | (right; simp; omega) | (left; simp; done)))⟩
      · have g1 : (s.state == 1) = false := by simpa using h1
        have g2 : (s.state == 2) = false := by simpa using h2
        have g3 : (s.state == 4) = false := by simpa using h3
        have E := hid (show live s h = false by unfold live; simp [h1, h2, h3])
        clear h1 h2 h3 eg
        go_enter Try.func76, Try.ntmps76
        go_wp2
        all_goals go_ret
        all_goals exact ⟨ret_bool E.out.symm, by ((repeat' (first | (with_reducible assumption) | (with_reducible exact Fr.refl _ _) | (with_reducible refine Fr.drew ?_) | (with_reducible refine Fr.drewN ?_ _) | (with_reducible refine Fr.alloc ?_ _) | (with_reducible refine Fr.setCell ?_ ?_ _))); all_goals (first | (left; simp only [List.mem_cons, true_or, or_true]; done) | (left; simp only [List.mem_cons, List.mem_append, true_or, or_true]; done) | (right; simp only []; omega) | (right; simp; done) | (right; simp; omega) | (left; simp; done)))⟩

theorem of_any (c : Cfg) (a : Int) (w : World) (hw : c.words ≠ 0) :
    Calls Try.prog 39 #[.agg c.arr, .int .i64 a] w fun e w' => e = .returned (.int .i64 (c.of a)) ∧ Fr [] w w' := by
  by_cases h1 : a < c.baseA 0
  · have E := hid (show c.of a = -1 by unfold Cfg.of; rw [if_pos (Or.inl h1)])
    have g1 : decide (a < c.baseA 0) = true := by simpa using h1
    go_enter Try.func39, Try.ntmps39
    go_wp2_with fail
    refine (baseA_any c _ _).mono ?_
    rintro e w1 ⟨rfl, f1⟩
    go_wp2_with fail
    go_ret
    exact ⟨ret_int E.out.symm, ((Fr.refl _ _).alloc _).trans f1⟩
  · have g1 : decide (a < c.baseA 0) = false := by simpa using h1
    by_cases h2 : c.len ≤ a
    · have E := hid (show c.of a = -1 by unfold Cfg.of; rw [if_pos (Or.inr h2)])
      have g2 : decide (c.len ≤ a) = true := by simpa using h2
      go_enter Try.func39, Try.ntmps39
      go_wp2_with fail
      refine (baseA_any c _ _).mono ?_
      rintro e w1 ⟨rfl, f1⟩
      have b1 := (At.new w 27 c.arr).fr f1 (by simp)
      have c1 := b1.cell
      go_wp2_with fail
      refine (lenA_any c _).mono ?_
      rintro e w2 ⟨rfl, f2⟩
      go_wp2_with fail
      go_ret
      exact ⟨ret_int E.out.symm, (((Fr.refl _ _).alloc _).trans f1).trans f2⟩
    · have g2 : decide (c.len ≤ a) = false := by simpa using h2
      have E := hid (show c.of a = wrap64 ((wrap64 (a - c.baseA 0)).tdiv c.words) by unfold Cfg.of; rw [if_neg (by omega)])
      have g3 : (c.words == 0) = false := by simpa using hw
      go_enter Try.func39, Try.ntmps39
      go_wp2_with fail
      refine (baseA_any c _ _).mono ?_
      rintro e w1 ⟨rfl, f1⟩
      have b1 := (At.new w 27 c.arr).fr f1 (by simp)
      have c1 := b1.cell
      go_wp2_with fail
      refine (lenA_any c _).mono ?_
      rintro e w2 ⟨rfl, f2⟩
      have b2 := b1.fr f2 (by simp)
      have c2 := b2.cell
      go_wp2_with fail
      go_ret
      exact ⟨ret_int E.out.symm, (((Fr.refl _ _).alloc _).trans f1).trans f2⟩

/-! ### the same, with the world behind the call written out -/
theorem slotOf_exact (x : Int) (w : World) :
    Calls Try.prog 77 #[.int .u64 x] w fun e w' => e = .returned (.agg #[.int .i64 (slotOf x).state, .int .i64 (slotOf x).addr, .int .i64 (slotOf x).gen, .int .i64 (slotOf x).ver]) ∧ w' = w.alloc (.cells #[.int .i64 (slotOf x).state, .int .i64 (slotOf x).addr, .int .i64 (slotOf x).gen, .int .i64 (slotOf x).ver] 59) := by
  go_enter Try.func77, Try.ntmps77
  go_wp2
  go_returns
  simp only [and7, and20, and16, and22, slotOf]
  rw [wrap_mod _ 8 (by omega) (by omega), wrap_mod _ 1048576 (by omega) (by omega), wrap_mod _ 65536 (by omega) (by omega), wrap_mod _ 4194304 (by omega) (by omega)]
  exact ⟨rfl, rfl⟩
theorem cellOf_exact (x : Int) (w : World) :
    Calls Try.prog 84 #[.int .u64 x] w fun e w' => e = .returned (.agg #[.int .i64 (cellOf x).value, .bool (cellOf x).frozen, .int .i64 (cellOf x).ver]) ∧
      w' = (w.alloc (.cells #[.int .i64 (cellOf x).value, .bool (cellOf x).frozen, .int .i64 (cellOf x).ver] 127)).alloc (.cells #[.int .i64 (cellOf x).value, .bool (cellOf x).frozen, .int .i64 (cellOf x).ver] 127) := by
  by_cases g : x / 9223372036854775808 = 1
  · have e1 : cellOf x = ⟨x % 1099511627776, true, x / 1099511627776 % 4194304⟩ := by unfold cellOf; rw [if_pos g]
    rw [e1]
    have g1 : (x / 9223372036854775808 == 1) = true := by simpa using g
    clear g e1
    go_enter Try.func84, Try.ntmps84
    go_wp2
    go_returns
    simp only [and40, and22]
    rw [wrap_mod _ 1099511627776 (by omega) (by omega), wrap_mod _ 4194304 (by omega) (by omega)]
    exact ⟨rfl, rfl⟩
  · have e1 : cellOf x = ⟨x % 1099511627776, false, 0⟩ := by unfold cellOf; rw [if_neg g]
    rw [e1]
    have g1 : (x / 9223372036854775808 == 1) = false := by simpa using g
    clear g e1
    go_enter Try.func84, Try.ntmps84
    go_wp2
    go_returns
    simp only [and40]
    rw [wrap_mod _ 1099511627776 (by omega) (by omega)]
    exact ⟨rfl, rfl⟩
end Go.Proofs.Ytkgbifagledcaaa.FL
