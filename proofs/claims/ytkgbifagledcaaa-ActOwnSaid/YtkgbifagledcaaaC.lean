/-
  The contracts of an arena's memory seen through an Env (layer 4), and of what stands where.
-/
import Derived.Test.YtkgbifagledcaaaB
namespace Go.Proofs.Ytkgbifagledcaaa.FL
open Go Go.RowKit
set_option linter.unusedVariables false
set_option linter.unusedSimpArgs false
attribute [local go_sem ↓] Go.wp_at_zero Go.wp_at_succ

abbrev Cfg.arr (c : Cfg) : Array Value := #[.int .i64 c.threads, .int .i64 c.slots, .int .i64 c.chunks, .int .i64 c.words, .int .i64 c.gens, .int .i64 c.sparse, .int .i64 c.tries]
abbrev Env.arr (e : Env) (l : Loc) : Array Value :=
  #[.int .i64 e.c.threads, .int .i64 e.c.slots, .int .i64 e.c.chunks, .int .i64 e.c.words, .int .i64 e.c.gens, .int .i64 e.c.sparse, .int .i64 e.c.tries, .pointer (some ⟨l.m, 0, none⟩), .int .i64 e.who]

theorem eload_any (e : Env) (w : World) (l : Loc) (m : Mem) (h : MemAt w l m) (a : Int) :
    Calls Try.prog 75 #[.agg (e.arr l), .int .i64 a] w fun r w' => r = .returned (.int .u64 (m.load e.who a).1) ∧ MemAt w' l (m.load e.who a).2 ∧ Fr l.list w w' := by
  have hlt := h.hd.lt
  by_cases ha : m.has a = true
  · have e1 : m.load e.who a = (m.at a, m.tick e.who a) := by unfold Mem.load; rw [if_pos ha]
    rw [e1]
    clear e1
    go_enter Try.func75, Try.ntmps75
    go_wp2_with fail
    refine (by_any _ l m (h.alloc _) e.who).mono ?_
    rintro r w1 ⟨rfl, h1, f1⟩
    have b1 := (At.new w 30 (e.arr l)).fr f1 (by simp; omega)
    have c1 := b1.cell
    go_wp2_with fail
    refine (load_yes w1 l _ h1 a ha).mono ?_
    rintro r w2 ⟨rfl, h2, f2⟩
    go_wp2_with fail
    go_ret
    exact ⟨rfl, h2, (((Fr.refl _ _).alloc _).trans' f1 (by simp [Loc.list])).trans' f2 (by simp [Loc.list])⟩
  · have ha' : m.has a = false := by simpa using ha
    have e1 : m.load e.who a = (0, m.by e.who) := by unfold Mem.load; rw [if_neg ha]
    rw [e1]
    clear e1
    go_enter Try.func75, Try.ntmps75
    go_wp2_with fail
    refine (by_any _ l m (h.alloc _) e.who).mono ?_
    rintro r w1 ⟨rfl, h1, f1⟩
    have b1 := (At.new w 30 (e.arr l)).fr f1 (by simp; omega)
    have c1 := b1.cell
    go_wp2_with fail
    refine (load_no w1 l _ h1 a ha').mono ?_
    rintro r w2 ⟨rfl, rfl⟩
    go_wp2_with fail
    go_ret
    exact ⟨rfl, h1, ((Fr.refl _ _).alloc _).trans' f1 (by simp [Loc.list])⟩

theorem estore_any (e : Env) (w : World) (l : Loc) (m : Mem) (h : MemAt w l m) (a v : Int) :
    Calls Try.prog 90 #[.agg (e.arr l), .int .i64 a, .int .u64 v] w fun r w' => r = .returned (.tuple #[]) ∧ MemAt w' l (m.store e.who a v) ∧ Fr l.list w w' := by
  have hlt := h.hd.lt
  by_cases ha : m.has a = true
  · have e1 : m.store e.who a v = m.lay e.who a v := by unfold Mem.store; rw [if_pos ha]
    rw [e1]
    clear e1
    go_enter Try.func90, Try.ntmps90
    go_wp2_with fail
    refine (by_any _ l m (h.alloc _) e.who).mono ?_
    rintro r w1 ⟨rfl, h1, f1⟩
    have b1 := (At.new w 30 (e.arr l)).fr f1 (by simp; omega)
    have c1 := b1.cell
    go_wp2_with fail
    refine (store_yes w1 l _ h1 a v ha).mono ?_
    rintro r w2 ⟨rfl, h2, f2⟩
    go_wp2_with fail
    go_end0
    exact ⟨rfl, h2, (((Fr.refl _ _).alloc _).trans' f1 (by simp [Loc.list])).trans' f2 (by simp [Loc.list])⟩
  · have ha' : m.has a = false := by simpa using ha
    have e1 : m.store e.who a v = m.by e.who := by unfold Mem.store; rw [if_neg ha]
    rw [e1]
    clear e1
    go_enter Try.func90, Try.ntmps90
    go_wp2_with fail
    refine (by_any _ l m (h.alloc _) e.who).mono ?_
    rintro r w1 ⟨rfl, h1, f1⟩
    have b1 := (At.new w 30 (e.arr l)).fr f1 (by simp; omega)
    have c1 := b1.cell
    go_wp2_with fail
    refine (store_no w1 l _ h1 a v ha').mono ?_
    rintro r w2 ⟨rfl, rfl⟩
    go_wp2_with fail
    go_end0
    exact ⟨rfl, h1, ((Fr.refl _ _).alloc _).trans' f1 (by simp [Loc.list])⟩

theorem ecas_any (e : Env) (w : World) (l : Loc) (m : Mem) (h : MemAt w l m) (a old v : Int) :
    Calls Try.prog 81 #[.agg (e.arr l), .int .i64 a, .int .u64 old, .int .u64 v] w fun r w' => r = .returned (.bool (m.cas e.who a old v).1) ∧ MemAt w' l (m.cas e.who a old v).2 ∧ Fr l.list w w' := by
  have hlt := h.hd.lt
  by_cases ha : m.has a = true
  · by_cases ho : m.at a = old
    · have e1 : m.cas e.who a old v = (true, m.lay e.who a v) := by unfold Mem.cas; rw [if_pos ha, if_pos ho]
      rw [e1]
      have HO := hid ho
      clear e1 ho
      go_enter Try.func81, Try.ntmps81
      go_wp2_with fail
      refine (by_any _ l m (h.alloc _) e.who).mono ?_
      rintro r w1 ⟨rfl, h1, f1⟩
      have b1 := (At.new w 30 (e.arr l)).fr f1 (by simp; omega)
      have c1 := b1.cell
      go_wp2_with fail
      refine (cas_yes w1 l _ h1 a old v ha HO.out).mono ?_
      rintro r w2 ⟨rfl, h2, f2⟩
      go_wp2_with fail
      go_ret
      exact ⟨rfl, h2, (((Fr.refl _ _).alloc _).trans' f1 (by simp [Loc.list])).trans' f2 (by simp [Loc.list])⟩
    · have e1 : m.cas e.who a old v = (false, m.tick e.who a) := by unfold Mem.cas; rw [if_pos ha, if_neg ho]
      rw [e1]
      clear e1
      go_enter Try.func81, Try.ntmps81
      go_wp2_with fail
      refine (by_any _ l m (h.alloc _) e.who).mono ?_
      rintro r w1 ⟨rfl, h1, f1⟩
      have b1 := (At.new w 30 (e.arr l)).fr f1 (by simp; omega)
      have c1 := b1.cell
      go_wp2_with fail
      refine (cas_other w1 l _ h1 a old v ha ho).mono ?_
      rintro r w2 ⟨rfl, h2, f2⟩
      go_wp2_with fail
      go_ret
      exact ⟨rfl, h2, (((Fr.refl _ _).alloc _).trans' f1 (by simp [Loc.list])).trans' f2 (by simp [Loc.list])⟩
  · have ha' : m.has a = false := by simpa using ha
    have e1 : m.cas e.who a old v = (false, m.by e.who) := by unfold Mem.cas; rw [if_neg ha]
    rw [e1]
    clear e1
    go_enter Try.func81, Try.ntmps81
    go_wp2_with fail
    refine (by_any _ l m (h.alloc _) e.who).mono ?_
    rintro r w1 ⟨rfl, h1, f1⟩
    have b1 := (At.new w 30 (e.arr l)).fr f1 (by simp; omega)
    have c1 := b1.cell
    go_wp2_with fail
    refine (cas_no w1 l _ h1 a old v ha').mono ?_
    rintro r w2 ⟨rfl, rfl⟩
    go_wp2_with fail
    go_ret
    exact ⟨rfl, h1, ((Fr.refl _ _).alloc _).trans' f1 (by simp [Loc.list])⟩

theorem eadd_any (e : Env) (w : World) (l : Loc) (m : Mem) (h : MemAt w l m) (a d : Int) :
    Calls Try.prog 115 #[.agg (e.arr l), .int .i64 a, .int .i64 d] w fun r w' => r = .returned (.tuple #[]) ∧ MemAt w' l (m.add e.who a d) ∧ Fr l.list w w' := by
  have hlt := h.hd.lt
  by_cases ha : m.has a = true
  · have e1 : m.add e.who a d = m.lay e.who a ((m.at a + IntKind.u64.wrap d) % 18446744073709551616) := by unfold Mem.add; rw [if_pos ha, IntKind.wrap_u64]
    rw [e1]
    clear e1
    go_enter Try.func115, Try.ntmps115
    go_wp2_with fail
    refine (by_any _ l m (h.alloc _) e.who).mono ?_
    rintro r w1 ⟨rfl, h1, f1⟩
    have b1 := (At.new w 30 (e.arr l)).fr f1 (by simp; omega)
    have c1 := b1.cell
    go_wp2_with fail
    refine (add_yes w1 l _ h1 a _ ha).mono ?_
    rintro r w2 ⟨rfl, h2, f2⟩
    go_wp2_with fail
    go_end0
    exact ⟨rfl, h2, (((Fr.refl _ _).alloc _).trans' f1 (by simp [Loc.list])).trans' f2 (by simp [Loc.list])⟩
  · have ha' : m.has a = false := by simpa using ha
    have e1 : m.add e.who a d = m.by e.who := by unfold Mem.add; rw [if_neg ha]
    rw [e1]
    clear e1
    go_enter Try.func115, Try.ntmps115
    go_wp2_with fail
    refine (by_any _ l m (h.alloc _) e.who).mono ?_
    rintro r w1 ⟨rfl, h1, f1⟩
    have b1 := (At.new w 30 (e.arr l)).fr f1 (by simp; omega)
    have c1 := b1.cell
    go_wp2_with fail
    refine (add_no w1 l _ h1 a _ ha').mono ?_
    rintro r w2 ⟨rfl, rfl⟩
    go_wp2_with fail
    go_end0
    exact ⟨rfl, h1, ((Fr.refl _ _).alloc _).trans' f1 (by simp [Loc.list])⟩

theorem now_any (e : Env) (w : World) (l : Loc) (m : Mem) (h : MemAt w l m) :
    Calls Try.prog 49 #[.agg (e.arr l)] w fun r w' => r = .returned (.int .i64 m.steps) ∧ Fr [] w w' := by
  have hlt := h.hd.lt
  go_enter Try.func49, Try.ntmps49
  go_wp2_with fail
  refine (steps_any _ l m (h.alloc _)).mono ?_
  rintro r w1 ⟨rfl, rfl⟩
  go_wp2_with fail
  go_ret
  exact ⟨rfl, (Fr.refl _ _).alloc _⟩
end Go.Proofs.Ytkgbifagledcaaa.FL
