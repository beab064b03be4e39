/-
  The contracts of layer 2 (mem) and of an arena's memory seen through an Env: what each call does to the memory, as the plain model says.
-/
import Derived.Test.YtkgbifagledcaaaProg
import Derived.Test.YtkgbifagledcaaaA
import Derived.Handy
import Derived.Deep.QuietTactic
import Derived.BigQuiet
import Derived.Deep.RegionHeld3
import Derived.Deep.DrawnRows
namespace Go.Proofs.Ytkgbifagledcaaa.FL
open Go Go.RowKit
set_option linter.unusedVariables false
set_option linter.unusedSimpArgs false
attribute [local go_sem ↓] Go.wp_at_zero Go.wp_at_succ

theorem by_any (w : World) (l : Loc) (m : Mem) (h : MemAt w l m) (who : Int) :
    Calls Try.prog 123 #[.pointer (some ⟨l.m, 0, none⟩), .int .i64 who] w fun e w' => e = .returned (.tuple #[]) ∧ MemAt w' l (m.by who) ∧ Fr [l.m] w w' := by
  have hc := h.hd.cell
  have hf := h.hd.frozen
  simp only [Mem.cells] at hc
  go_enter Try.func123, Try.ntmps123
  go_wp2
  go_end0
  exact ⟨rfl, ⟨by simpa [Mem.cells, Mem.by] using h.hd.set 3 (.int .i64 who), h.aw.setOther (Ne.symm h.ne1) _, h.an.setOther (Ne.symm h.ne2) _, h.ne1, h.ne2, h.ne3, h.len, h.small⟩, (Fr.refl _ _).setCell (by simp) _⟩

theorem step_yes (w : World) (l : Loc) (m : Mem) (h : MemAt w l m) (a : Int) (ha : m.has a = true) :
    Calls Try.prog 97 #[.pointer (some ⟨l.m, 0, none⟩), .int .i64 a] w fun e w' => e = .returned (.bool true) ∧ MemAt w' l (m.tick m.who a) ∧ Fr [l.m] w w' := by
  have hc := h.hd.cell
  have hf := h.hd.frozen
  simp only [Mem.has, Bool.and_eq_true, decide_eq_true_eq] at ha
  simp only [Mem.cells] at hc
  have g1 : decide (a < 0) = false := by simp; omega
  have g2 : decide ((m.w.length : Int) ≤ a) = false := by simp; omega
  go_enter Try.func97, Try.ntmps97
  go_wp2
  go_ret
  refine ⟨rfl, ⟨?_, ?_, ?_, h.ne1, h.ne2, h.ne3, h.len, h.small⟩, ?_⟩
  · simpa [Mem.cells, Mem.tick] using (((h.hd.set 2 (.int .i64 (wrap64 (m.steps + 1)))).set 4 (.int .i64 a)).set 5 (.int .i64 m.who)).set 6 (.bool false)
  · exact (((h.aw.setOther (Ne.symm h.ne1) _).setOther (Ne.symm h.ne1) _).setOther (Ne.symm h.ne1) _).setOther (Ne.symm h.ne1) _
  · exact (((h.an.setOther (Ne.symm h.ne2) _).setOther (Ne.symm h.ne2) _).setOther (Ne.symm h.ne2) _).setOther (Ne.symm h.ne2) _
  · exact ((((Fr.refl _ _).setCell (by simp) _).setCell (by simp) _).setCell (by simp) _).setCell (by simp) _

theorem step_no (w : World) (l : Loc) (m : Mem) (h : MemAt w l m) (a : Int) (ha : m.has a = false) :
    Calls Try.prog 97 #[.pointer (some ⟨l.m, 0, none⟩), .int .i64 a] w fun e w' => e = .returned (.bool false) ∧ w = w' := by
  have hc := h.hd.cell
  simp only [Mem.has, Bool.and_eq_false_iff, decide_eq_false_iff_not] at ha
  simp only [Mem.cells] at hc
  by_cases g : a < 0
  · have g1 : decide (a < 0) = true := by simpa using g
    go_enter Try.func97, Try.ntmps97
    go_wp2
    go_ret
    exact ⟨rfl, rfl⟩
  · have g1 : decide (a < 0) = false := by simpa using g
    have g2 : decide ((m.w.length : Int) ≤ a) = true := by simp; omega
    go_enter Try.func97, Try.ntmps97
    go_wp2
    go_ret
    exact ⟨rfl, rfl⟩


theorem cell_u64 {w : World} {b : Nat} {t : TypeId} {l : List Int} (h : At w b t (l.map (Value.int .u64)).toArray) (i : Nat) (hi : i < l.length) : w.cell? ⟨b, i, none⟩ = some (.int .u64 (l.getD i 0)) := by
  rw [h.cell]; simp [hi]
theorem cell_i64 {w : World} {b : Nat} {t : TypeId} {l : List Int} (h : At w b t (l.map (Value.int .i64)).toArray) (i : Nat) (hi : i < l.length) : w.cell? ⟨b, i, none⟩ = some (.int .i64 (l.getD i 0)) := by
  rw [h.cell]; simp [hi]

theorem hid {p : Prop} (h : p) : Hid p := h
/-- What 'set' does. -/
def Mem.setTo (m : Mem) (a v : Int) : Mem :=
  { m with w := m.w.set a.toNat v, when := if m.at a = v then m.when else m.when.set a.toNat m.steps, lc := decide (m.at a ≠ v) }

theorem set_any (w : World) (l : Loc) (m : Mem) (h : MemAt w l m) (a v : Int) (ha : m.has a = true) :
    Calls Try.prog 98 #[.pointer (some ⟨l.m, 0, none⟩), .int .i64 a, .int .u64 v] w fun e w' => e = .returned (.tuple #[]) ∧ MemAt w' l (m.setTo a v) ∧ Fr [l.m, l.w, l.n] w w' := by
  have hc := h.hd.cell
  have hf := h.hd.frozen
  have hfw := h.aw.frozen
  have hfn := h.an.frozen
  simp only [Mem.has, Bool.and_eq_true, decide_eq_true_eq] at ha
  obtain ⟨hlo, hhi⟩ := ha
  have hcw := cell_u64 h.aw a.toNat (by omega)
  have hcn := cell_i64 h.an a.toNat (by rw [h.len]; omega)
  simp only [Mem.cells] at hc
  have hA1 := h.hd
  have hA2 := h.aw
  have hA3 := h.an
  have hne1 := h.ne1
  have hne2 := h.ne2
  have hne3 := h.ne3
  obtain ⟨u, hu⟩ : ∃ u, m.at a = u := ⟨_, rfl⟩
  obtain ⟨u', hu'⟩ : ∃ u, m.when.getD a.toNat 0 = u := ⟨_, rfl⟩
  rw [show m.w.getD a.toNat 0 = u from hu] at hcw
  rw [hu'] at hcn
  have HU := hid hu
  clear hu hu'
  by_cases g : u = v
  · subst g
    have g2 : (u != u) = false := by simp
    go_enter Try.func98, Try.ntmps98
    go_wp2
    go_end0
    refine ⟨rfl, ?_, ((Fr.refl _ _).setCell (by simp) _).setCell (by simp) _⟩
    have e : m.setTo a u = { m with w := m.w.set a.toNat u, lc := false } := by simp [Mem.setTo, HU.out]
    rw [e]
    refine ⟨?_, ?_, ?_, h.ne1, h.ne2, h.ne3, by simpa using h.len, by simpa using h.small⟩
    · simpa [Mem.cells] using (h.hd.set 6 (.bool false)).setOther hne1 (p := ⟨l.w, a.toNat, none⟩) (.int .u64 u)
    · simpa [List.map_set] using (h.aw.setOther (Ne.symm hne1) (p := ⟨l.m, 6, none⟩) (.bool false)).set a.toNat (.int .u64 u)
    · exact (h.an.setOther (Ne.symm hne2) _).setOther (Ne.symm hne3) _
  · have g2 : (u != v) = true := by simpa using g
    go_enter Try.func98, Try.ntmps98
    go_wp2
    go_region
    all_goals go_wp2
    all_goals go_end0
    all_goals (
      refine ⟨rfl, ?_, ?_⟩
      · have e : m.setTo a v = { m with w := m.w.set a.toNat v, when := m.when.set a.toNat m.steps, lc := true } := by simp [Mem.setTo, HU.out, g]
        rw [e]
        refine ⟨?_, ?_, ?_, h.ne1, h.ne2, h.ne3, by simpa using h.len, by simpa using h.small⟩
        · refine At.to (by ((repeat' (first | (with_reducible assumption) | (with_reducible apply At.drew) | (with_reducible apply At.drewN) | (with_reducible refine At.newAt ?_; (simp; done)) | (with_reducible apply At.alloc) | (with_reducible apply At.set) | (with_reducible apply At.setOther))); all_goals (first | assumption | (apply Ne.symm; assumption) | omega | (simp only []; omega) | (simp; done) | (simp; omega)))) ?_
          simp [Mem.cells]
        · refine At.to (by ((repeat' (first | (with_reducible assumption) | (with_reducible apply At.drew) | (with_reducible apply At.drewN) | (with_reducible refine At.newAt ?_; (simp; done)) | (with_reducible apply At.alloc) | (with_reducible apply At.set) | (with_reducible apply At.setOther))); all_goals (first | assumption | (apply Ne.symm; assumption) | omega | (simp only []; omega) | (simp; done) | (simp; omega)))) ?_
          simp [List.map_set]
        · refine At.to (by ((repeat' (first | (with_reducible assumption) | (with_reducible apply At.drew) | (with_reducible apply At.drewN) | (with_reducible refine At.newAt ?_; (simp; done)) | (with_reducible apply At.alloc) | (with_reducible apply At.set) | (with_reducible apply At.setOther))); all_goals (first | assumption | (apply Ne.symm; assumption) | omega | (simp only []; omega) | (simp; done) | (simp; omega)))) ?_
          simp [List.map_set]
      · ((repeat' (first | (with_reducible assumption) | (with_reducible exact Fr.refl _ _) | (with_reducible refine Fr.drew ?_) | (with_reducible refine Fr.drewN ?_ _) | (with_reducible refine Fr.alloc ?_ _) | (with_reducible refine Fr.setCell ?_ ?_ _))); all_goals (first | (left; simp only [List.mem_cons, true_or, or_true]; done) | (left; simp only [List.mem_cons, List.mem_append, true_or, or_true]; done) | (right; simp only []; omega) | (right; simp; done) | (right; simp; omega) | (left; simp; done))))

theorem load_yes (w : World) (l : Loc) (m : Mem) (h : MemAt w l m) (a : Int) (ha : m.has a = true) :
    Calls Try.prog 124 #[.pointer (some ⟨l.m, 0, none⟩), .int .i64 a] w fun e w' => e = .returned (.tuple #[.int .u64 (m.at a), .int .i64 0]) ∧ MemAt w' l (m.tick m.who a) ∧ Fr [l.m] w w' := by
  go_enter Try.func124, Try.ntmps124
  go_wp2_with fail
  refine (step_yes w l m h a ha).mono ?_
  rintro e w1 ⟨rfl, h1, f1⟩
  have hc := h1.hd.cell
  have ha' := ha
  simp only [Mem.has, Bool.and_eq_true, decide_eq_true_eq] at ha'
  obtain ⟨hlo, hhi⟩ := ha'
  have hcw := cell_u64 h1.aw a.toNat (by simp only [Mem.tick]; omega)
  rw [show (m.tick m.who a).w.getD a.toNat 0 = m.at a from rfl] at hcw
  simp only [Mem.cells, Mem.len_tick] at hc
  go_wp2_with fail
  go_ret2
  exact ⟨rfl, h1, f1⟩
theorem load_no (w : World) (l : Loc) (m : Mem) (h : MemAt w l m) (a : Int) (ha : m.has a = false) :
    Calls Try.prog 124 #[.pointer (some ⟨l.m, 0, none⟩), .int .i64 a] w fun e w' => e = .returned (.tuple #[.int .u64 0, .int .i64 2]) ∧ w = w' := by
  go_enter Try.func124, Try.ntmps124
  go_wp2_with fail
  refine (step_no w l m h a ha).mono ?_
  rintro e w1 ⟨rfl, rfl⟩
  go_wp2_with fail
  go_ret2
  exact ⟨rfl, rfl⟩

theorem has_tick (m : Mem) (who a b : Int) : (m.tick who a).has b = m.has b := rfl
theorem setTo_tick (m : Mem) (a v : Int) : (m.tick m.who a).setTo a v = m.lay m.who a v := rfl

theorem store_yes (w : World) (l : Loc) (m : Mem) (h : MemAt w l m) (a v : Int) (ha : m.has a = true) :
    Calls Try.prog 41 #[.pointer (some ⟨l.m, 0, none⟩), .int .i64 a, .int .u64 v] w fun e w' => e = .returned (.int .i64 0) ∧ MemAt w' l (m.lay m.who a v) ∧ Fr [l.m, l.w, l.n] w w' := by
  go_enter Try.func41, Try.ntmps41
  go_wp2_with fail
  refine (step_yes w l m h a ha).mono ?_
  rintro e w1 ⟨rfl, h1, f1⟩
  go_wp2_with fail
  refine (set_any w1 l _ h1 a v ha).mono ?_
  rintro e w2 ⟨rfl, h2, f2⟩
  go_wp2_with fail
  go_ret
  exact ⟨rfl, h2, (f1.mono (by simp_all)).trans f2⟩
theorem store_no (w : World) (l : Loc) (m : Mem) (h : MemAt w l m) (a v : Int) (ha : m.has a = false) :
    Calls Try.prog 41 #[.pointer (some ⟨l.m, 0, none⟩), .int .i64 a, .int .u64 v] w fun e w' => e = .returned (.int .i64 2) ∧ w = w' := by
  go_enter Try.func41, Try.ntmps41
  go_wp2_with fail
  refine (step_no w l m h a ha).mono ?_
  rintro e w1 ⟨rfl, rfl⟩
  go_wp2_with fail
  go_ret
  exact ⟨rfl, rfl⟩

theorem cas_yes (w : World) (l : Loc) (m : Mem) (h : MemAt w l m) (a old v : Int) (ha : m.has a = true) (ho : m.at a = old) :
    Calls Try.prog 125 #[.pointer (some ⟨l.m, 0, none⟩), .int .i64 a, .int .u64 old, .int .u64 v] w fun e w' => e = .returned (.tuple #[.bool true, .int .i64 0]) ∧ MemAt w' l (m.lay m.who a v) ∧ Fr [l.m, l.w, l.n] w w' := by
  go_enter Try.func125, Try.ntmps125
  go_wp2_with fail
  refine (step_yes w l m h a ha).mono ?_
  rintro e w1 ⟨rfl, h1, f1⟩
  have hc := h1.hd.cell
  have ha' := ha
  simp only [Mem.has, Bool.and_eq_true, decide_eq_true_eq] at ha'
  obtain ⟨hlo, hhi⟩ := ha'
  have hcw := cell_u64 h1.aw a.toNat (by simp only [Mem.tick]; omega)
  rw [show (m.tick m.who a).w.getD a.toNat 0 = old from ho] at hcw
  simp only [Mem.cells, Mem.len_tick] at hc
  have g : (old != old) = false := by simp
  clear ho
  go_wp2_with fail
  refine (set_any w1 l _ h1 a v ha).mono ?_
  rintro e w2 ⟨rfl, h2, f2⟩
  go_wp2_with fail
  go_ret2
  exact ⟨rfl, h2, (f1.mono (by simp_all)).trans f2⟩
theorem cas_other (w : World) (l : Loc) (m : Mem) (h : MemAt w l m) (a old v : Int) (ha : m.has a = true) (ho : m.at a ≠ old) :
    Calls Try.prog 125 #[.pointer (some ⟨l.m, 0, none⟩), .int .i64 a, .int .u64 old, .int .u64 v] w fun e w' => e = .returned (.tuple #[.bool false, .int .i64 0]) ∧ MemAt w' l (m.tick m.who a) ∧ Fr [l.m, l.w, l.n] w w' := by
  go_enter Try.func125, Try.ntmps125
  go_wp2_with fail
  refine (step_yes w l m h a ha).mono ?_
  rintro e w1 ⟨rfl, h1, f1⟩
  have hc := h1.hd.cell
  have ha' := ha
  simp only [Mem.has, Bool.and_eq_true, decide_eq_true_eq] at ha'
  obtain ⟨hlo, hhi⟩ := ha'
  have hcw := cell_u64 h1.aw a.toNat (by simp only [Mem.tick]; omega)
  rw [show (m.tick m.who a).w.getD a.toNat 0 = m.at a from rfl] at hcw
  obtain ⟨u, hu⟩ : ∃ u, m.at a = u := ⟨_, rfl⟩
  rw [hu] at hcw ho
  clear hu
  simp only [Mem.cells, Mem.len_tick] at hc
  have g : (u != old) = true := by simpa using ho
  go_wp2_with fail
  go_ret2
  exact ⟨rfl, h1, f1.mono (by simp_all)⟩
theorem cas_no (w : World) (l : Loc) (m : Mem) (h : MemAt w l m) (a old v : Int) (ha : m.has a = false) :
    Calls Try.prog 125 #[.pointer (some ⟨l.m, 0, none⟩), .int .i64 a, .int .u64 old, .int .u64 v] w fun e w' => e = .returned (.tuple #[.bool false, .int .i64 2]) ∧ w = w' := by
  go_enter Try.func125, Try.ntmps125
  go_wp2_with fail
  refine (step_no w l m h a ha).mono ?_
  rintro e w1 ⟨rfl, rfl⟩
  go_wp2_with fail
  go_ret2
  exact ⟨rfl, rfl⟩

theorem add_yes (w : World) (l : Loc) (m : Mem) (h : MemAt w l m) (a d : Int) (ha : m.has a = true) :
    Calls Try.prog 137 #[.pointer (some ⟨l.m, 0, none⟩), .int .i64 a, .int .u64 d] w fun e w' => e = .returned (.tuple #[.int .u64 (m.at a), .int .i64 0]) ∧ MemAt w' l (m.lay m.who a ((m.at a + d) % 18446744073709551616)) ∧ Fr [l.m, l.w, l.n] w w' := by
  go_enter Try.func137, Try.ntmps137
  go_wp2_with fail
  refine (step_yes w l m h a ha).mono ?_
  rintro e w1 ⟨rfl, h1, f1⟩
  have hc := h1.hd.cell
  have ha' := ha
  simp only [Mem.has, Bool.and_eq_true, decide_eq_true_eq] at ha'
  obtain ⟨hlo, hhi⟩ := ha'
  have hcw := cell_u64 h1.aw a.toNat (by simp only [Mem.tick]; omega)
  rw [show (m.tick m.who a).w.getD a.toNat 0 = m.at a from rfl] at hcw
  simp only [Mem.cells, Mem.len_tick] at hc
  go_wp2_with fail
  refine (set_any w1 l _ h1 a _ ha).mono ?_
  rintro e w2 ⟨rfl, h2, f2⟩
  go_wp2_with fail
  go_ret2
  refine ⟨rfl, ?_, (f1.mono (by simp_all)).trans f2⟩
  rw [← IntKind.wrap_u64]
  exact h2
theorem add_no (w : World) (l : Loc) (m : Mem) (h : MemAt w l m) (a d : Int) (ha : m.has a = false) :
    Calls Try.prog 137 #[.pointer (some ⟨l.m, 0, none⟩), .int .i64 a, .int .u64 d] w fun e w' => e = .returned (.tuple #[.int .u64 0, .int .i64 2]) ∧ w = w' := by
  go_enter Try.func137, Try.ntmps137
  go_wp2_with fail
  refine (step_no w l m h a ha).mono ?_
  rintro e w1 ⟨rfl, rfl⟩
  go_wp2_with fail
  go_ret2
  exact ⟨rfl, rfl⟩

theorem len_any (w : World) (l : Loc) (m : Mem) (h : MemAt w l m) :
    Calls Try.prog 23 #[.pointer (some ⟨l.m, 0, none⟩)] w fun e w' => e = .returned (.int .i64 m.w.length) ∧ w = w' := by
  have hc := h.hd.cell
  simp only [Mem.cells] at hc
  go_enter Try.func23, Try.ntmps23
  go_wp2_with fail
  go_ret
  exact ⟨rfl, rfl⟩
theorem steps_any (w : World) (l : Loc) (m : Mem) (h : MemAt w l m) :
    Calls Try.prog 100 #[.pointer (some ⟨l.m, 0, none⟩)] w fun e w' => e = .returned (.int .i64 m.steps) ∧ w = w' := by
  have hc := h.hd.cell
  simp only [Mem.cells] at hc
  go_enter Try.func100, Try.ntmps100
  go_wp2_with fail
  go_ret
  exact ⟨rfl, rfl⟩
theorem last_any (w : World) (l : Loc) (m : Mem) (h : MemAt w l m) :
    Calls Try.prog 50 #[.pointer (some ⟨l.m, 0, none⟩)] w fun e w' => e = .returned (.agg #[.int .i64 m.la, .int .i64 m.lw, .bool m.lc]) ∧ Fr [] w w' := by
  have hc := h.hd.cell
  simp only [Mem.cells] at hc
  have hlt := h.hd.lt
  go_enter Try.func50, Try.ntmps50
  go_wp2_with fail
  go_returns
  exact ⟨rfl, by ((repeat' (first | (with_reducible assumption) | (with_reducible exact Fr.refl _ _) | (with_reducible refine Fr.drew ?_) | (with_reducible refine Fr.drewN ?_ _) | (with_reducible refine Fr.alloc ?_ _) | (with_reducible refine Fr.setCell ?_ ?_ _))); all_goals (first | (left; simp only [List.mem_cons, true_or, or_true]; done) | (left; simp only [List.mem_cons, List.mem_append, true_or, or_true]; done) | (right; simp only []; omega) | (right; simp; done) | (right; simp; omega) | (left; simp; done)))⟩
theorem peek_any (w : World) (l : Loc) (m : Mem) (h : MemAt w l m) (a : Int) :
    Calls Try.prog 24 #[.pointer (some ⟨l.m, 0, none⟩), .int .i64 a] w fun e w' => e = .returned (.int .u64 (m.peek a)) ∧ w = w' := by
  have hc := h.hd.cell
  simp only [Mem.cells] at hc
  by_cases g : a < 0
  · have e : m.peek a = 0 := by unfold Mem.peek Mem.has; rw [if_neg (by simp; omega)]
    rw [e]
    clear e
    have g1 : decide (a < 0) = true := by simpa using g
    go_enter Try.func24, Try.ntmps24
    go_wp2_with fail
    go_ret
    exact ⟨rfl, rfl⟩
  · have g1 : decide (a < 0) = false := by simpa using g
    by_cases g2 : (m.w.length : Int) ≤ a
    · have e : m.peek a = 0 := by unfold Mem.peek Mem.has; rw [if_neg (by simp; omega)]
      rw [e]
      clear e
      have g3 : decide ((m.w.length : Int) ≤ a) = true := by simpa using g2
      go_enter Try.func24, Try.ntmps24
      go_wp2_with fail
      go_ret
      exact ⟨rfl, rfl⟩
    · have g3 : decide ((m.w.length : Int) ≤ a) = false := by simpa using g2
      have hlo : 0 ≤ a := by omega
      have hhi : a < (m.w.length : Int) := by omega
      have e : m.peek a = m.at a := by unfold Mem.peek Mem.has; rw [if_pos (by simp; omega)]
      have hcw := cell_u64 h.aw a.toNat (by omega)
      rw [show m.w.getD a.toNat 0 = m.at a from rfl] at hcw
      rw [e]
      clear e
      go_enter Try.func24, Try.ntmps24
      go_wp2_with fail
      go_ret
      exact ⟨rfl, rfl⟩
theorem when_any (w : World) (l : Loc) (m : Mem) (h : MemAt w l m) (a : Int) :
    Calls Try.prog 122 #[.pointer (some ⟨l.m, 0, none⟩), .int .i64 a] w fun e w' => e = .returned (.int .i64 (m.whenAt a)) ∧ w = w' := by
  have hc := h.hd.cell
  simp only [Mem.cells] at hc
  by_cases g : a < 0
  · have e : m.whenAt a = 0 := by unfold Mem.whenAt Mem.has; rw [if_neg (by simp; omega)]
    rw [e]
    clear e
    have g1 : decide (a < 0) = true := by simpa using g
    go_enter Try.func122, Try.ntmps122
    go_wp2_with fail
    go_ret
    exact ⟨rfl, rfl⟩
  · have g1 : decide (a < 0) = false := by simpa using g
    by_cases g2 : (m.w.length : Int) ≤ a
    · have e : m.whenAt a = 0 := by unfold Mem.whenAt Mem.has; rw [if_neg (by simp; omega)]
      rw [e]
      clear e
      have g3 : decide ((m.w.length : Int) ≤ a) = true := by simpa using g2
      go_enter Try.func122, Try.ntmps122
      go_wp2_with fail
      go_ret
      exact ⟨rfl, rfl⟩
    · have g3 : decide ((m.w.length : Int) ≤ a) = false := by simpa using g2
      have hlo : 0 ≤ a := by omega
      have hhi : a < (m.w.length : Int) := by omega
      have e : m.whenAt a = m.when.getD a.toNat 0 := by unfold Mem.whenAt Mem.has; rw [if_pos (by simp; omega)]
      have hcw := cell_i64 h.an a.toNat (by rw [h.len]; omega)
      obtain ⟨u, hu⟩ : ∃ u, m.when.getD a.toNat 0 = u := ⟨_, rfl⟩
      rw [e]
      rw [hu] at hcw ⊢
      clear e hu
      go_enter Try.func122, Try.ntmps122
      go_wp2_with fail
      go_ret
      exact ⟨rfl, rfl⟩
end Go.Proofs.Ytkgbifagledcaaa.FL
