/-
  What stays along the steps of Alloc, Drop, Access: what their contracts ask.
-/
import Derived.Test.YtkgbifagledcaaaR
import Derived.Test.YtkgbifagledcaaaS
namespace Go.Proofs.Ytkgbifagledcaaa.FL
open Go Go.RowKit
set_option linter.unusedVariables false
set_option linter.unusedSimpArgs false
abbrev Done.arr (d : Done) : Array Value := #[.int .i64 d.e, .int .u64 d.handle, .int .i64 d.value, .int .i64 d.stamp]
def AllocOk (a : Alloc) : Prop := (a.pc ≠ 0 → 0 ≤ classOf a.size) ∧ (a.pc = 2 → ∃ p, a.p = some p ∧ 0 ≤ p.cls) ∧ (a.pc ≠ 0 → a.pc ≠ 1 → a.pc ≠ 2 → a.pc ≠ 3 → a.pc ≠ 4 → a.pc ≠ 5 → a.pc ≠ 6 → ∃ g, a.give = some g)
theorem AllocOk.ok {a : Alloc} (h : AllocOk a) : a.Ok := ⟨h.2.1, fun e => h.1 (by omega), h.2.2⟩
theorem Place.step_cls (p : Place) (e : Env) (m : Mem) : (p.step e m).1.cls = p.cls := by
  unfold Place.step Place.get Place.on
  simp only
  repeat' split
  all_goals rfl
theorem AllocOk.step {a : Alloc} (h : AllocOk a) (e : Env) (m : Mem) : AllocOk (a.step e m).1 := by
  obtain ⟨size, own, pc, take, at_, gen, p, spot, give, out⟩ := a
  obtain ⟨h1, h2, h3⟩ := h
  simp only at h1 h2 h3
  by_cases c0 : pc = 0
  · subst c0
    simp only [Alloc.step, if_true, Alloc.endBy]
    split
    · exact ⟨by simp, by simp, by simp⟩
    · split
      · split
        · exact ⟨fun _ => by simp only; omega, by simp, by simp⟩
        · exact ⟨fun _ => by simp only; omega, by simp, by simp⟩
      · exact ⟨by simp, by simp, by simp⟩
  have hcl := h1 c0
  by_cases c1 : pc = 1
  · subst c1
    simp only [Alloc.step, if_neg c0, if_true]
    exact ⟨fun _ => hcl, fun _ => ⟨_, rfl, hcl⟩, by simp⟩
  by_cases c2 : pc = 2
  · subst c2
    obtain ⟨q, rfl, hq⟩ := h2 rfl
    simp only [Alloc.step, if_neg c0, if_neg c1, if_true, Alloc.endBy]
    split
    · split
      · exact ⟨fun _ => hcl, by simp, by simp⟩
      · exact ⟨fun _ => hcl, by simp, fun _ _ _ _ _ _ _ => ⟨_, rfl⟩⟩
    · exact ⟨fun _ => hcl, fun _ => ⟨_, rfl, by rw [Place.step_cls]; exact hq⟩, by simp⟩
  by_cases c3 : pc = 3
  · subst c3; simp only [Alloc.step, if_neg c0, if_neg c1, if_neg c2, if_true]; exact ⟨fun _ => hcl, by simp, by simp⟩
  by_cases c4 : pc = 4
  · subst c4; simp only [Alloc.step, if_neg c0, if_neg c1, if_neg c2, if_neg c3, if_true]; exact ⟨fun _ => hcl, by simp, by simp⟩
  by_cases c5 : pc = 5
  · subst c5; simp only [Alloc.step, if_neg c0, if_neg c1, if_neg c2, if_neg c3, if_neg c4, if_true]; exact ⟨fun _ => hcl, by simp, by simp⟩
  by_cases c6 : pc = 6
  · subst c6; simp only [Alloc.step, if_neg c0, if_neg c1, if_neg c2, if_neg c3, if_neg c4, if_neg c5, if_true]; exact ⟨fun _ => hcl, by simp, by simp⟩
  obtain ⟨g, rfl⟩ := h3 c0 c1 c2 c3 c4 c5 c6
  simp only [Alloc.step, if_neg c0, if_neg c1, if_neg c2, if_neg c3, if_neg c4, if_neg c5, if_neg c6]
  exact ⟨fun _ => hcl, fun e => absurd e c2, fun _ _ _ _ _ _ _ => ⟨_, rfl⟩⟩
theorem AllocOk.new (size : Int) (own : Bool) : AllocOk (Alloc.new size own) := ⟨by simp [Alloc.new], by simp [Alloc.new], by simp [Alloc.new]⟩

theorem Access.Ok.step {a : Access} (h : a.Ok) (e : Env) (m : Mem) : (a.step e m).1.Ok := by
  intro h4
  by_cases c4 : a.pc = 4
  · obtain ⟨x, hx⟩ := h c4
    refine ⟨(x.step e m).1, ?_⟩
    obtain ⟨⟨xk, xh, xi, xv, xo⟩, own, ⟨hs, hg⟩, pc, aw, cell, seen, read, size, hh, ⟨o0, o1, o2, o3⟩⟩ := a
    simp only at c4 hx
    subst c4 hx
    simp [Access.step]
    split <;> rfl
  · by_cases c2 : a.pc = 2 ∧ nextOf a.x.kind a.x.old (cellOf (m.load e.who a.at).1) (slotOf a.w) = 4
    · obtain ⟨c2, hk⟩ := c2
      obtain ⟨⟨xk, xh, xi, xv, xo⟩, own, ⟨hs, hg⟩, pc, aw, cell, seen, read, size, hh, ⟨o0, o1, o2, o3⟩⟩ := a
      simp only at c2
      subst c2
      simp only [Access.step, Access.next_eq, Access.at] at hk ⊢
      exact ⟨_, by simp [hk]; rfl⟩
    · exfalso
      obtain ⟨⟨xk, xh, xi, xv, xo⟩, own, ⟨hs, hg⟩, pc, aw, cell, seen, read, size, hh, ⟨o0, o1, o2, o3⟩⟩ := a
      simp only at c4 c2
      by_cases p0 : pc = 0
      · subst p0
        revert h4
        simp only [Access.step, if_true, Access.endBy]
        split
        · simp
        · split <;> simp
      by_cases p1 : pc = 1
      · subst p1
        revert h4
        simp only [Access.step, if_neg p0, if_true, Access.endBy]
        split
        · simp
        · split <;> simp
      by_cases p2 : pc = 2
      · subst p2
        have hk : ¬ nextOf xk xo (cellOf (m.load e.who (wrap64 (wrap64 ((slotOf aw).addr + 1) + xi))).1) (slotOf aw) = 4 := fun q => c2 ⟨rfl, q⟩
        revert h4
        simp only [Access.step, if_neg p0, if_neg p1, if_true, Access.next_eq, Access.at]
        simp [hk]
      by_cases p3 : pc = 3
      · subst p3
        revert h4
        simp [Access.step]
      by_cases p5 : pc = 5
      · subst p5
        revert h4
        simp only [Access.step, if_neg p0, if_neg p1, if_neg p2, if_neg p3, if_neg c4, if_true, Access.endBy]
        split <;> simp
      revert h4
      simp only [Access.step, if_neg p0, if_neg p1, if_neg p2, if_neg p3, if_neg c4, if_neg p5, Access.check, Access.endBy]
      split
      · exact c4
      · split
        · simp
        · split <;> exact c4

def Drop.okB (d : Drop) (c : Cfg) : Bool :=
  (!(decide (d.pc = 3) || decide (d.pc = 4)) || d.help.isSome) && (!decide (d.pc = 5) || (decide (c.words ≠ 0) && decide (0 ≤ classOf d.size))) && (decide (d.pc = 0) || decide (d.pc = 1) || decide (d.pc = 2) || decide (d.pc = 3) || decide (d.pc = 4) || decide (d.pc = 5) || d.give.isSome)
theorem Drop.ok_of {d : Drop} {c : Cfg} (h : d.okB c = true) : d.Ok c := by
  unfold Drop.okB at h
  simp only [Bool.and_eq_true, Bool.or_eq_true, Bool.not_eq_true', Bool.or_eq_false_iff, decide_eq_true_eq, decide_eq_false_iff_not, Option.isSome_iff_exists] at h
  obtain ⟨⟨h1, h2⟩, h3⟩ := h
  refine ⟨fun e => ?_, fun e => ?_, fun a b c d e f => ?_⟩
  · rcases h1 with h1 | h1
    · omega
    · exact h1
  · rcases h2 with h2 | h2
    · omega
    · exact h2
  · rcases h3 with h3 | h3
    · omega
    · exact h3
/-- Along a run alone nothing is met that the contract of a step does not take. -/
def Drop.runOk (e : Env) : Nat → Drop → Mem → Bool
  | 0, _, _ => true
  | n + 1, d, m => d.okB e.c && (let r := d.step e m; r.2.2 || Drop.runOk e n r.1 r.2.1)
end Go.Proofs.Ytkgbifagledcaaa.FL
