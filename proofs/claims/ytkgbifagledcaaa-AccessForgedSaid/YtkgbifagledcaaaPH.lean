/-
  Plain law: by a handle that nobody made nothing is read or laid.
-/
import Derived.Test.YtkgbifagledcaaaPG
namespace Go.Proofs.Ytkgbifagledcaaa.FL
open Go Go.RowKit
set_option linter.unusedVariables false
set_option linter.unusedSimpArgs false

theorem Inv.fresh184 : Inv (arenaCfg 1 8 4 40) (arenaCfg 1 8 4 40).fresh [] := by
  have eS : (arenaCfg 1 8 4 40).S = 7 := by decide
  have eK : (arenaCfg 1 8 4 40).K = 23 := by decide
  have e2 : (arenaCfg 1 8 4 40).slots = 8 := rfl
  have e3 : (arenaCfg 1 8 4 40).chunks = 4 := rfl
  have h8 : ∀ (P : Int → Prop), P 0 → P 1 → P 2 → P 3 → P 4 → P 5 → P 6 → P 7 → ∀ j, 0 ≤ j → j < 8 → P j := by
    intro P p0 p1 p2 p3 p4 p5 p6 p7 j h h'
    have : j = 0 ∨ j = 1 ∨ j = 2 ∨ j = 3 ∨ j = 4 ∨ j = 5 ∨ j = 6 ∨ j = 7 := by omega
    rcases this with rfl | rfl | rfl | rfl | rfl | rfl | rfl | rfl <;> assumption
  have h4 : ∀ (P : Int → Prop), P 0 → P 1 → P 2 → P 3 → ∀ j, 0 ≤ j → j < 4 → P j := by
    intro P p0 p1 p2 p3 j h h'
    have : j = 0 ∨ j = 1 ∨ j = 2 ∨ j = 3 := by omega
    rcases this with rfl | rfl | rfl | rfl <;> assumption
  have h0 : ∀ j, 0 ≤ j → j < 8 → (slotOf ((arenaCfg 1 8 4 40).fresh.at (7 + 2 * j))).state = 0 := by apply h8 <;> decide +kernel
  refine ⟨by decide +kernel, by decide +kernel, ?_, ?_, ?_, ?_, ?_, ?_⟩
  · rw [eS, e2]; apply h8 <;> decide +kernel
  · rw [e3]; apply h4 <;> decide +kernel
  · rw [eK, e3]; apply h4 <;> decide +kernel
  · rw [eK, e3]; apply h4 <;> decide +kernel
  · rw [eS, e2]; exact fun j a b c => absurd (h0 j a b) c
  · rw [eS, e2]; exact fun j a b c => absurd (h0 j a b) c

/-- What an access leaves that meets nothing of its own. -/
theorem access_none {c : Cfg} (ok : c.Ok) {e : Env} (he : e.c = c) {L : List (Int × Bool)} {m : Mem} (h : Inv c m L) (x : Want) (own : Bool) (hx : 0 ≤ x.handle) (hn : (x.handle, own) ∉ L) :
    (doIt e m x own).1.e = 3 ∧ (doIt e m x own).1.value = 0 ∧ (doIt e m x own).2.w = m.w := by
  obtain ⟨eS, eK, eB, t1, t2, s1, s2, k1, k2, w1, w2⟩ := c.spread ok
  subst he
  have hl := h.len
  have hz2 := (e.c.mul_le ok (show 0 ≤ e.c.chunks by omega) (Int.le_refl _)).1
  unfold doIt
  rw [show (200 : Nat) = 198 + 1 + 1 from rfl, Access.run]
  simp only [Access.new, Access.step, if_pos]
  obtain ⟨⟨hh, is⟩, hH⟩ : ∃ H, handleOf x.handle = H := ⟨_, rfl⟩
  simp only [hH]
  by_cases hc : is = false ∨ e.c.slots ≤ hh.slot
  · simp only [if_pos hc, Access.endBy, if_true]
    exact ⟨trivial, trivial, trivial⟩
  have his : is = true := by cases is <;> simp_all
  subst his
  have hhs : 0 ≤ hh.slot ∧ hh.slot < e.c.slots := by
    refine ⟨?_, by omega⟩
    unfold handleOf at hH
    split at hH
    · simp only [Prod.mk.injEq, and_true] at hH; rw [← hH]; simp only; omega
    · simp at hH
  have hph := putHandle_of hx hH
  simp only [if_neg hc, e.c.slotA_eq ok (show -1 ≤ hh.slot by omega) (by omega), m.load_in e.who (e.c.S + 2 * hh.slot) (by omega) (by omega)]
  by_cases hv : live (slotOf (m.at (e.c.S + 2 * hh.slot))) hh = true
  · simp only [hv, if_true, Bool.false_eq_true, if_false]
    have hv' := hv
    unfold live at hv'
    simp only [Bool.and_eq_true, Bool.or_eq_true, decide_eq_true_eq] at hv'
    have hst : (slotOf (m.at (e.c.S + 2 * hh.slot))).state ≠ 0 := by omega
    have had := h.addr ok hhs.1 hhs.2 hst
    have hmd := h.made hh.slot hhs.1 hhs.2 hst
    rw [hv'.2, show (⟨hh.slot, hh.gen⟩ : HandleW) = hh from rfl, hph] at hmd
    have hne : (headOf (m.at (slotOf (m.at (e.c.S + 2 * hh.slot))).addr)).own ≠ own := by
      intro he; rw [he] at hmd; exact hn hmd
    rw [Access.run]
    simp only [Access.step, if_neg (show ¬ (1 : Int) = 0 by decide), if_pos, Mem.load_in (m.tick e.who (e.c.S + 2 * hh.slot)) e.who (slotOf (m.at (e.c.S + 2 * hh.slot))).addr (by omega) (by show _ < (m.w.length : Int); omega), m.at_tick, hne, ne_eq, not_false_eq_true, Access.endBy]
    exact ⟨trivial, trivial, rfl⟩
  · simp only [hv, Bool.false_eq_true, if_false, Access.endBy, if_true]
    exact ⟨trivial, trivial, rfl⟩

/-! ### the statement, plainly -/
def sizeIn (n : Int) : Int := 1 + n % 16
def forgedLoop (e : Env) (x : Want) (own : Bool) : List Int → Mem → Bool × Mem
  | [], m => (false, m)
  | n :: l, m =>
    let d := make e m (sizeIn n) (decide (n % 2 = 0))
    if d.1.e = 0 ∧ d.1.handle = x.handle ∧ decide (n % 2 = 0) = own then (true, d.2) else forgedLoop e x own l d.2
theorem forged_loop {c : Cfg} (ok : c.Ok) {e : Env} (he : e.c = c) (x : Want) (own : Bool) : ∀ (l : List Int) {L : List (Int × Bool)} {m : Mem}, Inv c m L → (x.handle, own) ∉ L →
    (forgedLoop e x own l m).1 = false → ∃ L', Inv c (forgedLoop e x own l m).2 L' ∧ (x.handle, own) ∉ L'
  | [], L, m, h, hn, _ => ⟨L, h, hn⟩
  | n :: l, L, m, h, hn, hf => by
    have hm := make_inv ok he h (sizeIn n) (decide (n % 2 = 0))
    unfold forgedLoop at hf ⊢
    simp only at hf ⊢
    split at hf
    · simp at hf
    · rename_i hc
      rw [if_neg hc]
      by_cases h0 : (make e m (sizeIn n) (decide (n % 2 = 0))).1.e = 0
      · refine forged_loop ok he x own l (hm.1 h0) ?_ hf
        intro hmem
        rw [List.mem_cons] at hmem
        rcases hmem with hmem | hmem
        · simp only [Prod.mk.injEq] at hmem
          exact hc ⟨h0, hmem.1.symm, hmem.2.symm⟩
        · exact hn hmem
      · exact forged_loop ok he x own l (hm.2 h0) hn hf

theorem ok184 : (arenaCfg 1 8 4 40).Ok := ⟨by decide, by decide, by decide, by decide, by decide, by decide, by decide, by decide⟩
/-- By a handle that nobody made nothing is read or laid, and no word is changed. -/
theorem forged_law (l : List Int) (x : Want) (own : Bool) (hx : 0 ≤ x.handle) (hf : (forgedLoop (arenaEnv 1 8 4 40) x own l (arenaCfg 1 8 4 40).fresh).1 = false) (y : Want) (hy : y.handle = x.handle) :
    (doIt (arenaEnv 1 8 4 40) (forgedLoop (arenaEnv 1 8 4 40) x own l (arenaCfg 1 8 4 40).fresh).2 y own).1.e = 3 ∧
    (doIt (arenaEnv 1 8 4 40) (forgedLoop (arenaEnv 1 8 4 40) x own l (arenaCfg 1 8 4 40).fresh).2 y own).1.value = 0 ∧
    (doIt (arenaEnv 1 8 4 40) (forgedLoop (arenaEnv 1 8 4 40) x own l (arenaCfg 1 8 4 40).fresh).2 y own).2.w = (forgedLoop (arenaEnv 1 8 4 40) x own l (arenaCfg 1 8 4 40).fresh).2.w := by
  obtain ⟨L, h1, h2⟩ := forged_loop ok184 (e := arenaEnv 1 8 4 40) rfl x own l Inv.fresh184 (by simp) hf
  exact access_none ok184 rfl h1 y own (by omega) (by rw [hy]; exact h2)

end Go.Proofs.Ytkgbifagledcaaa.FL
