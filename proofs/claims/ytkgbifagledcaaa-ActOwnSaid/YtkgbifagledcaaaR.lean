/-
  The contract of a step of Access, over the whole object: its block, its helper's.
-/
import Derived.Test.YtkgbifagledcaaaQ
import Derived.Test.YtkgbifagledcaaaP1
import Derived.Test.YtkgbifagledcaaaP2
import Derived.Test.YtkgbifagledcaaaP3
import Derived.Test.YtkgbifagledcaaaP4
import Derived.Test.YtkgbifagledcaaaP5
import Derived.Test.YtkgbifagledcaaaP7
namespace Go.Proofs.Ytkgbifagledcaaa.FL
open Go Go.RowKit
set_option linter.unusedVariables false
set_option linter.unusedSimpArgs false
set_option maxHeartbeats 4000000

/-- The object a lies in the blocks F, its own first. -/
def AccessAt (w : World) (b : Nat) (F : List Nat) (a : Access) : Prop :=
  ∃ hv Fh, F = b :: Fh ∧ At w b 115 (a.arr hv) ∧ HelpP w Fh hv a.help ∧ b ∉ Fh
def Access.Ok (a : Access) : Prop := a.pc = 4 → ∃ p, a.help = some p
theorem AccessAt.fr {w w' : World} {S F : List Nat} {b : Nat} {a : Access} (h : AccessAt w b F a) (f : Fr S w w') (hs : ∀ k ∈ F, k ∉ S) : AccessAt w' b F a := by
  obtain ⟨pv, Fp, rfl, ha, hp, h1⟩ := h
  exact ⟨pv, Fp, rfl, ha.fr f (hs b (by simp)), hp.fr f (fun k hk => hs k (by simp [hk])), h1⟩
theorem AccessAt.lt {w : World} {F : List Nat} {b : Nat} {a : Access} (h : AccessAt w b F a) : ∀ k ∈ F, k < w.heap.size := by
  obtain ⟨pv, Fp, rfl, ha, hp, h1⟩ := h
  have := ha.lt; have := hp.lt
  intro k hk
  simp only [List.mem_cons] at hk
  rcases hk with rfl | hk <;> simp_all
theorem access_new (w : World) (x : Want) (own : Bool) :
    Calls Try.prog 27 #[.agg x.arr, .bool own] w fun r w' => ∃ b, r = .returned (.pointer (some ⟨b, 0, none⟩)) ∧ w.heap.size ≤ b ∧ AccessAt w' b [b] (Access.new x own) ∧ Fr [] w w' :=
  (newAccess_any w x own).mono fun _ _ ⟨b, h1, h2, h3, h4⟩ => ⟨b, h1, h2, ⟨_, [], rfl, h3, ⟨rfl, rfl⟩, by simp⟩, h4⟩

theorem Access.check_keeps (a : Access) (e : Env) (m : Mem) : (a.check e m).1.help = a.help := by
  unfold Access.check Access.endBy
  simp only
  split
  · rfl
  · split
    · rfl
    · split <;> rfl
theorem Access.step_keeps (a : Access) (e : Env) (m : Mem) (h4 : a.pc ≠ 4) (h2 : a.pc = 2 → nextOf a.x.kind a.x.old (cellOf (m.load e.who a.at).1) (slotOf a.w) ≠ 4) : (a.step e m).1.help = a.help := by
  obtain ⟨⟨xk, xh, xi, xv, xo⟩, own, ⟨hs, hg⟩, pc, aw, cell, seen, read, size, hh, ⟨o0, o1, o2, o3⟩⟩ := a
  simp only at h4 h2
  unfold Access.step
  simp only
  split
  · simp only [Access.endBy]
    split
    · rfl
    · split <;> rfl
  · split
    · simp only [Access.endBy]
      split
      · rfl
      · split <;> rfl
    · split
      · rename_i e2
        have := h2 e2
        split
        · rename_i e4; exact absurd e4 this
        · rfl
      · split
        · rfl
        · split
          · simp only [Access.endBy]
            split <;> rfl
          · exact Access.check_keeps _ e m

theorem access_any (e : Env) (w : World) (l : Loc) (m : Mem) (h : MemAt w l m) (a : Access) (b : Nat) (F : List Nat) (hb : AccessAt w b F a) (hd : ∀ x ∈ F, x ∉ l.list) (ok : a.Ok) :
    Calls Try.prog 29 #[.pointer (some ⟨b, 0, none⟩), .agg (e.arr l)] w fun r w' =>
      ∃ F', r = .returned (.bool (a.step e m).2.2) ∧ AccessAt w' b F' (a.step e m).1 ∧ MemAt w' l (a.step e m).2.1 ∧ Fr (F ++ l.list) w w' ∧ (∀ x ∈ F', x ∈ F ∨ w.heap.size ≤ x) := by
  obtain ⟨hv, Fp, rfl, ha, hp, k1⟩ := hb
  have nb : b ∉ l.list := hd b (by simp)
  have np : ∀ x ∈ Fp, x ∉ b :: l.list := fun x hx => by
    simp only [List.mem_cons, not_or]; exact ⟨fun e => k1 (e ▸ hx), hd x (by simp [hx])⟩
  have lb := ha.lt
  have fin : ∀ {r : Ending} {w' : World}, a.pc ≠ 4 → (a.pc = 2 → nextOf a.x.kind a.x.old (cellOf (m.load e.who a.at).1) (slotOf a.w) ≠ 4) →
      (r = .returned (.bool (a.step e m).2.2) ∧ At w' b 115 ((a.step e m).1.arr hv) ∧ MemAt w' l (a.step e m).2.1 ∧ Fr (b :: l.list) w w') →
      ∃ F', r = .returned (.bool (a.step e m).2.2) ∧ AccessAt w' b F' (a.step e m).1 ∧ MemAt w' l (a.step e m).2.1 ∧ Fr (b :: Fp ++ l.list) w w' ∧ (∀ x ∈ F', x ∈ b :: Fp ∨ w.heap.size ≤ x) := by
    rintro r w' h4 h2 ⟨e1, e2, e3, f⟩
    exact ⟨_, e1, ⟨hv, Fp, rfl, e2, by rw [a.step_keeps e m h4 h2]; exact hp.fr f np, k1⟩, e3, f.widen, fun x hx => Or.inl hx⟩
  by_cases c0 : a.pc = 0
  · exact (access0 e w l m h a hv b ha nb c0).mono fun r w' q => fin (by omega) (by omega) q
  by_cases c1 : a.pc = 1
  · exact (access1 e w l m h a hv b ha nb c1).mono fun r w' q => fin (by omega) (by omega) q
  by_cases c2 : a.pc = 2
  · by_cases hk : nextOf a.x.kind a.x.old (cellOf (m.load e.who a.at).1) (slotOf a.w) = 4
    · refine (access2b e w l m h a hv b ha nb c2 hk).mono ?_
      rintro r w' ⟨bh, rfl, hlt, h1, hh1, h2, f⟩
      have es : a.step e m = ({ a with pc := 4, cell := (m.load e.who a.at).1, read := (m.load e.who a.at).2.steps, help := some (Help.new a.h.slot a.w a.size) }, (m.load e.who a.at).2, false) := by
        obtain ⟨⟨xk, xh, xi, xv, xo⟩, own, ⟨hs, hg⟩, pc, aw, cell, seen, read, size, hh, ⟨o0, o1, o2, o3⟩⟩ := a
        simp only at c2
        subst c2
        simp only [Access.step, Access.next_eq, Access.at] at hk ⊢
        simp [hk]
      rw [es]
      refine ⟨[b, bh], rfl, ⟨_, [bh], rfl, h1, ⟨bh, rfl, rfl, hh1⟩, ?_⟩, h2, f.widen, ?_⟩
      · simp only [List.mem_singleton]; omega
      · intro x hx
        simp only [List.mem_cons, List.not_mem_nil, or_false] at hx ⊢
        rcases hx with rfl | rfl
        · simp
        · right; omega
    · exact (access2a e w l m h a hv b ha nb c2 hk).mono fun r w' q => fin (by omega) (fun _ => hk) q
  by_cases c3 : a.pc = 3
  · exact (access3 e w l m h a hv b ha nb c3).mono fun r w' q => fin (by omega) (by omega) q
  by_cases c4 : a.pc = 4
  · obtain ⟨x, hx⟩ := ok c4
    rw [hx] at hp
    obtain ⟨bh, rfl, hhv, hpa⟩ := hp
    have npl : bh ∉ l.list := hd bh (by simp)
    have nbp : b ≠ bh := by simpa using k1
    refine (access4 e w l m h a hv b x bh hpa npl nbp hhv ha nb c4).mono ?_
    rintro r w' ⟨rfl, h1, hp1, h2, f⟩
    have es : a.step e m = ({ a with pc := if (x.step e m).2.2 then 0 else 4, help := some (x.step e m).1 }, (x.step e m).2.1, false) := by
      obtain ⟨⟨xk, xh, xi, xv, xo⟩, own, ⟨hs, hg⟩, pc, aw, cell, seen, read, size, hh, ⟨o0, o1, o2, o3⟩⟩ := a
      simp only at c4 hx
      subst c4 hx
      simp [Access.step]
      split <;> rfl
    rw [es]
    refine ⟨[b, bh], rfl, ⟨_, [bh], rfl, h1, ⟨bh, rfl, hhv, hp1⟩, k1⟩, h2, f.mono ?_, fun x hx => Or.inl hx⟩
    intro k _ hk
    simpa using hk
  by_cases c5 : a.pc = 5
  · exact (access5 e w l m h a hv b ha nb c5).mono fun r w' q => fin (by omega) (by omega) q
  · exact (access6 e w l m h a hv b ha nb c0 c1 c2 c3 c4 c5).mono fun r w' q => fin c4 (fun q => absurd q c2) q

theorem access_done (w : World) (a : Access) (b : Nat) (F : List Nat) (hb : AccessAt w b F a) :
    Calls Try.prog 30 #[.pointer (some ⟨b, 0, none⟩)] w fun r w' => r = .returned (.agg #[.int .i64 a.out.e, .int .u64 a.out.handle, .int .i64 a.out.value, .int .i64 a.out.stamp]) ∧ Fr [] w w' := by
  obtain ⟨pv, Fp, rfl, ha, hp, k1⟩ := hb
  exact accessDone_any w _ _ _ _ _ _ _ _ _ _ _ _ _ _ _ _ _ _ _ b ha
end Go.Proofs.Ytkgbifagledcaaa.FL
