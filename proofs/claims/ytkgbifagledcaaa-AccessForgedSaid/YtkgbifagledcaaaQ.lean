/-
  The contract of a step of Drop, over the whole object: its block, its helper's, its giver's.
-/
import Derived.Test.YtkgbifagledcaaaI
import Derived.Test.YtkgbifagledcaaaN
namespace Go.Proofs.Ytkgbifagledcaaa.FL
open Go Go.RowKit
set_option linter.unusedVariables false
set_option linter.unusedSimpArgs false
set_option maxHeartbeats 4000000

def HelpP (w : World) (F : List Nat) (v : Value) : Option Help → Prop
  | none => v = .pointer none ∧ F = []
  | some p => ∃ k, F = [k] ∧ v = .pointer (some ⟨k, 0, none⟩) ∧ At w k 177 p.arr
theorem HelpP.fr {w w' : World} {S F : List Nat} {v : Value} {o : Option Help} (h : HelpP w F v o) (f : Fr S w w') (hs : ∀ k ∈ F, k ∉ S) : HelpP w' F v o := by
  cases o with
  | none => exact h
  | some p => obtain ⟨k, rfl, hv, ha⟩ := h; exact ⟨k, rfl, hv, ha.fr f (hs k (by simp))⟩
theorem HelpP.lt {w : World} {F : List Nat} {v : Value} {o : Option Help} (h : HelpP w F v o) : ∀ k ∈ F, k < w.heap.size := by
  cases o with
  | none => obtain ⟨_, rfl⟩ := h; simp
  | some p => obtain ⟨k, rfl, hv, ha⟩ := h; have := ha.lt; simpa using this

/-- The object d lies in the blocks F, its own first. -/
def DropAt (w : World) (b : Nat) (F : List Nat) (d : Drop) : Prop :=
  ∃ hv gv Fh Fg, F = b :: (Fh ++ Fg) ∧ At w b 172 (d.arr hv gv) ∧ HelpP w Fh hv d.help ∧ GiveP w Fg gv d.give ∧ b ∉ Fh ∧ b ∉ Fg ∧ (∀ x ∈ Fh, x ∉ Fg)
def Drop.Ok (d : Drop) (c : Cfg) : Prop :=
  (d.pc = 3 ∨ d.pc = 4 → ∃ p, d.help = some p) ∧ (d.pc = 5 → c.words ≠ 0 ∧ 0 ≤ classOf d.size) ∧ (d.pc ≠ 0 → d.pc ≠ 1 → d.pc ≠ 2 → d.pc ≠ 3 → d.pc ≠ 4 → d.pc ≠ 5 → ∃ g, d.give = some g)

theorem DropAt.fr {w w' : World} {S F : List Nat} {b : Nat} {a : Drop} (h : DropAt w b F a) (f : Fr S w w') (hs : ∀ k ∈ F, k ∉ S) : DropAt w' b F a := by
  obtain ⟨pv, gv, Fp, Fg, rfl, ha, hp, hg, h1, h2, h3⟩ := h
  exact ⟨pv, gv, Fp, Fg, rfl, ha.fr f (hs b (by simp)), hp.fr f (fun k hk => hs k (by simp [hk])), hg.fr f (fun k hk => hs k (by simp [hk])), h1, h2, h3⟩
theorem DropAt.lt {w : World} {F : List Nat} {b : Nat} {a : Drop} (h : DropAt w b F a) : ∀ k ∈ F, k < w.heap.size := by
  obtain ⟨pv, gv, Fp, Fg, rfl, ha, hp, hg, h1, h2, h3⟩ := h
  have := ha.lt; have := hp.lt; have := hg.lt
  intro k hk
  simp only [List.mem_cons, List.mem_append] at hk
  rcases hk with rfl | hk | hk <;> simp_all

theorem drop_new (w : World) (n : Int) (own : Bool) :
    Calls Try.prog 70 #[.int .u64 n, .bool own] w fun r w' => ∃ b, r = .returned (.pointer (some ⟨b, 0, none⟩)) ∧ w.heap.size ≤ b ∧ DropAt w' b [b] (Drop.new n own) ∧ Fr [] w w' :=
  (newDrop_any w n own).mono fun _ _ ⟨b, h1, h2, h3, h4⟩ => ⟨b, h1, h2, ⟨_, _, [], [], rfl, h3, ⟨rfl, rfl⟩, ⟨rfl, rfl⟩, by simp, by simp, by simp⟩, h4⟩
theorem Drop.see_keeps (d : Drop) (e : Env) (m : Mem) : (d.see e m).1.help = d.help ∧ (d.see e m).1.give = d.give := by
  unfold Drop.see Drop.invalid
  simp only
  split
  · exact ⟨rfl, rfl⟩
  · split <;> exact ⟨rfl, rfl⟩

/-- What is left to show where neither the helper's block nor the giver's turned. -/
theorem DropAt.keep {w w' : World} {l : Loc} {b : Nat} {Fh Fg : List Nat} {hv gv : Value} {d d' : Drop} (hp : HelpP w Fh hv d.help) (hg : GiveP w Fg gv d.give) (e1 : d'.help = d.help) (e2 : d'.give = d.give)
    (np : ∀ x ∈ Fh, x ∉ b :: l.list) (ng : ∀ x ∈ Fg, x ∉ b :: l.list) (k1 : b ∉ Fh) (k2 : b ∉ Fg) (k3 : ∀ x ∈ Fh, x ∉ Fg)
    (h1 : At w' b 172 (d'.arr hv gv)) (f : Fr (b :: l.list) w w') : DropAt w' b (b :: (Fh ++ Fg)) d' :=
  ⟨hv, gv, Fh, Fg, rfl, h1, by rw [e1]; exact hp.fr f np, by rw [e2]; exact hg.fr f ng, k1, k2, k3⟩

theorem drop_any (e : Env) (w : World) (l : Loc) (m : Mem) (h : MemAt w l m) (d : Drop) (b : Nat) (F : List Nat) (hb : DropAt w b F d) (hd : ∀ x ∈ F, x ∉ l.list) (ok : d.Ok e.c) :
    Calls Try.prog 71 #[.pointer (some ⟨b, 0, none⟩), .agg (e.arr l)] w fun r w' =>
      ∃ F', r = .returned (.bool (d.step e m).2.2) ∧ DropAt w' b F' (d.step e m).1 ∧ MemAt w' l (d.step e m).2.1 ∧ Fr (F ++ l.list) w w' ∧ (∀ x ∈ F', x ∈ F ∨ w.heap.size ≤ x) := by
  obtain ⟨hv, gv, Fp, Fg, rfl, ha, hp, hg, k1, k2, k3⟩ := hb
  obtain ⟨ok3, ok5, ok6⟩ := ok
  have nb : b ∉ l.list := hd b (by simp)
  have np : ∀ x ∈ Fp, x ∉ b :: l.list := fun x hx => by
    simp only [List.mem_cons, not_or]; exact ⟨fun e => k1 (e ▸ hx), hd x (by simp [hx])⟩
  have ng : ∀ x ∈ Fg, x ∉ b :: l.list := fun x hx => by
    simp only [List.mem_cons, not_or]; exact ⟨fun e => k2 (e ▸ hx), hd x (by simp [hx])⟩
  have lb := ha.lt
  have lp := hp.lt
  have lg := hg.lt
  by_cases c0 : d.pc = 0
  · refine (dropStep0 e w l m h d hv gv b ha nb c0).mono ?_
    rintro r w' ⟨rfl, h1, h2, f⟩
    have es : d.step e m = d.see e m := by unfold Drop.step; simp only; rw [if_pos c0]
    rw [es]
    exact ⟨_, rfl, DropAt.keep hp hg (d.see_keeps e m).1 (d.see_keeps e m).2 np ng k1 k2 k3 h1 f, h2, f.widen, fun x hx => Or.inl hx⟩
  obtain ⟨n, own, ⟨hs, hgg⟩, pc, dw, size, help, give, ⟨o0, o1, o2, o3⟩⟩ := d
  simp only at ok3 ok5 ok6 hp hg c0
  by_cases c1 : pc = 1
  · subst c1
    by_cases hk : (headOf (m.load e.who (slotOf dw).addr).1).own = own
    · by_cases hst : (slotOf dw).state = 4
      · refine (dropStep1c e w l m h n own hs hgg 1 dw size hv gv o0 o1 o2 o3 b ha nb hk hst).mono ?_
        rintro r w' ⟨bh, rfl, hlt, h1, hh1, h2, f⟩
        have es : Drop.step ⟨n, own, ⟨hs, hgg⟩, 1, dw, size, help, give, ⟨o0, o1, o2, o3⟩⟩ e m = (⟨n, own, ⟨hs, hgg⟩, 4, dw, (headOf (m.load e.who (slotOf dw).addr).1).size, some (Help.new hs dw (headOf (m.load e.who (slotOf dw).addr).1).size), give, ⟨o0, o1, o2, o3⟩⟩, (m.load e.who (slotOf dw).addr).2, false) := by
          simp [Drop.step, hk, hst]
        rw [es]
        refine ⟨b :: ([bh] ++ Fg), rfl, ⟨_, gv, [bh], Fg, rfl, h1, ⟨bh, rfl, rfl, hh1⟩, hg.fr f ng, ?_, k2, ?_⟩, h2, f.widen, ?_⟩
        · simp only [List.mem_singleton]; omega
        · intro x hx hy
          simp only [List.mem_singleton] at hx
          subst hx
          have := lg _ hy
          omega
        · intro x hx
          simp only [List.mem_cons, List.mem_append, List.not_mem_nil, or_false] at hx ⊢
          rcases hx with rfl | rfl | hx
          · simp
          · right; omega
          · simp [hx]
      · refine (dropStep1b e w l m h n own hs hgg 1 dw size hv gv o0 o1 o2 o3 b ha nb hk hst).mono ?_
        rintro r w' ⟨rfl, h1, h2, f⟩
        have es : Drop.step ⟨n, own, ⟨hs, hgg⟩, 1, dw, size, help, give, ⟨o0, o1, o2, o3⟩⟩ e m = (⟨n, own, ⟨hs, hgg⟩, 2, dw, (headOf (m.load e.who (slotOf dw).addr).1).size, help, give, ⟨o0, o1, o2, o3⟩⟩, (m.load e.who (slotOf dw).addr).2, false) := by
          simp [Drop.step, hk, hst]
        rw [es]
        exact ⟨_, rfl, DropAt.keep (d' := ⟨n, own, ⟨hs, hgg⟩, 2, dw, (headOf (m.load e.who (slotOf dw).addr).1).size, help, give, ⟨o0, o1, o2, o3⟩⟩) (d := ⟨n, own, ⟨hs, hgg⟩, 1, dw, size, help, give, ⟨o0, o1, o2, o3⟩⟩) hp hg rfl rfl np ng k1 k2 k3 h1 f, h2, f.widen, fun x hx => Or.inl hx⟩
    · refine (dropStep1a e w l m h n own hs hgg 1 dw size hv gv o0 o1 o2 o3 b ha nb hk).mono ?_
      rintro r w' ⟨rfl, h1, h2, f⟩
      have es : Drop.step ⟨n, own, ⟨hs, hgg⟩, 1, dw, size, help, give, ⟨o0, o1, o2, o3⟩⟩ e m = (⟨n, own, ⟨hs, hgg⟩, 1, dw, size, help, give, ⟨3, 0, 0, (m.load e.who (slotOf dw).addr).2.steps⟩⟩, (m.load e.who (slotOf dw).addr).2, true) := by
        simp [Drop.step, hk, Drop.invalid]
      rw [es]
      exact ⟨_, rfl, DropAt.keep (d' := ⟨n, own, ⟨hs, hgg⟩, 1, dw, size, help, give, ⟨3, 0, 0, (m.load e.who (slotOf dw).addr).2.steps⟩⟩) (d := ⟨n, own, ⟨hs, hgg⟩, 1, dw, size, help, give, ⟨o0, o1, o2, o3⟩⟩) hp hg rfl rfl np ng k1 k2 k3 h1 f, h2, f.widen, fun x hx => Or.inl hx⟩
  by_cases c2 : pc = 2
  · subst c2
    obtain ⟨T, hT⟩ : ∃ T, m.cas e.who (e.c.slotA hs) dw (putSlot ⟨4, (slotOf dw).addr, (slotOf dw).gen, wrap64 ((slotOf dw).ver + 1)⟩) = T := ⟨_, rfl⟩
    cases hk : T.1 with
    | false =>
      refine (dropStep2a e w l m h n own hs hgg 2 dw size hv gv o0 o1 o2 o3 b ha nb (by rw [hT]; exact hk)).mono ?_
      rintro r w' ⟨rfl, h1, h2, f⟩
      have es : Drop.step ⟨n, own, ⟨hs, hgg⟩, 2, dw, size, help, give, ⟨o0, o1, o2, o3⟩⟩ e m = (⟨n, own, ⟨hs, hgg⟩, 0, dw, size, help, give, ⟨o0, o1, o2, o3⟩⟩, T.2, false) := by
        simp [Drop.step, Drop.claim, hT, hk]
      rw [es]
      rw [hT] at h2
      exact ⟨_, rfl, DropAt.keep (d' := ⟨n, own, ⟨hs, hgg⟩, 0, dw, size, help, give, ⟨o0, o1, o2, o3⟩⟩) (d := ⟨n, own, ⟨hs, hgg⟩, 2, dw, size, help, give, ⟨o0, o1, o2, o3⟩⟩) hp hg rfl rfl np ng k1 k2 k3 h1 f, h2, f.widen, fun x hx => Or.inl hx⟩
    | true =>
      refine (dropStep2b e w l m h n own hs hgg 2 dw size hv gv o0 o1 o2 o3 b ha nb (by rw [hT]; exact hk)).mono ?_
      rintro r w' ⟨bh, rfl, hlt, h1, hh1, h2, f⟩
      have es : Drop.step ⟨n, own, ⟨hs, hgg⟩, 2, dw, size, help, give, ⟨o0, o1, o2, o3⟩⟩ e m = (⟨n, own, ⟨hs, hgg⟩, 3, dw, size, some (Help.new hs (putSlot ⟨4, (slotOf dw).addr, (slotOf dw).gen, wrap64 ((slotOf dw).ver + 1)⟩) size), give, ⟨o0, o1, o2, o3⟩⟩, T.2, false) := by
        simp [Drop.step, Drop.claim, hT, hk]
      rw [es]
      rw [hT] at h2
      refine ⟨b :: ([bh] ++ Fg), rfl, ⟨_, gv, [bh], Fg, rfl, h1, ⟨bh, rfl, rfl, hh1⟩, hg.fr f ng, ?_, k2, ?_⟩, h2, f.widen, ?_⟩
      · simp only [List.mem_singleton]; omega
      · intro x hx hy
        simp only [List.mem_singleton] at hx
        subst hx
        have := lg _ hy
        omega
      · intro x hx
        simp only [List.mem_cons, List.mem_append, List.not_mem_nil, or_false] at hx ⊢
        rcases hx with rfl | rfl | hx
        · simp
        · right; omega
        · simp [hx]
  by_cases c34 : pc = 3 ∨ pc = 4
  · obtain ⟨x, rfl⟩ := ok3 c34
    obtain ⟨bh, rfl, rfl, hpa⟩ := hp
    have npl : bh ∉ l.list := hd bh (by simp)
    have nbp : b ≠ bh := by simpa using k1
    have ng' : ∀ x ∈ Fg, x ∉ b :: bh :: l.list := fun x hx => by
      have g := ng x hx
      simp only [List.mem_cons, not_or] at g ⊢
      exact ⟨g.1, fun e => k3 bh (by simp) (e ▸ hx), g.2⟩
    have fin : ∀ {w'}, Fr (b :: bh :: l.list) w w' → Fr (b :: ([bh] ++ Fg) ++ l.list) w w' := fun f => f.mono (by
      intro k _ hk
      simp only [List.mem_cons, List.mem_append, List.not_mem_nil, or_false] at hk ⊢
      rcases hk with rfl | rfl | hk <;> simp [*])
    obtain ⟨T, hT⟩ : ∃ T, Help.step x e m = T := ⟨_, rfl⟩
    rcases c34 with rfl | rfl
    · cases hk : T.2.2 with
      | false =>
        refine (dropStep3a e w l m h n own hs hgg 3 dw size _ gv o0 o1 o2 o3 b x bh hpa npl nbp rfl ha nb (by rw [hT]; exact hk)).mono ?_
        rintro r w' ⟨rfl, h1, hp1, h2, f⟩
        have es : Drop.step ⟨n, own, ⟨hs, hgg⟩, 3, dw, size, some x, give, ⟨o0, o1, o2, o3⟩⟩ e m = (⟨n, own, ⟨hs, hgg⟩, 3, dw, size, some T.1, give, ⟨o0, o1, o2, o3⟩⟩, T.2.1, false) := by
          simp [Drop.step, hT, hk]
        rw [es]
        rw [hT] at hp1 h2
        exact ⟨_, rfl, ⟨_, gv, [bh], Fg, rfl, h1, ⟨bh, rfl, rfl, hp1⟩, hg.fr f ng', k1, k2, k3⟩, h2, fin f, fun x hx => Or.inl hx⟩
      | true =>
        refine (dropStep3b e w l m h n own hs hgg 3 dw size _ gv o0 o1 o2 o3 b x bh hpa npl nbp rfl ha nb (by rw [hT]; exact hk)).mono ?_
        rintro r w' ⟨rfl, h1, hp1, h2, f⟩
        have es : Drop.step ⟨n, own, ⟨hs, hgg⟩, 3, dw, size, some x, give, ⟨o0, o1, o2, o3⟩⟩ e m = (⟨n, own, ⟨hs, hgg⟩, 5, dw, size, some T.1, give, ⟨0, 0, 0, T.2.1.whenAt (e.c.slotA hs)⟩⟩, T.2.1, false) := by
          simp [Drop.step, hT, hk]
        rw [es]
        rw [hT] at h1 hp1 h2
        exact ⟨_, rfl, ⟨_, gv, [bh], Fg, rfl, h1, ⟨bh, rfl, rfl, hp1⟩, hg.fr f ng', k1, k2, k3⟩, h2, fin f, fun x hx => Or.inl hx⟩
    · cases hk : T.2.2 with
      | false =>
        refine (dropStep4a e w l m h n own hs hgg 4 dw size _ gv o0 o1 o2 o3 b x bh hpa npl nbp rfl ha nb (by rw [hT]; exact hk)).mono ?_
        rintro r w' ⟨rfl, h1, hp1, h2, f⟩
        have es : Drop.step ⟨n, own, ⟨hs, hgg⟩, 4, dw, size, some x, give, ⟨o0, o1, o2, o3⟩⟩ e m = (⟨n, own, ⟨hs, hgg⟩, 4, dw, size, some T.1, give, ⟨o0, o1, o2, o3⟩⟩, T.2.1, false) := by
          simp [Drop.step, hT, hk]
        rw [es]
        rw [hT] at hp1 h2
        exact ⟨_, rfl, ⟨_, gv, [bh], Fg, rfl, h1, ⟨bh, rfl, rfl, hp1⟩, hg.fr f ng', k1, k2, k3⟩, h2, fin f, fun x hx => Or.inl hx⟩
      | true =>
        refine (dropStep4b e w l m h n own hs hgg 4 dw size _ gv o0 o1 o2 o3 b x bh hpa npl nbp rfl ha nb (by rw [hT]; exact hk)).mono ?_
        rintro r w' ⟨rfl, h1, hp1, h2, f⟩
        have es : Drop.step ⟨n, own, ⟨hs, hgg⟩, 4, dw, size, some x, give, ⟨o0, o1, o2, o3⟩⟩ e m = (⟨n, own, ⟨hs, hgg⟩, 0, dw, size, some T.1, give, ⟨o0, o1, o2, o3⟩⟩, T.2.1, false) := by
          simp [Drop.step, hT, hk]
        rw [es]
        rw [hT] at hp1 h2
        exact ⟨_, rfl, ⟨_, gv, [bh], Fg, rfl, h1, ⟨bh, rfl, rfl, hp1⟩, hg.fr f ng', k1, k2, k3⟩, h2, fin f, fun x hx => Or.inl hx⟩
  have c3 : pc ≠ 3 := fun e => c34 (Or.inl e)
  have c4 : pc ≠ 4 := fun e => c34 (Or.inr e)
  by_cases c5 : pc = 5
  · subst c5
    refine (dropStep5 e w l m h n own hs hgg 5 dw size hv gv o0 o1 o2 o3 b ha nb (ok5 rfl).1 (ok5 rfl).2).mono ?_
    rintro r w' ⟨bg, rfl, hlt, h1, hg1, h2, f⟩
    have es : Drop.step ⟨n, own, ⟨hs, hgg⟩, 5, dw, size, help, give, ⟨o0, o1, o2, o3⟩⟩ e m = (⟨n, own, ⟨hs, hgg⟩, 6, dw, size, help, some (Give.new hs), ⟨o0, o1, o2, o3⟩⟩, m.add e.who (inc (e.c.chunkA (e.c.of (slotOf dw).addr))) (wrap64 (- room (classOf size))), decide (e.c.gens ≤ hgg)) := by
      simp [Drop.step]
    rw [es]
    refine ⟨b :: (Fp ++ [bg]), rfl, ⟨hv, _, Fp, [bg], rfl, h1, hp.fr f np, ⟨bg, rfl, rfl, hg1⟩, k1, ?_, ?_⟩, h2, f.widen, ?_⟩
    · simp only [List.mem_singleton]; omega
    · intro x hx hy
      simp only [List.mem_singleton] at hy
      subst hy
      have := lp _ hx
      omega
    · intro x hx
      simp only [List.mem_cons, List.mem_append, List.not_mem_nil, or_false] at hx ⊢
      rcases hx with rfl | hx | rfl
      · simp
      · simp [hx]
      · right; omega
  · obtain ⟨g', rfl⟩ := ok6 c0 c1 c2 c3 c4 c5
    obtain ⟨bg, rfl, rfl, hga⟩ := hg
    have ngl : bg ∉ l.list := hd bg (by simp)
    have nbg : b ≠ bg := by simpa using k2
    have np' : ∀ x ∈ Fp, x ∉ b :: bg :: l.list := fun x hx => by
      have g := np x hx
      simp only [List.mem_cons, not_or] at g ⊢
      exact ⟨g.1, fun e => k3 x hx (by simp [e]), g.2⟩
    refine (dropStep6 e w l m h n own hs hgg pc dw size hv _ o0 o1 o2 o3 b g' bg hga ngl nbg rfl ha nb c0 c1 c2 c3 c4 c5).mono ?_
    rintro r w' ⟨rfl, h1, hg1, h2, f⟩
    have es : Drop.step ⟨n, own, ⟨hs, hgg⟩, pc, dw, size, help, some g', ⟨o0, o1, o2, o3⟩⟩ e m = (⟨n, own, ⟨hs, hgg⟩, pc, dw, size, help, some (g'.step e m).1, ⟨o0, o1, o2, o3⟩⟩, (g'.step e m).2.1, (g'.step e m).2.2) := by
      simp [Drop.step, c0, c1, c2, c3, c4, c5]
    rw [es]
    refine ⟨_, rfl, ⟨hv, _, Fp, [bg], rfl, h1, hp.fr f np', ⟨bg, rfl, rfl, hg1⟩, k1, k2, k3⟩, h2, f.mono ?_, fun x hx => Or.inl hx⟩
    intro k _ hk
    simp only [List.mem_cons, List.mem_append, List.not_mem_nil, or_false] at hk ⊢
    rcases hk with rfl | rfl | hk <;> simp [*]

theorem drop_done (w : World) (a : Drop) (b : Nat) (F : List Nat) (hb : DropAt w b F a) :
    Calls Try.prog 72 #[.pointer (some ⟨b, 0, none⟩)] w fun r w' => r = .returned (.agg #[.int .i64 a.out.e, .int .u64 a.out.handle, .int .i64 a.out.value, .int .i64 a.out.stamp]) ∧ Fr [] w w' := by
  obtain ⟨pv, gv, Fp, Fg, rfl, ha, hp, hg, k1, k2, k3⟩ := hb
  exact dropDone_any w _ _ _ _ _ _ _ _ _ _ _ _ _ b ha
end Go.Proofs.Ytkgbifagledcaaa.FL
