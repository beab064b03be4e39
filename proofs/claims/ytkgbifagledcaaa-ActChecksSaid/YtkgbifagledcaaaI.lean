/-
  The contract of a step of Alloc, over the whole object: its block, its place's, its giver's.
-/
import Derived.Test.YtkgbifagledcaaaH
namespace Go.Proofs.Ytkgbifagledcaaa.FL
open Go Go.RowKit
set_option linter.unusedVariables false
set_option linter.unusedSimpArgs false
set_option maxHeartbeats 4000000

theorem Fr.widen {b : Nat} {L X : List Nat} {w w' : World} (f : Fr (b :: L) w w') : Fr (b :: X ++ L) w w' := f.mono (by
  intro k _ hk
  simp only [List.mem_cons, List.cons_append, List.mem_append] at hk ⊢
  rcases hk with rfl | hk
  · exact Or.inl rfl
  · exact Or.inr (Or.inr hk))
def PlaceP (w : World) (F : List Nat) (v : Value) : Option Place → Prop
  | none => v = .pointer none ∧ F = []
  | some p => ∃ k, F = [k] ∧ v = .pointer (some ⟨k, 0, none⟩) ∧ At w k 181 p.arr
def GiveP (w : World) (F : List Nat) (v : Value) : Option Give → Prop
  | none => v = .pointer none ∧ F = []
  | some p => ∃ k, F = [k] ∧ v = .pointer (some ⟨k, 0, none⟩) ∧ At w k 189 p.arr
theorem PlaceP.fr {w w' : World} {S F : List Nat} {v : Value} {o : Option Place} (h : PlaceP w F v o) (f : Fr S w w') (hs : ∀ k ∈ F, k ∉ S) : PlaceP w' F v o := by
  cases o with
  | none => exact h
  | some p => obtain ⟨k, rfl, hv, ha⟩ := h; exact ⟨k, rfl, hv, ha.fr f (hs k (by simp))⟩
theorem GiveP.fr {w w' : World} {S F : List Nat} {v : Value} {o : Option Give} (h : GiveP w F v o) (f : Fr S w w') (hs : ∀ k ∈ F, k ∉ S) : GiveP w' F v o := by
  cases o with
  | none => exact h
  | some p => obtain ⟨k, rfl, hv, ha⟩ := h; exact ⟨k, rfl, hv, ha.fr f (hs k (by simp))⟩
theorem PlaceP.lt {w : World} {F : List Nat} {v : Value} {o : Option Place} (h : PlaceP w F v o) : ∀ k ∈ F, k < w.heap.size := by
  cases o with
  | none => obtain ⟨_, rfl⟩ := h; simp
  | some p => obtain ⟨k, rfl, hv, ha⟩ := h; have := ha.lt; simpa using this
theorem GiveP.lt {w : World} {F : List Nat} {v : Value} {o : Option Give} (h : GiveP w F v o) : ∀ k ∈ F, k < w.heap.size := by
  cases o with
  | none => obtain ⟨_, rfl⟩ := h; simp
  | some p => obtain ⟨k, rfl, hv, ha⟩ := h; have := ha.lt; simpa using this

/-- The object a lies in the blocks F, its own first. -/
def AllocAt (w : World) (b : Nat) (F : List Nat) (a : Alloc) : Prop :=
  ∃ pv gv Fp Fg, F = b :: (Fp ++ Fg) ∧ At w b 163 (a.arr pv gv) ∧ PlaceP w Fp pv a.p ∧ GiveP w Fg gv a.give ∧ b ∉ Fp ∧ b ∉ Fg ∧ (∀ x ∈ Fp, x ∉ Fg)
def Alloc.Ok (a : Alloc) : Prop :=
  (a.pc = 2 → ∃ p, a.p = some p ∧ 0 ≤ p.cls) ∧ (a.pc = 3 → 0 ≤ classOf a.size) ∧ (a.pc ≠ 0 → a.pc ≠ 1 → a.pc ≠ 2 → a.pc ≠ 3 → a.pc ≠ 4 → a.pc ≠ 5 → a.pc ≠ 6 → ∃ g, a.give = some g)

theorem AllocAt.fr {w w' : World} {S F : List Nat} {b : Nat} {a : Alloc} (h : AllocAt w b F a) (f : Fr S w w') (hs : ∀ k ∈ F, k ∉ S) : AllocAt w' b F a := by
  obtain ⟨pv, gv, Fp, Fg, rfl, ha, hp, hg, h1, h2, h3⟩ := h
  exact ⟨pv, gv, Fp, Fg, rfl, ha.fr f (hs b (by simp)), hp.fr f (fun k hk => hs k (by simp [hk])), hg.fr f (fun k hk => hs k (by simp [hk])), h1, h2, h3⟩
theorem AllocAt.lt {w : World} {F : List Nat} {b : Nat} {a : Alloc} (h : AllocAt w b F a) : ∀ k ∈ F, k < w.heap.size := by
  obtain ⟨pv, gv, Fp, Fg, rfl, ha, hp, hg, h1, h2, h3⟩ := h
  have := ha.lt; have := hp.lt; have := hg.lt
  intro k hk
  simp only [List.mem_cons, List.mem_append] at hk
  rcases hk with rfl | hk | hk <;> simp_all

theorem alloc_new (w : World) (size : Int) (own : Bool) :
    Calls Try.prog 67 #[.int .i64 size, .bool own] w fun r w' => ∃ b, r = .returned (.pointer (some ⟨b, 0, none⟩)) ∧ w.heap.size ≤ b ∧ AllocAt w' b [b] (Alloc.new size own) ∧ Fr [] w w' :=
  (newAlloc_any w size own).mono fun _ _ ⟨b, h1, h2, h3, h4⟩ => ⟨b, h1, h2, ⟨_, _, [], [], rfl, h3, ⟨rfl, rfl⟩, ⟨rfl, rfl⟩, by simp, by simp, by simp⟩, h4⟩

theorem alloc_any (e : Env) (w : World) (l : Loc) (m : Mem) (h : MemAt w l m) (a : Alloc) (b : Nat) (F : List Nat) (hb : AllocAt w b F a) (hd : ∀ x ∈ F, x ∉ l.list) (ok : a.Ok) :
    Calls Try.prog 68 #[.pointer (some ⟨b, 0, none⟩), .agg (e.arr l)] w fun r w' =>
      ∃ F', r = .returned (.bool (a.step e m).2.2) ∧ AllocAt w' b F' (a.step e m).1 ∧ MemAt w' l (a.step e m).2.1 ∧ Fr (F ++ l.list) w w' ∧ (∀ x ∈ F', x ∈ F ∨ w.heap.size ≤ x) := by
  obtain ⟨pv, gv, Fp, Fg, rfl, ha, hp, hg, k1, k2, k3⟩ := hb
  obtain ⟨size, own, pc, ⟨tpc, ttop, tnext, tslot, tok⟩, at_, gen, p, ⟨sa, sc⟩, give, ⟨o0, o1, o2, o3⟩⟩ := a
  obtain ⟨ok2, ok3, ok7⟩ := ok
  simp only at ok2 ok3 ok7 hp hg
  have nb : b ∉ l.list := hd b (by simp)
  have np : ∀ x ∈ Fp, x ∉ b :: l.list := fun x hx => by
    simp only [List.mem_cons, not_or]; exact ⟨fun e => k1 (e ▸ hx), hd x (by simp [hx])⟩
  have ng : ∀ x ∈ Fg, x ∉ b :: l.list := fun x hx => by
    simp only [List.mem_cons, not_or]; exact ⟨fun e => k2 (e ▸ hx), hd x (by simp [hx])⟩
  have lb := ha.lt
  have lp := hp.lt
  have lg := hg.lt
  by_cases c0 : pc = 0
  · subst c0
    by_cases hc : classOf size < 0
    · refine (alloc0a e w l m h size own 0 tpc ttop tnext tslot tok at_ gen pv sa sc gv o0 o1 o2 o3 b ha nb hc).mono ?_
      rintro r w' ⟨rfl, h1, h2, f⟩
      have es : Alloc.step ⟨size, own, 0, ⟨tpc, ttop, tnext, tslot, tok⟩, at_, gen, p, ⟨sa, sc⟩, give, ⟨o0, o1, o2, o3⟩⟩ e m = (⟨size, own, 0, ⟨tpc, ttop, tnext, tslot, tok⟩, at_, gen, p, ⟨sa, sc⟩, give, ⟨5, 0, 0, m.steps⟩⟩, m, true) := by
        simp [Alloc.step, hc, Alloc.endBy]
      rw [es]
      exact ⟨_, rfl, ⟨pv, gv, Fp, Fg, rfl, h1, hp.fr f np, hg.fr f ng, k1, k2, k3⟩, h2, f.widen, fun x hx => Or.inl hx⟩
    · have hc' : 0 ≤ classOf size := by omega
      obtain ⟨T, hT⟩ : ∃ T, Take.step ⟨tpc, ttop, tnext, tslot, tok⟩ e m = T := ⟨_, rfl⟩
      cases hk : T.2.2 with
      | false =>
        refine (alloc0b e w l m h size own 0 tpc ttop tnext tslot tok at_ gen pv sa sc gv o0 o1 o2 o3 b ha nb hc' (by rw [hT]; exact hk)).mono ?_
        rintro r w' ⟨rfl, h1, h2, f⟩
        have es : Alloc.step ⟨size, own, 0, ⟨tpc, ttop, tnext, tslot, tok⟩, at_, gen, p, ⟨sa, sc⟩, give, ⟨o0, o1, o2, o3⟩⟩ e m = (⟨size, own, 0, T.1, at_, gen, p, ⟨sa, sc⟩, give, ⟨o0, o1, o2, o3⟩⟩, T.2.1, false) := by
          simp [Alloc.step, hc, hT, hk]
        rw [es]
        rw [hT] at h1 h2
        exact ⟨_, rfl, ⟨pv, gv, Fp, Fg, rfl, h1, hp.fr f np, hg.fr f ng, k1, k2, k3⟩, h2, f.widen, fun x hx => Or.inl hx⟩
      | true =>
        cases hok : T.1.ok with
        | true =>
          refine (alloc0c e w l m h size own 0 tpc ttop tnext tslot tok at_ gen pv sa sc gv o0 o1 o2 o3 b ha nb hc' (by rw [hT]; exact hk) (by rw [hT]; exact hok)).mono ?_
          rintro r w' ⟨rfl, h1, h2, f⟩
          have es : Alloc.step ⟨size, own, 0, ⟨tpc, ttop, tnext, tslot, tok⟩, at_, gen, p, ⟨sa, sc⟩, give, ⟨o0, o1, o2, o3⟩⟩ e m = (⟨size, own, 1, T.1, T.1.slot, gen, p, ⟨sa, sc⟩, give, ⟨o0, o1, o2, o3⟩⟩, T.2.1, false) := by
            simp [Alloc.step, hc, hT, hk, Take.got, hok]
          rw [es]
          rw [hT] at h1 h2
          exact ⟨_, rfl, ⟨pv, gv, Fp, Fg, rfl, h1, hp.fr f np, hg.fr f ng, k1, k2, k3⟩, h2, f.widen, fun x hx => Or.inl hx⟩
        | false =>
          refine (alloc0d e w l m h size own 0 tpc ttop tnext tslot tok at_ gen pv sa sc gv o0 o1 o2 o3 b ha nb hc' (by rw [hT]; exact hk) (by rw [hT]; exact hok)).mono ?_
          rintro r w' ⟨rfl, h1, h2, f⟩
          have es : Alloc.step ⟨size, own, 0, ⟨tpc, ttop, tnext, tslot, tok⟩, at_, gen, p, ⟨sa, sc⟩, give, ⟨o0, o1, o2, o3⟩⟩ e m = (⟨size, own, 1, T.1, 0, gen, p, ⟨sa, sc⟩, give, ⟨7, 0, 0, T.2.1.steps⟩⟩, T.2.1, true) := by
            simp [Alloc.step, hc, hT, hk, Take.got, hok, Alloc.endBy]
          rw [es]
          rw [hT] at h1 h2
          exact ⟨_, rfl, ⟨pv, gv, Fp, Fg, rfl, h1, hp.fr f np, hg.fr f ng, k1, k2, k3⟩, h2, f.widen, fun x hx => Or.inl hx⟩
  by_cases c1 : pc = 1
  · subst c1
    refine (alloc1 e w l m h size own 1 tpc ttop tnext tslot tok at_ gen pv sa sc gv o0 o1 o2 o3 b ha nb).mono ?_
    rintro r w' ⟨bp, rfl, hlt, h1, hp1, h2, f⟩
    have es : Alloc.step ⟨size, own, 1, ⟨tpc, ttop, tnext, tslot, tok⟩, at_, gen, p, ⟨sa, sc⟩, give, ⟨o0, o1, o2, o3⟩⟩ e m = (⟨size, own, 2, ⟨tpc, ttop, tnext, tslot, tok⟩, at_, (slotOf (m.load e.who (e.c.slotA at_)).1).gen, some (Place.new (classOf size)), ⟨sa, sc⟩, give, ⟨o0, o1, o2, o3⟩⟩, (m.load e.who (e.c.slotA at_)).2, false) := by
      simp [Alloc.step]
    rw [es]
    refine ⟨b :: ([bp] ++ Fg), rfl, ⟨_, gv, [bp], Fg, rfl, h1, ⟨bp, rfl, rfl, hp1⟩, hg.fr f ng, ?_, k2, ?_⟩, h2, f.widen, ?_⟩
    · simp only [List.mem_singleton]; omega
    · intro x hx hy
      simp only [List.mem_singleton] at hx
      subst hx
      have := lg _ hy
      omega
    · intro x hx
      simp only [List.mem_cons, List.mem_append, List.not_mem_nil, or_false] at hx ⊢
      rcases hx with rfl | rfl | hx
      · simp
      · right; omega
      · simp [hx]
  by_cases c2 : pc = 2
  · subst c2
    obtain ⟨p', rfl, hcls⟩ := ok2 rfl
    obtain ⟨bp, rfl, rfl, hpa⟩ := hp
    have npl : bp ∉ l.list := hd bp (by simp)
    have nbp : b ≠ bp := by simpa using k1
    have ng' : ∀ x ∈ Fg, x ∉ b :: bp :: l.list := fun x hx => by
      have g := ng x hx
      simp only [List.mem_cons, not_or] at g ⊢
      exact ⟨g.1, fun e => k3 bp (by simp) (e ▸ hx), g.2⟩
    have fin : ∀ {w'}, Fr (b :: bp :: l.list) w w' → Fr (b :: ([bp] ++ Fg) ++ l.list) w w' := fun f => f.mono (by
      intro k _ hk
      simp only [List.mem_cons, List.mem_append, List.not_mem_nil, or_false] at hk ⊢
      rcases hk with rfl | rfl | hk <;> simp [*])
    obtain ⟨T, hT⟩ : ∃ T, Place.step p' e m = T := ⟨_, rfl⟩
    cases hk : T.2.2 with
    | false =>
      refine (alloc2a e w l m h size own 2 tpc ttop tnext tslot tok at_ gen _ sa sc gv o0 o1 o2 o3 b p' bp hpa npl nbp hcls rfl ha nb (by rw [hT]; exact hk)).mono ?_
      rintro r w' ⟨rfl, h1, hp1, h2, f⟩
      have es : Alloc.step ⟨size, own, 2, ⟨tpc, ttop, tnext, tslot, tok⟩, at_, gen, some p', ⟨sa, sc⟩, give, ⟨o0, o1, o2, o3⟩⟩ e m = (⟨size, own, 2, ⟨tpc, ttop, tnext, tslot, tok⟩, at_, gen, some T.1, ⟨sa, sc⟩, give, ⟨o0, o1, o2, o3⟩⟩, T.2.1, false) := by
        simp [Alloc.step, hT, hk]
      rw [es]
      rw [hT] at hp1 h2
      exact ⟨_, rfl, ⟨_, gv, [bp], Fg, rfl, h1, ⟨bp, rfl, rfl, hp1⟩, hg.fr f ng', k1, k2, k3⟩, h2, fin f, fun x hx => Or.inl hx⟩
    | true =>
      cases hok : T.1.ok with
      | true =>
        refine (alloc2b e w l m h size own 2 tpc ttop tnext tslot tok at_ gen _ sa sc gv o0 o1 o2 o3 b p' bp hpa npl nbp hcls rfl ha nb (by rw [hT]; exact hk) (by rw [hT]; exact hok)).mono ?_
        rintro r w' ⟨rfl, h1, hp1, h2, f⟩
        have es : Alloc.step ⟨size, own, 2, ⟨tpc, ttop, tnext, tslot, tok⟩, at_, gen, some p', ⟨sa, sc⟩, give, ⟨o0, o1, o2, o3⟩⟩ e m = (⟨size, own, 3, ⟨tpc, ttop, tnext, tslot, tok⟩, at_, gen, some T.1, T.1.spot, give, ⟨o0, o1, o2, o3⟩⟩, T.2.1, false) := by
          simp [Alloc.step, hT, hk, Place.got, hok]
        rw [es]
        rw [hT] at h1 hp1 h2
        exact ⟨_, rfl, ⟨_, gv, [bp], Fg, rfl, h1, ⟨bp, rfl, rfl, hp1⟩, hg.fr f ng', k1, k2, k3⟩, h2, fin f, fun x hx => Or.inl hx⟩
      | false =>
        refine (alloc2c e w l m h size own 2 tpc ttop tnext tslot tok at_ gen _ sa sc gv o0 o1 o2 o3 b p' bp hpa npl nbp hcls rfl ha nb (by rw [hT]; exact hk) (by rw [hT]; exact hok)).mono ?_
        rintro r w' ⟨bg, rfl, hlt, h1, hp1, hg1, h2, f⟩
        have es : Alloc.step ⟨size, own, 2, ⟨tpc, ttop, tnext, tslot, tok⟩, at_, gen, some p', ⟨sa, sc⟩, give, ⟨o0, o1, o2, o3⟩⟩ e m = (⟨size, own, 7, ⟨tpc, ttop, tnext, tslot, tok⟩, at_, gen, some T.1, ⟨0, 0⟩, some (Give.new at_), ⟨6, 0, 0, T.2.1.steps⟩⟩, T.2.1, false) := by
          simp [Alloc.step, hT, hk, Place.got, hok, Alloc.endBy]
        rw [es]
        rw [hT] at h1 hp1 h2
        have lbp := hpa.lt
        refine ⟨b :: ([bp] ++ [bg]), rfl, ⟨_, _, [bp], [bg], rfl, h1, ⟨bp, rfl, rfl, hp1⟩, ⟨bg, rfl, rfl, hg1⟩, k1, ?_, ?_⟩, h2, fin f, ?_⟩
        · simp only [List.mem_singleton]; omega
        · simp only [List.mem_singleton]; intro x hx; omega
        · intro x hx
          simp only [List.mem_cons, List.mem_append, List.not_mem_nil, or_false] at hx ⊢
          rcases hx with rfl | rfl | rfl
          · simp
          · simp
          · right; omega
  by_cases c3 : pc = 3
  · subst c3
    refine (alloc3 e w l m h size own 3 tpc ttop tnext tslot tok at_ gen pv sa sc gv o0 o1 o2 o3 b ha nb (ok3 rfl)).mono ?_
    rintro r w' ⟨rfl, h1, h2, f⟩
    have es : Alloc.step ⟨size, own, 3, ⟨tpc, ttop, tnext, tslot, tok⟩, at_, gen, p, ⟨sa, sc⟩, give, ⟨o0, o1, o2, o3⟩⟩ e m = (⟨size, own, 4, ⟨tpc, ttop, tnext, tslot, tok⟩, at_, gen, p, ⟨sa, sc⟩, give, ⟨o0, o1, o2, o3⟩⟩, m.add e.who (inc (e.c.chunkA sc)) (room (classOf size)), false) := by
      simp [Alloc.step]
    rw [es]
    exact ⟨_, rfl, ⟨pv, gv, Fp, Fg, rfl, h1, hp.fr f np, hg.fr f ng, k1, k2, k3⟩, h2, f.widen, fun x hx => Or.inl hx⟩
  by_cases c4 : pc = 4
  · subst c4
    refine (alloc4 e w l m h size own 4 tpc ttop tnext tslot tok at_ gen pv sa sc gv o0 o1 o2 o3 b ha nb).mono ?_
    rintro r w' ⟨rfl, h1, h2, f⟩
    have es : Alloc.step ⟨size, own, 4, ⟨tpc, ttop, tnext, tslot, tok⟩, at_, gen, p, ⟨sa, sc⟩, give, ⟨o0, o1, o2, o3⟩⟩ e m = (⟨size, own, 5, ⟨tpc, ttop, tnext, tslot, tok⟩, at_, gen, p, ⟨sa, sc⟩, give, ⟨o0, o1, o2, o3⟩⟩, m.store e.who sa (putHead ⟨1, size, at_, gen, own⟩), false) := by
      simp [Alloc.step, Alloc.head]
    rw [es]
    exact ⟨_, rfl, ⟨pv, gv, Fp, Fg, rfl, h1, hp.fr f np, hg.fr f ng, k1, k2, k3⟩, h2, f.widen, fun x hx => Or.inl hx⟩
  by_cases c5 : pc = 5
  · subst c5
    refine (alloc5 e w l m h size own 5 tpc ttop tnext tslot tok at_ gen pv sa sc gv o0 o1 o2 o3 b ha nb).mono ?_
    rintro r w' ⟨rfl, h1, h2, f⟩
    have es : Alloc.step ⟨size, own, 5, ⟨tpc, ttop, tnext, tslot, tok⟩, at_, gen, p, ⟨sa, sc⟩, give, ⟨o0, o1, o2, o3⟩⟩ e m = (⟨size, own, 6, ⟨tpc, ttop, tnext, tslot, tok⟩, at_, gen, p, ⟨sa, sc⟩, give, ⟨0, putHandle ⟨at_, gen⟩, 0, (m.store e.who (e.c.slotA at_) (putSlot ⟨1, sa, gen, 0⟩)).steps⟩⟩, m.store e.who (e.c.slotA at_) (putSlot ⟨1, sa, gen, 0⟩), false) := by
      simp [Alloc.step]
    rw [es]
    exact ⟨_, rfl, ⟨pv, gv, Fp, Fg, rfl, h1, hp.fr f np, hg.fr f ng, k1, k2, k3⟩, h2, f.widen, fun x hx => Or.inl hx⟩
  by_cases c6 : pc = 6
  · subst c6
    refine (alloc6 e w l m h size own 6 tpc ttop tnext tslot tok at_ gen pv sa sc gv o0 o1 o2 o3 b ha nb).mono ?_
    rintro r w' ⟨rfl, h1, h2, f⟩
    have es : Alloc.step ⟨size, own, 6, ⟨tpc, ttop, tnext, tslot, tok⟩, at_, gen, p, ⟨sa, sc⟩, give, ⟨o0, o1, o2, o3⟩⟩ e m = (⟨size, own, 6, ⟨tpc, ttop, tnext, tslot, tok⟩, at_, gen, p, ⟨sa, sc⟩, give, ⟨o0, o1, o2, o3⟩⟩, m.store e.who sa (putHead ⟨2, size, at_, gen, own⟩), true) := by
      simp [Alloc.step, Alloc.head]
    rw [es]
    exact ⟨_, rfl, ⟨pv, gv, Fp, Fg, rfl, h1, hp.fr f np, hg.fr f ng, k1, k2, k3⟩, h2, f.widen, fun x hx => Or.inl hx⟩
  · obtain ⟨g', rfl⟩ := ok7 c0 c1 c2 c3 c4 c5 c6
    obtain ⟨bg, rfl, rfl, hga⟩ := hg
    have ngl : bg ∉ l.list := hd bg (by simp)
    have nbg : b ≠ bg := by simpa using k2
    have np' : ∀ x ∈ Fp, x ∉ b :: bg :: l.list := fun x hx => by
      have g := np x hx
      simp only [List.mem_cons, not_or] at g ⊢
      exact ⟨g.1, fun e => k3 x hx (by simp [e]), g.2⟩
    refine (alloc7 e w l m h size own pc tpc ttop tnext tslot tok at_ gen pv sa sc _ o0 o1 o2 o3 b g' bg hga ngl nbg rfl ha nb c0 c1 c2 c3 c4 c5 c6).mono ?_
    rintro r w' ⟨rfl, h1, hg1, h2, f⟩
    have es : Alloc.step ⟨size, own, pc, ⟨tpc, ttop, tnext, tslot, tok⟩, at_, gen, p, ⟨sa, sc⟩, some g', ⟨o0, o1, o2, o3⟩⟩ e m = (⟨size, own, pc, ⟨tpc, ttop, tnext, tslot, tok⟩, at_, gen, p, ⟨sa, sc⟩, some (g'.step e m).1, ⟨o0, o1, o2, o3⟩⟩, (g'.step e m).2.1, (g'.step e m).2.2) := by
      simp [Alloc.step, c0, c1, c2, c3, c4, c5, c6]
    rw [es]
    refine ⟨_, rfl, ⟨pv, _, Fp, [bg], rfl, h1, hp.fr f np', ⟨bg, rfl, rfl, hg1⟩, k1, k2, k3⟩, h2, f.mono ?_, fun x hx => Or.inl hx⟩
    intro k _ hk
    simp only [List.mem_cons, List.mem_append, List.not_mem_nil, or_false] at hk ⊢
    rcases hk with rfl | rfl | hk <;> simp [*]

theorem alloc_done (w : World) (a : Alloc) (b : Nat) (F : List Nat) (hb : AllocAt w b F a) :
    Calls Try.prog 69 #[.pointer (some ⟨b, 0, none⟩)] w fun r w' => r = .returned (.agg #[.int .i64 a.out.e, .int .u64 a.out.handle, .int .i64 a.out.value, .int .i64 a.out.stamp]) ∧ Fr [] w w' := by
  obtain ⟨pv, gv, Fp, Fg, rfl, ha, hp, hg, k1, k2, k3⟩ := hb
  exact allocDone_any w _ _ _ _ _ _ _ _ _ _ _ _ _ _ _ _ _ _ b ha
end Go.Proofs.Ytkgbifagledcaaa.FL
