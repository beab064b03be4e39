/-
  Plain law: an object that is made alone; what is asked of an arena by a handle that nobody made.
-/
import Derived.Test.YtkgbifagledcaaaPF
import Derived.KernelRfl
namespace Go.Proofs.Ytkgbifagledcaaa.FL
open Go Go.RowKit
set_option linter.unusedVariables false
set_option linter.unusedSimpArgs false

structure AInv (c : Cfg) (L : List (Int × Bool)) (a : Alloc) (m : Mem) : Prop where
  base : a.pc ≠ 6 → Inv c m L
  six : a.pc = 6 → a.out.e = 0 ∧ Inv c m ((a.out.handle, a.own) :: L) ∧ (headOf (m.at a.spot.addr)).own = a.own
  at_ : a.pc ≠ 0 → 0 ≤ a.at_ ∧ a.at_ < c.slots
  gen : 0 ≤ a.gen ∧ a.gen ≤ 65535
  take : a.pc = 0 → a.take.ok = false ∧ (a.take.pc ≠ 0 → 0 ≤ a.take.slot ∧ a.take.slot < c.slots) ∧ (a.take.pc ≠ 0 → a.take.pc ≠ 1 → -1 ≤ a.take.next ∧ a.take.next < c.slots)
  cls : a.pc ≠ 0 → 0 ≤ classOf a.size
  place : a.pc = 2 → ∃ p, a.p = some p ∧ PInv c p
  spot : a.pc = 3 ∨ a.pc = 4 ∨ a.pc = 5 ∨ a.pc = 6 → SpotOk c m a.spot
  free : a.pc = 3 ∨ a.pc = 4 ∨ a.pc = 5 → SpotFree c m a.spot
  head : a.pc = 5 → (headOf (m.at a.spot.addr)).own = a.own
  give : ∀ g, a.give = some g → 0 ≤ g.slot ∧ g.slot < c.slots ∧ (g.pc ≠ 0 → -1 ≤ (topOf g.top).1 ∧ (topOf g.top).1 < c.slots)
  pcs : a.pc = 0 ∨ a.pc = 1 ∨ a.pc = 2 ∨ a.pc = 3 ∨ a.pc = 4 ∨ a.pc = 5 ∨ a.pc = 6 ∨ a.pc = 7

/-- What an object's making leaves. -/
def AEnd (c : Cfg) (L : List (Int × Bool)) (a : Alloc) (m : Mem) : Prop :=
  (a.out.e = 0 → Inv c m ((a.out.handle, a.own) :: L)) ∧ (a.out.e ≠ 0 → Inv c m L)
theorem Inv.end {c : Cfg} {m : Mem} {L : List (Int × Bool)} {a : Alloc} (h : Inv c m L) : AEnd c L a m :=
  ⟨fun _ => h.more (fun _ hx => List.mem_cons_of_mem _ hx), fun _ => h⟩
theorem AInv.end {c : Cfg} {m : Mem} {L : List (Int × Bool)} {a : Alloc} (h : AInv c L a m) : AEnd c L a m := by
  by_cases h6 : a.pc = 6
  · exact ⟨fun _ => (h.six h6).2.1, fun hn => absurd (h.six h6).1 hn⟩
  · exact (h.base h6).end
theorem SpotOk.same {c : Cfg} {m m' : Mem} {s : Spot} (h : SpotOk c m s) (e : ∀ i, 0 ≤ i → i < c.chunks → m'.at (c.K + 3 * i) = m.at (c.K + 3 * i)) : SpotOk c m' s := by
  obtain ⟨i, i1, i2, i3, i4, i5⟩ := h
  exact ⟨i, i1, i2, i3, i4, by rw [e i i1 i2]; exact i5⟩
theorem SpotFree.same {c : Cfg} {m m' : Mem} {s : Spot} (h : SpotFree c m s) (e : ∀ j, 0 ≤ j → j < c.slots → m'.at (c.S + 2 * j) = m.at (c.S + 2 * j)) : SpotFree c m' s := by
  intro j h1 h2; rw [e j h1 h2]; exact h j h1 h2

def APost (c : Cfg) (L : List (Int × Bool)) (own : Bool) (X : Alloc × Mem × Bool) : Prop :=
  (X.2.2 = false → AInv c L X.1 X.2.1) ∧ AEnd c L X.1 X.2.1 ∧ X.1.own = own
theorem alloc_step {c : Cfg} (ok : c.Ok) {e : Env} (he : e.c = c) {m : Mem} {L : List (Int × Bool)} {a : Alloc} (h : AInv c L a m) :
    APost c L a.own (a.step e m) := by
  obtain ⟨size, own, pc, ⟨tpc, ttop, tnext, tslot, tok⟩, at_, gen, p, ⟨sa, sc⟩, give, ⟨o0, o1, o2, o3⟩⟩ := a
  obtain ⟨hbase, hsix, hat, hgen, htake, hcls, hplace, hspot, hfree, hhead, hgive, hpcs⟩ := h
  simp only at hbase hsix hat hgen htake hcls hplace hspot hfree hhead hgive hpcs
  obtain ⟨eS, eK, eB, t1, t2, s1, s2, k1, k2, w1, w2⟩ := c.spread ok
  subst he
  have hz2 := (e.c.mul_le ok (show 0 ≤ e.c.chunks by omega) (Int.le_refl _)).1
  have both : ∀ {a : Alloc} {m : Mem} {d : Bool}, AInv e.c L a m → a.own = own → APost e.c L own (a, m, d) := fun h k => ⟨fun _ => h, h.end, k⟩
  by_cases q0 : pc = 0
  · subst q0
    have hm := hbase (by omega)
    have hl := hm.len
    obtain ⟨hok, hts, htn⟩ := htake rfl
    subst hok
    by_cases hc : classOf size < 0
    · simp only [Alloc.step, if_pos, hc, Alloc.endBy]
      exact ⟨by simp, hm.end, rfl⟩
    have hcl : 0 ≤ classOf size := by omega
    by_cases k0 : tpc = 0
    · subst k0
      simp only [Alloc.step, if_pos, if_neg hc, Take.step, m.load_in e.who 1 (by omega) (by omega)]
      have ht := hm.top
      by_cases hd : (topOf (m.at 1)).1 < 0
      · simp only [hd, decide_true, if_true, Take.got, Bool.false_eq_true, if_false, Alloc.endBy]
        exact ⟨by simp, (hm.same (m' := m.tick e.who 1) rfl).end, rfl⟩
      · simp only [hd, decide_false, Bool.false_eq_true, if_false]
        refine both ⟨fun _ => hm.same rfl, by simp, by simp, hgen, fun _ => ⟨rfl, fun _ => ⟨by simp only; omega, by simp only; omega⟩, by simp⟩, by simp, by simp, by simp, by simp, by simp, hgive, by simp⟩ rfl
    by_cases k1' : tpc = 1
    · subst k1'
      have hs := hts (by omega)
      have ea : inc (e.c.slotA tslot) = e.c.S + 2 * tslot + 1 := by rw [e.c.slotA_eq ok (by omega) (by omega), inc_in (by omega) (by omega)]
      have hk := hm.link tslot hs.1 hs.2
      simp only [Alloc.step, if_pos, if_neg hc, Take.step, if_neg k0, ea, m.load_in e.who (e.c.S + 2 * tslot + 1) (by omega) (by omega), Bool.false_eq_true, if_false]
      refine both ⟨fun _ => hm.same rfl, by simp, by simp, hgen, fun _ => ⟨rfl, fun _ => hs, fun _ _ => hk⟩, by simp, by simp, by simp, by simp, by simp, hgive, by simp⟩ rfl
    have hs := hts k0
    have hn := htn k0 k1'
    simp only [Alloc.step, if_pos, if_neg hc, Take.step, if_neg k0, if_neg k1', m.cas_in e.who 1 _ _ (by omega) (by omega)]
    by_cases hq : m.at 1 = ttop
    · have hm' : Inv e.c (m.lay e.who 1 (putTop tnext (inc (topOf ttop).2))) L := by
        refine hm.lay' ok (fun x hx => hx) _ _ _ (by omega) (by omega) ?_ (fun j _ _ _ => by omega) (fun k _ _ _ => by omega) (fun i _ _ _ => by omega) (fun j _ _ _ => by omega) ?_
        · intro _; rw [topOf_put1 _ _ (by omega)]; exact hn
        · intro j hj hj' hs' ha
          have := hm.addr ok hj hj' hs'
          omega
      simp only [if_pos hq, if_true, Take.got]
      refine both ⟨fun _ => hm', by simp, fun _ => hs, hgen, by simp, fun _ => hcl, by simp, by simp, by simp, by simp, hgive, by simp⟩ rfl
    · simp only [if_neg hq, Bool.false_eq_true, if_false]
      refine both ⟨fun _ => hm.same rfl, by simp, by simp, hgen, fun _ => ⟨rfl, by simp, by simp⟩, by simp, by simp, by simp, by simp, by simp, hgive, by simp⟩ rfl
  obtain ⟨a1, a2⟩ := hat q0
  have hcl := hcls q0
  have hc3 := (classOf_range size).2
  have hr := room_val hcl hc3
  have eSl : e.c.slotA at_ = e.c.S + 2 * at_ := e.c.slotA_eq ok (by omega) (by omega)
  by_cases q1 : pc = 1
  · subst q1
    have hm := hbase (by omega)
    have hl := hm.len
    simp only [Alloc.step, if_neg q0, if_pos, eSl, m.load_in e.who (e.c.S + 2 * at_) (by omega) (by omega)]
    refine both ⟨fun _ => hm.same rfl, by simp, fun _ => ⟨a1, a2⟩, ?_, by simp, fun _ => hcl, fun _ => ⟨_, rfl, ⟨⟨hcl, hc3⟩, by simp [Place.new], by simp [Place.new], by simp [Place.new], rfl⟩⟩, by simp, by simp, by simp, hgive, by simp⟩ rfl
    exact (slotOf_range _).2.2.1
  by_cases q2 : pc = 2
  · subst q2
    have hm := hbase (by omega)
    obtain ⟨pl, rfl, hpl⟩ := hplace rfl
    have hps := place_step ok rfl hm hpl (e := e)
    simp only [Alloc.step, if_neg q0, if_neg q1, if_pos]
    generalize pl.step e m = R at hps ⊢
    obtain ⟨pl', m', done⟩ := R
    obtain ⟨hm', h2, h3⟩ := hps
    simp only at hm' h2 h3 ⊢
    cases done with
    | false =>
      simp only [Bool.false_eq_true, if_false]
      refine both ⟨fun _ => hm', by simp, fun _ => ⟨a1, a2⟩, hgen, by simp, fun _ => hcl, fun _ => ⟨_, rfl, h2 rfl⟩, by simp, by simp, by simp, hgive, by simp⟩ rfl
    | true =>
      cases hok : pl'.ok with
      | true =>
        simp only [if_true, Place.got, hok]
        have hsp := h3 rfl hok
        refine both ⟨fun _ => hm', by simp, fun _ => ⟨a1, a2⟩, hgen, by simp, fun _ => hcl, by simp, fun _ => hsp.1, fun _ => hsp.2, by simp, hgive, by simp⟩ rfl
      | false =>
        simp only [if_true, Place.got, hok, Bool.false_eq_true, if_false, Alloc.endBy]
        refine both ⟨fun _ => hm', by simp, fun _ => ⟨a1, a2⟩, hgen, by simp, fun _ => hcl, by simp, by simp, by simp, by simp, ?_, by simp⟩ rfl
        intro g hg
        simp only [Option.some.injEq] at hg
        subst hg
        exact ⟨a1, a2, by simp [Give.new]⟩
  by_cases q7 : pc = 7
  · subst q7
    have hm := hbase (by omega)
    have hl := hm.len
    simp only [Alloc.step, if_neg q0, if_neg q1, if_neg q2, if_neg (show ¬ (7 : Int) = 3 by decide), if_neg (show ¬ (7 : Int) = 4 by decide), if_neg (show ¬ (7 : Int) = 5 by decide), if_neg (show ¬ (7 : Int) = 6 by decide)]
    cases give with
    | none => exact both ⟨fun _ => hm, by simp, fun _ => ⟨a1, a2⟩, hgen, by simp, fun _ => hcl, by simp, by simp, by simp, by simp, by simp, by simp⟩ rfl
    | some g =>
      obtain ⟨gpc, gslot, gtop⟩ := g
      obtain ⟨g1, g2, g3⟩ := hgive _ rfl
      simp only at g1 g2 g3 ⊢
      have key : Inv e.c (Give.step ⟨gpc, gslot, gtop⟩ e m).2.1 L ∧ (Give.step ⟨gpc, gslot, gtop⟩ e m).1.slot = gslot ∧ ((Give.step ⟨gpc, gslot, gtop⟩ e m).1.pc ≠ 0 → -1 ≤ (topOf (Give.step ⟨gpc, gslot, gtop⟩ e m).1.top).1 ∧ (topOf (Give.step ⟨gpc, gslot, gtop⟩ e m).1.top).1 < e.c.slots) := by
        by_cases k0 : gpc = 0
        · subst k0
          simp only [Give.step, if_pos, m.load_in e.who 1 (by omega) (by omega)]
          exact ⟨hm.same rfl, trivial, fun _ => hm.top⟩
        · have hg := g3 k0
          by_cases k1' : gpc = 1
          · subst k1'
            have ea : inc (e.c.slotA gslot) = e.c.S + 2 * gslot + 1 := by rw [e.c.slotA_eq ok (by omega) (by omega), inc_in (by omega) (by omega)]
            simp only [Give.step, if_neg k0, if_pos, ea, Mem.store, if_pos ((m.has_iff (e.c.S + 2 * gslot + 1)).2 ⟨by omega, by omega⟩)]
            refine ⟨?_, trivial, fun _ => hg⟩
            refine hm.lay' ok (fun x hx => hx) _ _ _ (by omega) (by omega) (by omega) ?_ (fun k _ _ _ => by omega) (fun i _ _ _ => by omega) (fun j _ _ _ => by omega) ?_
            · intro j _ _ _; rw [topOf_put1 _ _ (by omega)]; exact hg
            · intro j hj hj' hs' ha
              have := hm.addr ok hj hj' hs'
              omega
          · simp only [Give.step, if_neg k0, if_neg k1', m.cas_in e.who 1 _ _ (by omega) (by omega)]
            by_cases hq : m.at 1 = gtop
            · rw [if_pos hq]
              refine ⟨?_, trivial, by simp⟩
              refine hm.lay' ok (fun x hx => hx) _ _ _ (by omega) (by omega) ?_ (fun j _ _ _ => by omega) (fun k _ _ _ => by omega) (fun i _ _ _ => by omega) (fun j _ _ _ => by omega) ?_
              · intro _; rw [topOf_put1 _ _ (by omega)]; omega
              · intro j hj hj' hs' ha
                have := hm.addr ok hj hj' hs'
                omega
            · rw [if_neg hq]
              exact ⟨hm.same rfl, trivial, by simp⟩
      generalize Give.step ⟨gpc, gslot, gtop⟩ e m = R at key ⊢
      obtain ⟨g', m', done⟩ := R
      obtain ⟨hm', k1', k2'⟩ := key
      simp only at hm' k1' k2' ⊢
      refine both ⟨fun _ => hm', by simp, fun _ => ⟨a1, a2⟩, hgen, by simp, fun _ => hcl, by simp, by simp, by simp, by simp, ?_, by simp⟩ rfl
      intro g hg
      simp only [Option.some.injEq] at hg
      subst hg
      exact ⟨by omega, by omega, k2'⟩
  have hsp := hspot (by omega)
  obtain ⟨i, i1, i2, rfl, i4, i5⟩ := hsp
  simp only at i1 i2 i4 i5
  have hsp : SpotOk e.c m ⟨sa, sc⟩ := ⟨sc, i1, i2, rfl, i4, i5⟩
  have hm0 : ∃ L', Inv e.c m L' := by
    by_cases q6 : pc = 6
    · exact ⟨_, (hsix q6).2.1⟩
    · exact ⟨_, hbase q6⟩
  obtain ⟨L', hm0⟩ := hm0
  have hl := hm0.len
  have hu := hm0.used sc i1 i2
  have hw := e.c.mul_le ok i1 (by omega)
  have hn := Int.mul_le_mul_of_nonneg_left (show sc + 1 ≤ e.c.chunks by omega) (show 0 ≤ e.c.words by omega)
  rw [Int.mul_add] at hn
  have hB : e.c.words * e.c.chunks ≤ 16384 := (e.c.mul_le ok i1 (by omega)).2.2
  have hhd : ∀ k, (headOf (Alloc.head ⟨size, own, pc, ⟨tpc, ttop, tnext, tslot, tok⟩, at_, gen, p, ⟨sa, sc⟩, give, ⟨o0, o1, o2, o3⟩⟩ k)).own = own := by
    intro k; rw [Alloc.head, headOf_fit]
  by_cases q3 : pc = 3
  · subst q3
    have hm := hbase (by omega)
    have hfr := hfree (by omega)
    have ea : inc (e.c.chunkA sc) = e.c.K + 3 * sc + 1 := by rw [e.c.chunkA_eq ok (by omega) (by omega), inc_in (by omega) (by omega)]
    simp only [Alloc.step, if_neg q0, if_neg q1, if_neg q2, if_pos, ea, Mem.add, if_pos ((m.has_iff (e.c.K + 3 * sc + 1)).2 ⟨by omega, by omega⟩)]
    have hat' := fun v b hb => m.at_lay e.who (e.c.K + 3 * sc + 1) v b (by omega) (by omega) hb
    refine both ⟨fun _ => ?_, by simp, fun _ => ⟨a1, a2⟩, hgen, by simp, fun _ => hcl, by simp, fun _ => hsp.same ?_, fun _ => hfr.same ?_, by simp, hgive, by simp⟩ rfl
    · refine hm.lay' ok (fun x hx => hx) _ _ _ (by omega) (by omega) (by omega) (fun j _ _ _ => by omega) (fun k _ _ _ => by omega) (fun i _ _ _ => by omega) (fun j _ _ _ => by omega) ?_
      intro j hj hj' hs' ha
      have := hm.addr ok hj hj' hs'
      omega
    · intro i j1 j2; rw [hat' _ _ (by omega), if_neg (by omega)]
    · intro i j1 j2; rw [hat' _ _ (by omega), if_neg (by omega)]
  by_cases q4 : pc = 4
  · subst q4
    have hm := hbase (by omega)
    have hfr := hfree (by omega)
    simp only [Alloc.step, if_neg q0, if_neg q1, if_neg q2, if_neg q3, if_pos, Mem.store, if_pos ((m.has_iff sa).2 ⟨by omega, by omega⟩)]
    have hat' := fun v b hb => m.at_lay e.who sa v b (by omega) (by omega) hb
    refine both ⟨fun _ => ?_, by simp, fun _ => ⟨a1, a2⟩, hgen, by simp, fun _ => hcl, by simp, fun _ => hsp.same ?_, fun _ => hfr.same ?_, fun _ => ?_, hgive, by simp⟩ rfl
    · refine hm.lay' ok (fun x hx => hx) _ _ _ (by omega) (by omega) (by omega) (fun j _ _ _ => by omega) (fun k _ _ _ => by omega) (fun i _ _ _ => by omega) (fun j _ _ _ => by omega) ?_
      intro j hj hj' hs' ha
      exact absurd ha.symm (hfr j hj hj' hs')
    · intro i j1 j2; rw [hat' _ _ (by omega), if_neg (by omega)]
    · intro i j1 j2; rw [hat' _ _ (by omega), if_neg (by omega)]
    · show (headOf ((m.lay e.who sa _).at sa)).own = own
      rw [hat' _ _ (by omega), if_pos rfl, hhd]
  by_cases q5 : pc = 5
  · subst q5
    have hm := hbase (by omega)
    have hfr := hfree (by omega)
    have hho := hhead rfl
    simp only [Alloc.step, if_neg q0, if_neg q1, if_neg q2, if_neg q3, if_neg q4, if_pos, eSl, Mem.store, if_pos ((m.has_iff (e.c.S + 2 * at_)).2 ⟨by omega, by omega⟩)]
    have hat' := fun v b hb => m.at_lay e.who (e.c.S + 2 * at_) v b (by omega) (by omega) hb
    have ev : slotOf (putSlot ⟨1, sa, gen, 0⟩) = ⟨1, sa, gen, 0⟩ := slotOf_put _ ⟨by simp only; omega, by simp only; omega⟩ ⟨by simp only; omega, by simp only; omega⟩ hgen ⟨by simp only; omega, by simp only; omega⟩
    have hm' : Inv e.c (m.lay e.who (e.c.S + 2 * at_) (putSlot ⟨1, sa, gen, 0⟩)) ((putHandle ⟨at_, gen⟩, own) :: L) := by
      refine hm.lay' ok (fun x hx => List.mem_cons_of_mem _ hx) _ _ _ (by omega) (by omega) (by omega) (fun j _ _ _ => by omega) (fun k _ _ _ => by omega) (fun i _ _ _ => by omega) ?_ ?_
      · intro j _ _ hj _
        have : j = at_ := by omega
        subst this
        rw [ev]
        refine ⟨⟨sc, i1, i2, i4, i5⟩, ?_⟩
        simp only
        rw [hho]
        exact List.mem_cons_self
      · intro j hj hj' hs' ha
        have := hm.addr ok hj hj' hs'
        omega
    refine both ⟨by simp, fun _ => ⟨rfl, hm', ?_⟩, fun _ => ⟨a1, a2⟩, hgen, by simp, fun _ => hcl, by simp, fun _ => hsp.same ?_, by simp, by simp, hgive, by simp⟩ rfl
    · show (headOf ((m.lay e.who _ _).at sa)).own = own
      rw [hat' _ _ (by omega), if_neg (by omega)]; exact hho
    · intro i j1 j2; rw [hat' _ _ (by omega), if_neg (by omega)]
  have q6 : pc = 6 := by omega
  subst q6
  obtain ⟨ho0, hm, hho⟩ := hsix rfl
  subst ho0
  simp only [Alloc.step, if_neg q0, if_neg q1, if_neg q2, if_neg q3, if_neg q4, if_neg q5, if_pos, Mem.store, if_pos ((m.has_iff sa).2 ⟨by omega, by omega⟩)]
  refine ⟨by simp, ⟨fun _ => ?_, by simp⟩, rfl⟩
  refine hm.lay' ok (fun x hx => hx) _ _ _ (by omega) (by omega) (by omega) (fun j _ _ _ => by omega) (fun k _ _ _ => by omega) (fun i _ _ _ => by omega) (fun j _ _ _ => by omega) ?_
  intro j hj hj' hs' ha
  rw [hhd, hho]

theorem alloc_run {c : Cfg} (ok : c.Ok) {e : Env} (he : e.c = c) {L : List (Int × Bool)} : ∀ (n : Nat) {a : Alloc} {m : Mem}, AInv c L a m →
    AEnd c L (a.run e n m).1 (a.run e n m).2 ∧ (a.run e n m).1.own = a.own
  | 0, _, _, h => ⟨h.end, rfl⟩
  | n + 1, a, m, h => by
    obtain ⟨h1, h2, h3⟩ := alloc_step ok he h
    unfold Alloc.run
    simp only
    cases hd : (a.step e m).2.2 with
    | true => simp only [if_true]; exact ⟨h2, h3⟩
    | false =>
      simp only [Bool.false_eq_true, if_false]
      have := alloc_run ok he n (h1 hd)
      exact ⟨this.1, this.2.trans h3⟩

theorem make_inv {c : Cfg} (ok : c.Ok) {e : Env} (he : e.c = c) {L : List (Int × Bool)} {m : Mem} (h : Inv c m L) (size : Int) (own : Bool) :
    ((make e m size own).1.e = 0 → Inv c (make e m size own).2 (((make e m size own).1.handle, own) :: L)) ∧ ((make e m size own).1.e ≠ 0 → Inv c (make e m size own).2 L) := by
  have h0 : AInv c L (Alloc.new size own) m := ⟨fun _ => h, by simp [Alloc.new], by simp [Alloc.new], by simp [Alloc.new], fun _ => by simp [Alloc.new, Take.new], by simp [Alloc.new], by simp [Alloc.new], by simp [Alloc.new], by simp [Alloc.new], by simp [Alloc.new], by simp [Alloc.new], by simp [Alloc.new]⟩
  obtain ⟨⟨h1, h2⟩, h3⟩ := alloc_run ok he 400 h0
  unfold make
  simp only
  have h3' : (Alloc.run e 400 (Alloc.new size own) m).1.own = own := h3
  rw [h3'] at h1
  exact ⟨h1, h2⟩

end Go.Proofs.Ytkgbifagledcaaa.FL
