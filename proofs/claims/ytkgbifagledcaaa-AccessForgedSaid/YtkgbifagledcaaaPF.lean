/-
  Plain law: of objects that are made alone, each handle's word that lives is that of one that was told.
-/
import Derived.Test.YtkgbifagledcaaaPW
namespace Go.Proofs.Ytkgbifagledcaaa.FL
open Go Go.RowKit
set_option linter.unusedVariables false
set_option linter.unusedSimpArgs false

/-- What holds of an arena in which objects were made; those that were told stand in L. -/
structure Inv (c : Cfg) (m : Mem) (L : List (Int × Bool)) : Prop where
  len : (m.w.length : Int) = c.B + c.words * c.chunks
  top : -1 ≤ (topOf (m.at 1)).1 ∧ (topOf (m.at 1)).1 < c.slots
  link : ∀ j, 0 ≤ j → j < c.slots → -1 ≤ (topOf (m.at (c.S + 2 * j + 1))).1 ∧ (topOf (m.at (c.S + 2 * j + 1))).1 < c.slots
  opn : ∀ k, 0 ≤ k → k < 4 → 0 ≤ m.at (2 + k) ∧ m.at (2 + k) ≤ c.chunks
  free : ∀ i, 0 ≤ i → i < c.chunks → (chunkOf (m.at (c.K + 3 * i))).state = 0 → (chunkOf (m.at (c.K + 3 * i))).used = 0
  used : ∀ i, 0 ≤ i → i < c.chunks → (chunkOf (m.at (c.K + 3 * i))).used ≤ c.words
  live : ∀ j, 0 ≤ j → j < c.slots → (slotOf (m.at (c.S + 2 * j))).state ≠ 0 → ∃ i, 0 ≤ i ∧ i < c.chunks ∧ c.B + c.words * i ≤ (slotOf (m.at (c.S + 2 * j))).addr ∧ (slotOf (m.at (c.S + 2 * j))).addr < c.B + c.words * i + (chunkOf (m.at (c.K + 3 * i))).used
  made : ∀ j, 0 ≤ j → j < c.slots → (slotOf (m.at (c.S + 2 * j))).state ≠ 0 → (putHandle ⟨j, (slotOf (m.at (c.S + 2 * j))).gen⟩, (headOf (m.at (slotOf (m.at (c.S + 2 * j))).addr)).own) ∈ L

theorem Inv.same {c : Cfg} {m m' : Mem} {L : List (Int × Bool)} (h : Inv c m L) (e : m'.w = m.w) : Inv c m' L := by
  have ha : ∀ b, m'.at b = m.at b := fun b => by unfold Mem.at; rw [e]
  obtain ⟨h1, h2, h3, h4, h5, h6, h7, h8⟩ := h
  refine ⟨by rw [e]; exact h1, ?_, ?_, ?_, ?_, ?_, ?_, ?_⟩ <;> simp only [ha] <;> assumption
theorem Inv.more {c : Cfg} {m : Mem} {L L' : List (Int × Bool)} (h : Inv c m L) (s : ∀ x ∈ L, x ∈ L') : Inv c m L' :=
  ⟨h.len, h.top, h.link, h.opn, h.free, h.used, h.live, fun j a b d => s _ (h.made j a b d)⟩

theorem Inv.lay {c : Cfg} (ok : c.Ok) {m m' : Mem} {L L' : List (Int × Bool)} (h : Inv c m L) (hs : ∀ x ∈ L, x ∈ L') (a v : Int)
    (hl : m'.w.length = m.w.length) (ha : ∀ b, 0 ≤ b → m'.at b = if a = b then v else m.at b)
    (h1 : a = 1 → -1 ≤ (topOf v).1 ∧ (topOf v).1 < c.slots)
    (h2 : ∀ j, 0 ≤ j → j < c.slots → a = c.S + 2 * j + 1 → -1 ≤ (topOf v).1 ∧ (topOf v).1 < c.slots)
    (h3 : ∀ k, 0 ≤ k → k < 4 → a = 2 + k → 0 ≤ v ∧ v ≤ c.chunks)
    (h4 : ∀ i, 0 ≤ i → i < c.chunks → a = c.K + 3 * i → ((chunkOf v).state = 0 → (chunkOf v).used = 0) ∧ (chunkOf v).used ≤ c.words ∧ (chunkOf (m.at a)).used ≤ (chunkOf v).used)
    (h5 : ∀ j, 0 ≤ j → j < c.slots → a = c.S + 2 * j → (slotOf v).state ≠ 0 →
      (∃ i, 0 ≤ i ∧ i < c.chunks ∧ c.B + c.words * i ≤ (slotOf v).addr ∧ (slotOf v).addr < c.B + c.words * i + (chunkOf (m.at (c.K + 3 * i))).used) ∧ (putHandle ⟨j, (slotOf v).gen⟩, (headOf (m.at (slotOf v).addr)).own) ∈ L')
    (h6 : ∀ j, 0 ≤ j → j < c.slots → (slotOf (m.at (c.S + 2 * j))).state ≠ 0 → a = (slotOf (m.at (c.S + 2 * j))).addr → (headOf v).own = (headOf (m.at a)).own) : Inv c m' L' := by
  have t1 := ok.t1; have s1 := ok.s1; have k1 := ok.k1; have w1 := ok.w1
  have eS : c.S = 6 + c.threads := rfl
  have eK : c.K = c.S + 2 * c.slots := rfl
  have eB : c.B = c.K + 3 * c.chunks := rfl
  have hu : ∀ i, 0 ≤ i → i < c.chunks → (chunkOf (m.at (c.K + 3 * i))).used ≤ (chunkOf (m'.at (c.K + 3 * i))).used := by
    intro i hi hi'
    rw [ha _ (by omega)]
    split
    · rename_i e; have := (h4 i hi hi' e).2.2; rw [e] at this; exact this
    · exact Int.le_refl _
  refine ⟨by rw [hl]; exact h.len, ?_, ?_, ?_, ?_, ?_, ?_, ?_⟩
  · rw [ha _ (by omega)]; split
    · rename_i e; exact h1 e
    · exact h.top
  · intro j hj hj'
    rw [ha _ (by omega)]; split
    · rename_i e; exact h2 j hj hj' e
    · exact h.link j hj hj'
  · intro k hk hk'
    rw [ha _ (by omega)]; split
    · rename_i e; exact h3 k hk hk' e
    · exact h.opn k hk hk'
  · intro i hi hi'
    rw [ha _ (by omega)]; split
    · rename_i e; exact (h4 i hi hi' e).1
    · exact h.free i hi hi'
  · intro i hi hi'
    rw [ha _ (by omega)]; split
    · rename_i e; exact (h4 i hi hi' e).2.1
    · exact h.used i hi hi'
  · intro j hj hj'
    rw [ha (c.S + 2 * j) (by omega)]; split
    · rename_i e
      intro hs'
      obtain ⟨i, i1, i2, i3, i4⟩ := (h5 j hj hj' e hs').1
      have := hu i i1 i2
      exact ⟨i, i1, i2, i3, by omega⟩
    · intro hs'
      obtain ⟨i, i1, i2, i3, i4⟩ := h.live j hj hj' hs'
      have := hu i i1 i2
      exact ⟨i, i1, i2, i3, by omega⟩
  · intro j hj hj'
    rw [ha (c.S + 2 * j) (by omega)]; split
    · rename_i e
      intro hs'
      obtain ⟨⟨i, i1, i2, i3, i4⟩, hm⟩ := h5 j hj hj' e hs'
      have hw := c.mul_le ok i1 (by omega)
      rw [ha _ (by omega), if_neg (by omega)]
      exact hm
    · intro hs'
      have hm := h.made j hj hj' hs'
      obtain ⟨i, i1, i2, i3, i4⟩ := h.live j hj hj' hs'
      have hw := c.mul_le ok i1 (by omega)
      rw [ha (slotOf (m.at (c.S + 2 * j))).addr (by omega)]
      split
      · rename_i e
        rw [h6 j hj hj' hs' e, e]; exact hs _ hm
      · exact hs _ hm

theorem classOf_range (n : Int) : -1 ≤ classOf n ∧ classOf n ≤ 3 := by unfold classOf; split <;> (try split) <;> (try split) <;> (try split) <;> (try split) <;> omega
theorem room_val {k : Int} (h : 0 ≤ k) (h' : k ≤ 3) : 3 ≤ room k ∧ room k ≤ 17 := by
  have : k = 0 ∨ k = 1 ∨ k = 2 ∨ k = 3 := by omega
  rcases this with rfl | rfl | rfl | rfl <;> decide

/-- What holds of somebody who wants words, alone. -/
structure PInv (c : Cfg) (p : Place) : Prop where
  cls : 0 ≤ p.cls ∧ p.cls ≤ 3
  at_ : p.pc ≠ 0 → 0 ≤ p.at_ ∧ p.at_ < c.chunks
  get : p.pc = 2 → (chunkOf p.w).state = 1 ∧ (chunkOf p.w).used + room p.cls ≤ c.words
  scan : p.pc = 4 → (chunkOf p.w).state = 0
  ok : p.ok = false
/-- The words at an address are given out, and nobody's object is there. -/
def SpotOk (c : Cfg) (m : Mem) (s : Spot) : Prop :=
  ∃ i, 0 ≤ i ∧ i < c.chunks ∧ s.chunk = i ∧ c.B + c.words * i ≤ s.addr ∧ s.addr < c.B + c.words * i + (chunkOf (m.at (c.K + 3 * i))).used
def SpotFree (c : Cfg) (m : Mem) (s : Spot) : Prop :=
  ∀ j, 0 ≤ j → j < c.slots → (slotOf (m.at (c.S + 2 * j))).state ≠ 0 → (slotOf (m.at (c.S + 2 * j))).addr ≠ s.addr

theorem Cfg.spread (c : Cfg) (ok : c.Ok) : c.S = 6 + c.threads ∧ c.K = c.S + 2 * c.slots ∧ c.B = c.K + 3 * c.chunks ∧ 1 ≤ c.threads ∧ c.threads ≤ 8 ∧ 1 ≤ c.slots ∧ c.slots ≤ 1000 ∧ 1 ≤ c.chunks ∧ c.chunks ≤ 64 ∧ 17 ≤ c.words ∧ c.words ≤ 256 :=
  ⟨rfl, rfl, rfl, ok.t1, ok.t2, ok.s1, ok.s2, ok.k1, ok.k2, ok.w1, ok.w2⟩

theorem Inv.lay' {c : Cfg} (ok : c.Ok) {m : Mem} {L L' : List (Int × Bool)} (h : Inv c m L) (hs : ∀ x ∈ L, x ∈ L') (who a v : Int) (ha0 : 0 ≤ a) (ha1 : a < m.w.length)
    (h1 : a = 1 → -1 ≤ (topOf v).1 ∧ (topOf v).1 < c.slots)
    (h2 : ∀ j, 0 ≤ j → j < c.slots → a = c.S + 2 * j + 1 → -1 ≤ (topOf v).1 ∧ (topOf v).1 < c.slots)
    (h3 : ∀ k, 0 ≤ k → k < 4 → a = 2 + k → 0 ≤ v ∧ v ≤ c.chunks)
    (h4 : ∀ i, 0 ≤ i → i < c.chunks → a = c.K + 3 * i → ((chunkOf v).state = 0 → (chunkOf v).used = 0) ∧ (chunkOf v).used ≤ c.words ∧ (chunkOf (m.at a)).used ≤ (chunkOf v).used)
    (h5 : ∀ j, 0 ≤ j → j < c.slots → a = c.S + 2 * j → (slotOf v).state ≠ 0 →
      (∃ i, 0 ≤ i ∧ i < c.chunks ∧ c.B + c.words * i ≤ (slotOf v).addr ∧ (slotOf v).addr < c.B + c.words * i + (chunkOf (m.at (c.K + 3 * i))).used) ∧ (putHandle ⟨j, (slotOf v).gen⟩, (headOf (m.at (slotOf v).addr)).own) ∈ L')
    (h6 : ∀ j, 0 ≤ j → j < c.slots → (slotOf (m.at (c.S + 2 * j))).state ≠ 0 → a = (slotOf (m.at (c.S + 2 * j))).addr → (headOf v).own = (headOf (m.at a)).own) : Inv c (m.lay who a v) L' :=
  h.lay ok hs a v (m.len_lay' who a v) (fun b hb => m.at_lay who a v b ha0 ha1 hb) h1 h2 h3 h4 h5 h6

/-- A live object stands behind all places' words. -/
theorem Inv.addr {c : Cfg} (ok : c.Ok) {m : Mem} {L : List (Int × Bool)} (h : Inv c m L) {j : Int} (hj : 0 ≤ j) (hj' : j < c.slots) (hs : (slotOf (m.at (c.S + 2 * j))).state ≠ 0) :
    c.B ≤ (slotOf (m.at (c.S + 2 * j))).addr ∧ (slotOf (m.at (c.S + 2 * j))).addr < m.w.length := by
  obtain ⟨i, i1, i2, i3, i4⟩ := h.live j hj hj' hs
  have hw := c.mul_le ok i1 (by omega)
  have hu := h.used i i1 i2
  have hl := h.len
  have hn := Int.mul_le_mul_of_nonneg_left (show i + 1 ≤ c.chunks by omega) (show 0 ≤ c.words by have := ok.w1; omega)
  rw [Int.mul_add] at hn
  omega

theorem place_step {c : Cfg} (ok : c.Ok) {e : Env} (he : e.c = c) {m : Mem} {L : List (Int × Bool)} (h : Inv c m L) {p : Place} (hp : PInv c p) :
    Inv c (p.step e m).2.1 L ∧ ((p.step e m).2.2 = false → PInv c (p.step e m).1) ∧
    ((p.step e m).2.2 = true → ((p.step e m).1.ok = true → SpotOk c (p.step e m).2.1 (p.step e m).1.spot ∧ SpotFree c (p.step e m).2.1 (p.step e m).1.spot)) := by
  obtain ⟨cls, pc, opn, at_, w, spot, pok⟩ := p
  obtain ⟨⟨c1, c2⟩, hat, hget, hscan, hok⟩ := hp
  simp only at c1 c2 hat hget hscan hok
  subst hok
  obtain ⟨eS, eK, eB, t1, t2, s1, s2, k1, k2, w1, w2⟩ := c.spread ok
  have hl := h.len
  have hz := c.mul_le ok (Int.le_refl 0) (by omega)
  have hz2 := (c.mul_le ok (show 0 ≤ c.chunks by omega) (Int.le_refl _)).1
  have hr := room_val c1 c2
  subst he
  by_cases p0 : pc = 0
  · subst p0
    have ho := h.opn cls c1 (by omega)
    have e1 : openA cls = 2 + cls := openA_eq (by omega) (by omega)
    have e2 : wrap64 (wrap64 (m.at (2 + cls)) - 1) = m.at (2 + cls) - 1 := by rw [wrap64_in (m.at (2 + cls)) (by omega) (by omega), wrap64_in _ (by omega) (by omega)]
    simp only [Place.step, if_pos, e1, m.load_in e.who (2 + cls) (by omega) (by omega), e2]
    split
    · exact ⟨h.same rfl, fun _ => ⟨⟨c1, c2⟩, fun _ => ⟨by simp only; omega, by simp only; omega⟩, by simp, by simp, rfl⟩, by simp⟩
    · exact ⟨h.same rfl, fun _ => ⟨⟨c1, c2⟩, fun _ => ⟨by simp only; omega, by simp only; omega⟩, by simp, by simp, rfl⟩, by simp⟩
  obtain ⟨a1, a2⟩ := hat p0
  have ek : e.c.chunkA at_ = e.c.K + 3 * at_ := e.c.chunkA_eq ok (by omega) (by omega)
  have hin : 0 ≤ e.c.K + 3 * at_ ∧ e.c.K + 3 * at_ < m.w.length := by omega
  have hcr := chunkOf_range w
  by_cases p1 : pc = 1
  · subst p1
    simp only [Place.step, if_neg p0, if_pos, ek, m.load_in e.who _ hin.1 hin.2]
    split
    · exact ⟨h.same rfl, fun _ => ⟨⟨c1, c2⟩, fun _ => ⟨by simp only; omega, by simp only; omega⟩, by simp, by simp, rfl⟩, by simp⟩
    · rename_i hn
      have hcr := chunkOf_range (m.at (e.c.K + 3 * at_))
      have hu := h.used at_ a1 a2
      rw [wrap64_in _ (by omega) (by omega)] at hn
      exact ⟨h.same rfl, fun _ => ⟨⟨c1, c2⟩, fun _ => ⟨by simp only; omega, by simp only; omega⟩, fun _ => ⟨by simp only; omega, by simp only; omega⟩, by simp, rfl⟩, by simp⟩
  by_cases p2 : pc = 2
  · subst p2
    obtain ⟨g1, g2⟩ := hget rfl
    have eu : wrap64 ((chunkOf w).used + room cls) = (chunkOf w).used + room cls := wrap64_in _ (by omega) (by omega)
    have eb : wrap64 (e.c.baseA at_ + (chunkOf w).used) = e.c.B + e.c.words * at_ + (chunkOf w).used := by
      have := e.c.mul_le ok a1 (by omega)
      rw [e.c.baseA_eq ok a1 (by omega), wrap64_in _ (by omega) (by omega)]
    simp only [Place.step, if_neg p0, if_neg p1, if_pos, Place.get, ek, m.cas_in e.who _ _ _ hin.1 hin.2, eu, eb]
    by_cases hc : m.at (e.c.K + 3 * at_) = w
    · rw [if_pos hc]
      simp only [if_true]
      have ev : chunkOf (putChunk ⟨(chunkOf w).state, (chunkOf w).cls, (chunkOf w).used + room cls, (chunkOf w).stamp⟩) = ⟨(chunkOf w).state, (chunkOf w).cls, (chunkOf w).used + room cls, (chunkOf w).stamp⟩ :=
        chunkOf_put _ ⟨by simp only; omega, by simp only; omega⟩ ⟨by simp only; omega, by simp only; omega⟩ ⟨by simp only; omega, by simp only; omega⟩ ⟨by simp only; omega, by simp only; omega⟩
      refine ⟨?_, by simp, fun _ _ => ⟨?_, ?_⟩⟩
      · refine h.lay' ok (fun x hx => hx) _ _ _ hin.1 hin.2 (by omega) (fun j _ _ _ => by omega) (fun k _ _ _ => by omega) ?_ (fun j _ _ _ => by omega) ?_
        · intro i _ _ hi
          rw [ev, hc]; simp only
          omega
        · intro j hj hj' hs ha
          have := h.addr ok hj hj' hs
          omega
      · refine ⟨at_, a1, a2, rfl, ?_, ?_⟩
        · simp only; omega
        · rw [m.at_lay _ _ _ _ hin.1 hin.2 hin.1, if_pos rfl, ev]; simp only; omega
      · intro j hj hj'
        rw [m.at_lay _ _ _ _ hin.1 hin.2 (by omega), if_neg (by omega)]
        intro hs ha
        simp only at ha
        obtain ⟨i, i1, i2, i3, i4⟩ := h.live j hj hj' hs
        have hu := h.used i i1 i2
        have : i = at_ := e.c.chunk_unique ok (a := (slotOf (m.at (e.c.S + 2 * j))).addr - e.c.B) (by omega) (by omega) (by omega) (by omega)
        subst this
        rw [hc] at i4
        omega
    · rw [if_neg hc]
      simp only [Bool.false_eq_true, if_false]
      exact ⟨h.same rfl, fun _ => ⟨⟨c1, c2⟩, by simp, by simp, by simp, rfl⟩, by simp⟩
  have hon : ∀ (w' : Int) (m' : Mem), Inv e.c m' L → Inv e.c m' L ∧ (decide (e.c.chunks ≤ inc at_) = false → PInv e.c ⟨cls, 3, opn, inc at_, w', spot, false⟩) ∧
      (decide (e.c.chunks ≤ inc at_) = true → ((⟨cls, 3, opn, inc at_, w', spot, false⟩ : Place).ok = true → SpotOk e.c m' spot ∧ SpotFree e.c m' spot)) := by
    intro w' m' hm'
    have ei : inc at_ = at_ + 1 := inc_in (by omega) (by omega)
    refine ⟨hm', fun hd => ⟨⟨c1, c2⟩, fun _ => ?_, by simp, by simp, rfl⟩, by simp⟩
    simp only [decide_eq_false_iff_not] at hd
    simp only; omega
  by_cases p3 : pc = 3
  · subst p3
    simp only [Place.step, if_neg p0, if_neg p1, if_neg p2, if_pos, ek, m.load_in e.who _ hin.1 hin.2, Place.on]
    split
    · exact hon _ _ (h.same rfl)
    · rename_i hn
      have hn' : (chunkOf (m.at (e.c.K + 3 * at_))).state = 0 := by omega
      exact ⟨h.same rfl, fun _ => ⟨⟨c1, c2⟩, fun _ => ⟨a1, a2⟩, by simp, fun _ => hn', rfl⟩, by simp⟩
  have efr : ∀ w', (chunkOf (putChunk ⟨1, cls, 0, w'⟩)).state = 1 ∧ (chunkOf (putChunk ⟨1, cls, 0, w'⟩)).used = 0 := by
    intro w'
    rw [chunkOf_fit]
    exact ⟨by simp only; decide, by simp only; decide⟩
  by_cases p4 : pc = 4
  · subst p4
    have hsc := hscan rfl
    simp only [Place.step, if_neg p0, if_neg p1, if_neg p2, if_neg p3, if_pos, ek, m.cas_in e.who _ _ _ hin.1 hin.2, Place.on, Place.fresh]
    by_cases hc : m.at (e.c.K + 3 * at_) = w
    · rw [if_pos hc]
      simp only [if_true]
      refine ⟨?_, fun _ => ⟨⟨c1, c2⟩, fun _ => ⟨a1, a2⟩, by simp, by simp, rfl⟩, by simp⟩
      refine h.lay' ok (fun x hx => hx) _ _ _ hin.1 hin.2 (by omega) (fun j _ _ _ => by omega) (fun k _ _ _ => by omega) ?_ (fun j _ _ _ => by omega) ?_
      · intro i i1 i2 hi
        have hf := h.free at_ a1 a2 (by rw [hc]; exact hsc)
        have e1 := efr (inc (chunkOf w).stamp)
        rw [hf]; omega
      · intro j hj hj' hs ha
        have := h.addr ok hj hj' hs
        omega
    · rw [if_neg hc]
      simp only [Bool.false_eq_true, if_false]
      exact ⟨h.same rfl, (hon w (m.tick e.who (e.c.K + 3 * at_)) (h.same rfl)).2.1, by simp⟩
  by_cases p5 : pc = 5
  · subst p5
    have e1 : openA cls = 2 + cls := openA_eq (by omega) (by omega)
    have ei : inc at_ % 18446744073709551616 = at_ + 1 := by rw [inc_in (by omega) (by omega)]; omega
    simp only [Place.step, if_neg p0, if_neg p1, if_neg p2, if_neg p3, if_neg p4, if_pos, e1, ei, m.cas_in e.who (2 + cls) _ _ (by omega) (by omega)]
    by_cases hc : m.at (2 + cls) = opn
    · rw [if_pos hc]
      simp only [if_true]
      refine ⟨?_, fun _ => ⟨⟨c1, c2⟩, by simp, by simp, by simp, rfl⟩, by simp⟩
      refine h.lay' ok (fun x hx => hx) _ _ _ (by omega) (by omega) (by omega) (fun j _ _ _ => by omega) (fun k _ _ _ => by omega) (fun i _ _ _ => by omega) (fun j _ _ _ => by omega) ?_
      intro j hj hj' hs ha
      have := h.addr ok hj hj' hs
      omega
    · rw [if_neg hc]
      simp only [Bool.false_eq_true, if_false]
      exact ⟨h.same rfl, fun _ => ⟨⟨c1, c2⟩, fun _ => ⟨a1, a2⟩, by simp, by simp, rfl⟩, by simp⟩
  simp only [Place.step, if_neg p0, if_neg p1, if_neg p2, if_neg p3, if_neg p4, if_neg p5, ek, m.cas_in e.who _ _ _ hin.1 hin.2, Place.fresh]
  by_cases hc : m.at (e.c.K + 3 * at_) = putChunk ⟨1, cls, 0, inc (chunkOf w).stamp⟩
  · rw [if_pos hc]
    refine ⟨?_, fun _ => ⟨⟨c1, c2⟩, by simp, by simp, by simp, rfl⟩, by simp⟩
    refine h.lay' ok (fun x hx => hx) _ _ _ hin.1 hin.2 (by omega) (fun j _ _ _ => by omega) (fun k _ _ _ => by omega) ?_ (fun j _ _ _ => by omega) ?_
    · intro i i1 i2 hi
      have e1 := efr (inc (chunkOf w).stamp)
      rw [hc, chunkOf_fit ⟨0, 0, 0, _⟩]
      simp only [e1]
      refine ⟨fun _ => by decide, ?_, by decide⟩
      have : fit 0 1048575 = 0 := by decide
      omega
    · intro j hj hj' hs ha
      have := h.addr ok hj hj' hs
      omega
  · rw [if_neg hc]
    exact ⟨h.same rfl, fun _ => ⟨⟨c1, c2⟩, by simp, by simp, by simp, rfl⟩, by simp⟩

end Go.Proofs.Ytkgbifagledcaaa.FL
