/-
  Plain laws: what is packed is read again; where things stand; what a step does to the words.
-/
import Derived.Test.YtkgbifagledcaaaM2
namespace Go.Proofs.Ytkgbifagledcaaa.FL
open Go Go.RowKit
set_option linter.unusedVariables false
set_option linter.unusedSimpArgs false

theorem fitIn (n most : Int) (h : 0 ≤ n) (h' : n ≤ most) : fit n most = n := by unfold fit; rw [if_neg (by omega), if_neg (by omega)]
theorem wrap64_in (n : Int) (h : -9223372036854775808 ≤ n) (h' : n ≤ 9223372036854775807) : wrap64 n = n := by
  unfold wrap64; omega

/-! ### packed and read again -/
theorem fitB (n most : Int) (h : 0 ≤ most) : 0 ≤ fit n most ∧ fit n most ≤ most := by unfold fit; split <;> (try split) <;> omega
theorem slotOf_fit (s : SlotW) : slotOf (putSlot s) = ⟨fit s.state 7, fit s.addr 1048575, fit s.gen 65535, fit s.ver 4194303⟩ := by
  obtain ⟨a, b, c, d⟩ := s
  have h1 := fitB a 7 (by omega); have h2 := fitB b 1048575 (by omega); have h3 := fitB c 65535 (by omega); have h4 := fitB d 4194303 (by omega)
  unfold slotOf putSlot
  simp only
  generalize fit a 7 = a' at *
  generalize fit b 1048575 = b' at *
  generalize fit c 65535 = c' at *
  generalize fit d 4194303 = d' at *
  simp only [SlotW.mk.injEq]
  refine ⟨?_, ?_, ?_, ?_⟩ <;> omega
theorem slotOf_put (s : SlotW) (h1 : 0 ≤ s.state ∧ s.state ≤ 7) (h2 : 0 ≤ s.addr ∧ s.addr ≤ 1048575) (h3 : 0 ≤ s.gen ∧ s.gen ≤ 65535) (h4 : 0 ≤ s.ver ∧ s.ver ≤ 4194303) : slotOf (putSlot s) = s := by
  rw [slotOf_fit, fitIn _ 7 h1.1 h1.2, fitIn _ 1048575 h2.1 h2.2, fitIn _ 65535 h3.1 h3.2, fitIn _ 4194303 h4.1 h4.2]
theorem chunkOf_fit (s : ChunkW) : chunkOf (putChunk s) = ⟨fit s.state 3, fit s.cls 63, fit s.used 1048575, fit s.stamp 68719476735⟩ := by
  obtain ⟨a, b, c, d⟩ := s
  have h1 := fitB a 3 (by omega); have h2 := fitB b 63 (by omega); have h3 := fitB c 1048575 (by omega); have h4 := fitB d 68719476735 (by omega)
  unfold chunkOf putChunk
  simp only
  generalize fit a 3 = a' at *
  generalize fit b 63 = b' at *
  generalize fit c 1048575 = c' at *
  generalize fit d 68719476735 = d' at *
  simp only [ChunkW.mk.injEq]
  refine ⟨?_, ?_, ?_, ?_⟩ <;> omega
theorem chunkOf_put (s : ChunkW) (h1 : 0 ≤ s.state ∧ s.state ≤ 3) (h2 : 0 ≤ s.cls ∧ s.cls ≤ 63) (h3 : 0 ≤ s.used ∧ s.used ≤ 1048575) (h4 : 0 ≤ s.stamp ∧ s.stamp ≤ 68719476735) : chunkOf (putChunk s) = s := by
  rw [chunkOf_fit, fitIn _ 3 h1.1 h1.2, fitIn _ 63 h2.1 h2.2, fitIn _ 1048575 h3.1 h3.2, fitIn _ 68719476735 h4.1 h4.2]
theorem headOf_fit (s : HeadW) : headOf (putHead s) = ⟨fit s.kind 3, fit s.size 65535, fit s.slot 65535, fit s.gen 65535, s.own⟩ := by
  obtain ⟨a, b, c, d, o⟩ := s
  have h1 := fitB a 3 (by omega); have h2 := fitB b 65535 (by omega); have h3 := fitB c 65535 (by omega); have h4 := fitB d 65535 (by omega)
  unfold headOf putHead
  simp only
  generalize fit a 3 = a' at *
  generalize fit b 65535 = b' at *
  generalize fit c 65535 = c' at *
  generalize fit d 65535 = d' at *
  simp only [HeadW.mk.injEq]
  cases o
  · simp only [Bool.false_eq_true, if_false, decide_eq_false_iff_not]
    refine ⟨?_, ?_, ?_, ?_, ?_⟩ <;> omega
  · simp only [if_true, decide_eq_true_eq]
    refine ⟨?_, ?_, ?_, ?_, ?_⟩ <;> omega
theorem headOf_put (s : HeadW) (h1 : 0 ≤ s.kind ∧ s.kind ≤ 3) (h2 : 0 ≤ s.size ∧ s.size ≤ 65535) (h3 : 0 ≤ s.slot ∧ s.slot ≤ 65535) (h4 : 0 ≤ s.gen ∧ s.gen ≤ 65535) : headOf (putHead s) = s := by
  rw [headOf_fit, fitIn _ 3 h1.1 h1.2, fitIn _ 65535 h2.1 h2.2, fitIn _ 65535 h3.1 h3.2, fitIn _ 65535 h4.1 h4.2]
theorem slotOf_range (w : Int) : (0 ≤ (slotOf w).state ∧ (slotOf w).state ≤ 7) ∧ (0 ≤ (slotOf w).addr ∧ (slotOf w).addr ≤ 1048575) ∧ (0 ≤ (slotOf w).gen ∧ (slotOf w).gen ≤ 65535) ∧ (0 ≤ (slotOf w).ver ∧ (slotOf w).ver ≤ 4194303) := by
  unfold slotOf; simp only; omega
theorem chunkOf_range (w : Int) : (0 ≤ (chunkOf w).state ∧ (chunkOf w).state ≤ 3) ∧ (0 ≤ (chunkOf w).cls ∧ (chunkOf w).cls ≤ 63) ∧ (0 ≤ (chunkOf w).used ∧ (chunkOf w).used ≤ 1048575) ∧ (0 ≤ (chunkOf w).stamp ∧ (chunkOf w).stamp ≤ 68719476735) := by
  unfold chunkOf; simp only; omega
theorem cellOf_put (v : Int) (h : 0 ≤ v ∧ v ≤ 1099511627775) : cellOf (putCell ⟨v, false, 0⟩) = ⟨v, false, 0⟩ := by
  unfold cellOf putCell
  simp only [fitIn v 1099511627775 h.1 h.2, Bool.false_eq_true, if_false, Int.add_zero]
  rw [if_neg (by omega)]
  simp only [CellW.mk.injEq, and_true, true_and]; omega
theorem cellOf_putFrozen (v ver : Int) (h : 0 ≤ v ∧ v ≤ 1099511627775) (h2 : 0 ≤ ver ∧ ver ≤ 4194303) : cellOf (putCell ⟨v, true, ver⟩) = ⟨v, true, ver⟩ := by
  unfold cellOf putCell
  simp only [fitIn v 1099511627775 h.1 h.2, fitIn ver 4194303 h2.1 h2.2, if_true]
  rw [if_pos (by omega)]
  simp only [CellW.mk.injEq, true_and]; omega
theorem topOf_put (s n : Int) (h : -1 ≤ s ∧ s ≤ 65535) (h2 : 0 ≤ n ∧ n ≤ 68719476735) : topOf (putTop s n) = (s, n) := by
  unfold topOf putTop
  have e : wrap64 ((if 65535 < s then 65535 else s) + 1) = s + 1 := by rw [if_neg (by omega)]; exact wrap64_in _ (by omega) (by omega)
  rw [e, fitIn _ 65536 (by omega) (by omega), fitIn n _ h2.1 h2.2, Prod.mk.injEq]
  constructor <;> omega
theorem topOf_put1 (s n : Int) (h : -1 ≤ s ∧ s ≤ 65535) : (topOf (putTop s n)).1 = s := by
  unfold topOf putTop
  have e : wrap64 ((if 65535 < s then 65535 else s) + 1) = s + 1 := by rw [if_neg (by omega)]; exact wrap64_in _ (by omega) (by omega)
  rw [e, fitIn _ 65536 (by omega) (by omega)]
  generalize fit n 68719476735 = y
  simp only; omega
theorem putHandle_of {n : Int} {h : HandleW} (hn : 0 ≤ n) (e : handleOf n = (h, true)) : putHandle h = n := by
  unfold handleOf at e
  split at e
  · rename_i hc
    simp only [Prod.mk.injEq, and_true] at e
    subst e
    unfold putHandle
    simp only
    rw [fitIn _ 65535 (by omega) (by omega), fitIn _ 65535 (by omega) (by omega)]
    omega
  · simp at e

/-! ### where things stand -/
structure Cfg.Ok (c : Cfg) : Prop where
  t1 : 1 ≤ c.threads
  t2 : c.threads ≤ 8
  s1 : 1 ≤ c.slots
  s2 : c.slots ≤ 1000
  k1 : 1 ≤ c.chunks
  k2 : c.chunks ≤ 64
  w1 : 17 ≤ c.words
  w2 : c.words ≤ 256
def Cfg.S (c : Cfg) : Int := 6 + c.threads
def Cfg.K (c : Cfg) : Int := 6 + c.threads + 2 * c.slots
def Cfg.B (c : Cfg) : Int := 6 + c.threads + 2 * c.slots + 3 * c.chunks
theorem Cfg.mul_le (c : Cfg) (ok : c.Ok) {i : Int} (h : 0 ≤ i) (h' : i ≤ c.chunks) : 0 ≤ c.words * i ∧ c.words * i ≤ c.words * c.chunks ∧ c.words * c.chunks ≤ 16384 := by
  have h1 := ok.w1; have h2 := ok.w2; have h3 := ok.k2
  refine ⟨Int.mul_nonneg (by omega) h, Int.mul_le_mul_of_nonneg_left h' (by omega), ?_⟩
  have := Int.mul_le_mul h2 h3 (by omega) (by omega)
  omega
theorem Cfg.slotA_eq (c : Cfg) (ok : c.Ok) {i : Int} (h : -1 ≤ i) (h' : i ≤ c.slots) : c.slotA i = c.S + 2 * i := by
  have := ok.t1; have := ok.t2; have := ok.s2
  unfold Cfg.slotA Cfg.S
  rw [wrap64_in (6 + c.threads) (by omega) (by omega), wrap64_in (2 * i) (by omega) (by omega), wrap64_in _ (by omega) (by omega)]
theorem Cfg.chunkA_eq (c : Cfg) (ok : c.Ok) {i : Int} (h : -1 ≤ i) (h' : i ≤ c.chunks) : c.chunkA i = c.K + 3 * i := by
  have := ok.t1; have := ok.t2; have := ok.s1; have := ok.s2; have := ok.k2
  unfold Cfg.chunkA Cfg.K
  rw [wrap64_in (6 + c.threads) (by omega) (by omega), wrap64_in (2 * c.slots) (by omega) (by omega), wrap64_in (3 * i) (by omega) (by omega), wrap64_in (6 + c.threads + 2 * c.slots) (by omega) (by omega), wrap64_in _ (by omega) (by omega)]
theorem Cfg.baseA_eq (c : Cfg) (ok : c.Ok) {i : Int} (h : 0 ≤ i) (h' : i ≤ c.chunks) : c.baseA i = c.B + c.words * i := by
  have := ok.t1; have := ok.t2; have := ok.s1; have := ok.s2; have := ok.k1; have := ok.k2
  have hm := c.mul_le ok h h'
  unfold Cfg.baseA Cfg.B
  generalize c.words * i = y at *
  generalize c.words * c.chunks = z at *
  rw [wrap64_in (6 + c.threads) (by omega) (by omega), wrap64_in (2 * c.slots) (by omega) (by omega), wrap64_in (3 * c.chunks) (by omega) (by omega), wrap64_in y (by omega) (by omega), wrap64_in (6 + c.threads + 2 * c.slots) (by omega) (by omega), wrap64_in (6 + c.threads + 2 * c.slots + 3 * c.chunks) (by omega) (by omega), wrap64_in _ (by omega) (by omega)]
theorem Cfg.len_eq (c : Cfg) (ok : c.Ok) : c.len = c.B + c.words * c.chunks := c.baseA_eq ok (by have := ok.k1; omega) (Int.le_refl _)
theorem inc_in {a : Int} (h : -1 ≤ a) (h' : a ≤ 1000000) : inc a = a + 1 := wrap64_in _ (by omega) (by omega)
theorem openA_eq {k : Int} (h : -1 ≤ k) (h' : k ≤ 100) : openA k = 2 + k := wrap64_in _ (by omega) (by omega)
theorem pinA_eq {k : Int} (h : -1 ≤ k) (h' : k ≤ 100) : pinA k = 6 + k := wrap64_in _ (by omega) (by omega)
/-- What lies in a chunk is told by its chunk. -/
theorem Cfg.chunk_unique (c : Cfg) (ok : c.Ok) {i j a : Int} (h1 : c.words * i ≤ a) (h2 : a < c.words * i + c.words) (h3 : c.words * j ≤ a) (h4 : a < c.words * j + c.words) : i = j := by
  have hw := ok.w1
  rcases Int.lt_trichotomy i j with h | h | h
  · have := Int.mul_le_mul_of_nonneg_left (show i + 1 ≤ j by omega) (show 0 ≤ c.words by omega)
    rw [Int.mul_add] at this; omega
  · exact h
  · have := Int.mul_le_mul_of_nonneg_left (show j + 1 ≤ i by omega) (show 0 ≤ c.words by omega)
    rw [Int.mul_add] at this; omega

/-! ### what a step does to the words -/
theorem Mem.has_iff (m : Mem) (a : Int) : m.has a = true ↔ 0 ≤ a ∧ a < m.w.length := by simp [Mem.has]
theorem Mem.at_lay (m : Mem) (who a v b : Int) (ha : 0 ≤ a) (ha' : a < m.w.length) (hb : 0 ≤ b) : (m.lay who a v).at b = if a = b then v else m.at b := by
  unfold Mem.at Mem.lay
  simp only [List.getD_eq_getElem?_getD, List.getElem?_set]
  by_cases h : a = b
  · subst h; rw [if_pos rfl, if_pos rfl, if_pos (by omega)]; rfl
  · rw [if_neg (show ¬ a.toNat = b.toNat by omega), if_neg h]
theorem Mem.at_tick (m : Mem) (who a b : Int) : (m.tick who a).at b = m.at b := rfl
theorem Mem.at_by (m : Mem) (who b : Int) : (m.by who).at b = m.at b := rfl
theorem Mem.at_load (m : Mem) (who a b : Int) : (m.load who a).2.at b = m.at b := by unfold Mem.load; split <;> rfl
theorem Mem.w_load (m : Mem) (who a : Int) : (m.load who a).2.w = m.w := by unfold Mem.load; split <;> rfl
theorem Mem.load_in (m : Mem) (who a : Int) (h : 0 ≤ a) (h' : a < m.w.length) : m.load who a = (m.at a, m.tick who a) := by
  unfold Mem.load; rw [if_pos ((m.has_iff a).2 ⟨h, h'⟩)]
theorem Mem.load_val (m : Mem) (who a : Int) (h : 0 ≤ a) (h' : a < m.w.length) : (m.load who a).1 = m.at a := by rw [m.load_in who a h h']
theorem Mem.at_store (m : Mem) (who a v b : Int) (ha : 0 ≤ a) (ha' : a < m.w.length) (hb : 0 ≤ b) : (m.store who a v).at b = if a = b then v else m.at b := by
  unfold Mem.store; rw [if_pos ((m.has_iff a).2 ⟨ha, ha'⟩)]; exact m.at_lay who a v b ha ha' hb
theorem Mem.at_add (m : Mem) (who a d b : Int) (ha : 0 ≤ a) (ha' : a < m.w.length) (hb : 0 ≤ b) : (m.add who a d).at b = if a = b then (m.at a + d % 18446744073709551616) % 18446744073709551616 else m.at b := by
  unfold Mem.add; rw [if_pos ((m.has_iff a).2 ⟨ha, ha'⟩)]; exact m.at_lay who a _ b ha ha' hb
theorem Mem.cas_in (m : Mem) (who a o v : Int) (h : 0 ≤ a) (h' : a < m.w.length) : m.cas who a o v = if m.at a = o then (true, m.lay who a v) else (false, m.tick who a) := by
  unfold Mem.cas; rw [if_pos ((m.has_iff a).2 ⟨h, h'⟩)]
theorem Mem.len_lay' (m : Mem) (who a v : Int) : (m.lay who a v).w.length = m.w.length := by simp [Mem.lay]
theorem Mem.len_store (m : Mem) (who a v : Int) : (m.store who a v).w.length = m.w.length := by unfold Mem.store; split <;> simp [Mem.lay, Mem.by]
theorem Mem.len_add (m : Mem) (who a v : Int) : (m.add who a v).w.length = m.w.length := by unfold Mem.add; split <;> simp [Mem.lay, Mem.by]
theorem Mem.len_cas (m : Mem) (who a o v : Int) : (m.cas who a o v).2.w.length = m.w.length := by unfold Mem.cas; split <;> (try split) <;> simp [Mem.lay, Mem.by, Mem.tick]
theorem Mem.len_load (m : Mem) (who a : Int) : (m.load who a).2.w.length = m.w.length := by rw [m.w_load]

end Go.Proofs.Ytkgbifagledcaaa.FL
