/-
  Plain laws of acts: what is Own.
-/
import Derived.Test.YtkgbifagledcaaaPW
import Derived.KernelRfl
namespace Go.Proofs.Ytkgbifagledcaaa.FL
open Go Go.RowKit
set_option linter.unusedVariables false
set_option linter.unusedSimpArgs false

/-- An act that may be, done alone. -/
def doActR (e : Env) (m : Mem) (x : ActX) : Done × Mem := let r := Act.run e 500 (Act.new x) m; (r.1.out, r.2)
theorem doAct_R (e : Env) (m : Mem) (x : ActX) (h : x.check = true) : doAct e m x = doActR e m x := by unfold doAct doActR; rw [if_pos h]
def ownE : Env := arenaEnv 1 4 4 40
def ownA (n : Int) : Done × Mem := doActR ownE ownE.c.fresh ⟨1, n, 0, 0, 0, 0, false⟩
def ownB (n : Int) : Done × Mem := doActR ownE (ownA n).2 ⟨1, n, 0, 0, 0, 0, true⟩
def ownP (n kind size v : Int) : Done × Mem := doActR ownE (ownB n).2 ⟨kind, size, (ownA n).1.handle, 0, v, 0, true⟩
def ownQ (n kind size v : Int) : Done × Mem := doActR ownE (ownP n kind size v).2 ⟨kind, size, (ownB n).1.handle, 0, v, 0, false⟩
def ownR (n kind size v : Int) : Done × Mem := doActR ownE (ownQ n kind size v).2 ⟨kind, size, (ownB n).1.handle, 0, v, 0, true⟩
def ownS (n kind size v : Int) : Done × Mem := doActR ownE (ownR n kind size v).2 ⟨kind, size, (ownA n).1.handle, 0, v, 0, false⟩
def ownEnd (n kind size v : Int) : Bool :=
  decide ((ownP n kind size v).1.e = 3) && decide ((ownQ n kind size v).1.e = 3) && decide ((ownR n kind size v).1.e = 0) && decide ((ownS n kind size v).1.e = 0)
theorem own_1_2 (s v : Int) : ownEnd 1 2 s v = true := by kernel_rfl
theorem own_2_2 (s v : Int) : ownEnd 2 2 s v = true := by kernel_rfl
theorem own_3_2 (s v : Int) : ownEnd 3 2 s v = true := by kernel_rfl
theorem own_4_2 (s v : Int) : ownEnd 4 2 s v = true := by kernel_rfl
theorem own_5_2 (s v : Int) : ownEnd 5 2 s v = true := by kernel_rfl
theorem own_6_2 (s v : Int) : ownEnd 6 2 s v = true := by kernel_rfl
theorem own_7_2 (s v : Int) : ownEnd 7 2 s v = true := by kernel_rfl
theorem own_8_2 (s v : Int) : ownEnd 8 2 s v = true := by kernel_rfl
theorem own_9_2 (s v : Int) : ownEnd 9 2 s v = true := by kernel_rfl
theorem own_10_2 (s v : Int) : ownEnd 10 2 s v = true := by kernel_rfl
theorem own_11_2 (s v : Int) : ownEnd 11 2 s v = true := by kernel_rfl
theorem own_12_2 (s v : Int) : ownEnd 12 2 s v = true := by kernel_rfl
theorem own_13_2 (s v : Int) : ownEnd 13 2 s v = true := by kernel_rfl
theorem own_14_2 (s v : Int) : ownEnd 14 2 s v = true := by kernel_rfl
theorem own_15_2 (s v : Int) : ownEnd 15 2 s v = true := by kernel_rfl
theorem own_16_2 (s v : Int) : ownEnd 16 2 s v = true := by kernel_rfl
theorem own_k2 (n s v : Int) (h : 1 ≤ n) (h' : n ≤ 16) : ownEnd n 2 s v = true := by
  have : n = 1 ∨ n = 2 ∨ n = 3 ∨ n = 4 ∨ n = 5 ∨ n = 6 ∨ n = 7 ∨ n = 8 ∨ n = 9 ∨ n = 10 ∨ n = 11 ∨ n = 12 ∨ n = 13 ∨ n = 14 ∨ n = 15 ∨ n = 16 := by omega
  rcases this with rfl | rfl | rfl | rfl | rfl | rfl | rfl | rfl | rfl | rfl | rfl | rfl | rfl | rfl | rfl | rfl
  · exact own_1_2 s v
  · exact own_2_2 s v
  · exact own_3_2 s v
  · exact own_4_2 s v
  · exact own_5_2 s v
  · exact own_6_2 s v
  · exact own_7_2 s v
  · exact own_8_2 s v
  · exact own_9_2 s v
  · exact own_10_2 s v
  · exact own_11_2 s v
  · exact own_12_2 s v
  · exact own_13_2 s v
  · exact own_14_2 s v
  · exact own_15_2 s v
  · exact own_16_2 s v
theorem own_1_3 (s v : Int) : ownEnd 1 3 s v = true := by kernel_rfl
theorem own_2_3 (s v : Int) : ownEnd 2 3 s v = true := by kernel_rfl
theorem own_3_3 (s v : Int) : ownEnd 3 3 s v = true := by kernel_rfl
theorem own_4_3 (s v : Int) : ownEnd 4 3 s v = true := by kernel_rfl
theorem own_5_3 (s v : Int) : ownEnd 5 3 s v = true := by kernel_rfl
theorem own_6_3 (s v : Int) : ownEnd 6 3 s v = true := by kernel_rfl
theorem own_7_3 (s v : Int) : ownEnd 7 3 s v = true := by kernel_rfl
theorem own_8_3 (s v : Int) : ownEnd 8 3 s v = true := by kernel_rfl
theorem own_9_3 (s v : Int) : ownEnd 9 3 s v = true := by kernel_rfl
theorem own_10_3 (s v : Int) : ownEnd 10 3 s v = true := by kernel_rfl
theorem own_11_3 (s v : Int) : ownEnd 11 3 s v = true := by kernel_rfl
theorem own_12_3 (s v : Int) : ownEnd 12 3 s v = true := by kernel_rfl
theorem own_13_3 (s v : Int) : ownEnd 13 3 s v = true := by kernel_rfl
theorem own_14_3 (s v : Int) : ownEnd 14 3 s v = true := by kernel_rfl
theorem own_15_3 (s v : Int) : ownEnd 15 3 s v = true := by kernel_rfl
theorem own_16_3 (s v : Int) : ownEnd 16 3 s v = true := by kernel_rfl
theorem own_k3 (n s v : Int) (h : 1 ≤ n) (h' : n ≤ 16) : ownEnd n 3 s v = true := by
  have : n = 1 ∨ n = 2 ∨ n = 3 ∨ n = 4 ∨ n = 5 ∨ n = 6 ∨ n = 7 ∨ n = 8 ∨ n = 9 ∨ n = 10 ∨ n = 11 ∨ n = 12 ∨ n = 13 ∨ n = 14 ∨ n = 15 ∨ n = 16 := by omega
  rcases this with rfl | rfl | rfl | rfl | rfl | rfl | rfl | rfl | rfl | rfl | rfl | rfl | rfl | rfl | rfl | rfl
  · exact own_1_3 s v
  · exact own_2_3 s v
  · exact own_3_3 s v
  · exact own_4_3 s v
  · exact own_5_3 s v
  · exact own_6_3 s v
  · exact own_7_3 s v
  · exact own_8_3 s v
  · exact own_9_3 s v
  · exact own_10_3 s v
  · exact own_11_3 s v
  · exact own_12_3 s v
  · exact own_13_3 s v
  · exact own_14_3 s v
  · exact own_15_3 s v
  · exact own_16_3 s v
theorem own_1_4 (s v : Int) : ownEnd 1 4 s v = true := by kernel_rfl
theorem own_2_4 (s v : Int) : ownEnd 2 4 s v = true := by kernel_rfl
theorem own_3_4 (s v : Int) : ownEnd 3 4 s v = true := by kernel_rfl
theorem own_4_4 (s v : Int) : ownEnd 4 4 s v = true := by kernel_rfl
theorem own_5_4 (s v : Int) : ownEnd 5 4 s v = true := by kernel_rfl
theorem own_6_4 (s v : Int) : ownEnd 6 4 s v = true := by kernel_rfl
theorem own_7_4 (s v : Int) : ownEnd 7 4 s v = true := by kernel_rfl
theorem own_8_4 (s v : Int) : ownEnd 8 4 s v = true := by kernel_rfl
theorem own_9_4 (s v : Int) : ownEnd 9 4 s v = true := by kernel_rfl
theorem own_10_4 (s v : Int) : ownEnd 10 4 s v = true := by kernel_rfl
theorem own_11_4 (s v : Int) : ownEnd 11 4 s v = true := by kernel_rfl
theorem own_12_4 (s v : Int) : ownEnd 12 4 s v = true := by kernel_rfl
theorem own_13_4 (s v : Int) : ownEnd 13 4 s v = true := by kernel_rfl
theorem own_14_4 (s v : Int) : ownEnd 14 4 s v = true := by kernel_rfl
theorem own_15_4 (s v : Int) : ownEnd 15 4 s v = true := by kernel_rfl
theorem own_16_4 (s v : Int) : ownEnd 16 4 s v = true := by kernel_rfl
theorem own_k4 (n s v : Int) (h : 1 ≤ n) (h' : n ≤ 16) : ownEnd n 4 s v = true := by
  have : n = 1 ∨ n = 2 ∨ n = 3 ∨ n = 4 ∨ n = 5 ∨ n = 6 ∨ n = 7 ∨ n = 8 ∨ n = 9 ∨ n = 10 ∨ n = 11 ∨ n = 12 ∨ n = 13 ∨ n = 14 ∨ n = 15 ∨ n = 16 := by omega
  rcases this with rfl | rfl | rfl | rfl | rfl | rfl | rfl | rfl | rfl | rfl | rfl | rfl | rfl | rfl | rfl | rfl
  · exact own_1_4 s v
  · exact own_2_4 s v
  · exact own_3_4 s v
  · exact own_4_4 s v
  · exact own_5_4 s v
  · exact own_6_4 s v
  · exact own_7_4 s v
  · exact own_8_4 s v
  · exact own_9_4 s v
  · exact own_10_4 s v
  · exact own_11_4 s v
  · exact own_12_4 s v
  · exact own_13_4 s v
  · exact own_14_4 s v
  · exact own_15_4 s v
  · exact own_16_4 s v
theorem own_1_5 (s v : Int) : ownEnd 1 5 s v = true := by kernel_rfl
theorem own_2_5 (s v : Int) : ownEnd 2 5 s v = true := by kernel_rfl
theorem own_3_5 (s v : Int) : ownEnd 3 5 s v = true := by kernel_rfl
theorem own_4_5 (s v : Int) : ownEnd 4 5 s v = true := by kernel_rfl
theorem own_5_5 (s v : Int) : ownEnd 5 5 s v = true := by kernel_rfl
theorem own_6_5 (s v : Int) : ownEnd 6 5 s v = true := by kernel_rfl
theorem own_7_5 (s v : Int) : ownEnd 7 5 s v = true := by kernel_rfl
theorem own_8_5 (s v : Int) : ownEnd 8 5 s v = true := by kernel_rfl
theorem own_9_5 (s v : Int) : ownEnd 9 5 s v = true := by kernel_rfl
theorem own_10_5 (s v : Int) : ownEnd 10 5 s v = true := by kernel_rfl
theorem own_11_5 (s v : Int) : ownEnd 11 5 s v = true := by kernel_rfl
theorem own_12_5 (s v : Int) : ownEnd 12 5 s v = true := by kernel_rfl
theorem own_13_5 (s v : Int) : ownEnd 13 5 s v = true := by kernel_rfl
theorem own_14_5 (s v : Int) : ownEnd 14 5 s v = true := by kernel_rfl
theorem own_15_5 (s v : Int) : ownEnd 15 5 s v = true := by kernel_rfl
theorem own_16_5 (s v : Int) : ownEnd 16 5 s v = true := by kernel_rfl
theorem own_k5 (n s v : Int) (h : 1 ≤ n) (h' : n ≤ 16) : ownEnd n 5 s v = true := by
  have : n = 1 ∨ n = 2 ∨ n = 3 ∨ n = 4 ∨ n = 5 ∨ n = 6 ∨ n = 7 ∨ n = 8 ∨ n = 9 ∨ n = 10 ∨ n = 11 ∨ n = 12 ∨ n = 13 ∨ n = 14 ∨ n = 15 ∨ n = 16 := by omega
  rcases this with rfl | rfl | rfl | rfl | rfl | rfl | rfl | rfl | rfl | rfl | rfl | rfl | rfl | rfl | rfl | rfl
  · exact own_1_5 s v
  · exact own_2_5 s v
  · exact own_3_5 s v
  · exact own_4_5 s v
  · exact own_5_5 s v
  · exact own_6_5 s v
  · exact own_7_5 s v
  · exact own_8_5 s v
  · exact own_9_5 s v
  · exact own_10_5 s v
  · exact own_11_5 s v
  · exact own_12_5 s v
  · exact own_13_5 s v
  · exact own_14_5 s v
  · exact own_15_5 s v
  · exact own_16_5 s v
theorem own_law (n kind size v : Int) (h : 1 ≤ n) (h' : n ≤ 16) (hk : 2 ≤ kind) (hk' : kind ≤ 5) : ownEnd n kind size v = true := by
  have : kind = 2 ∨ kind = 3 ∨ kind = 4 ∨ kind = 5 := by omega
  rcases this with rfl | rfl | rfl | rfl
  · exact own_k2 n size v h h'
  · exact own_k3 n size v h h'
  · exact own_k4 n size v h h'
  · exact own_k5 n size v h h'

/-! ### acts while nothing was made -/
def pinsE (who : Int) : Env := ⟨arenaCfg 4 6 4 40, who⟩
/-- What the statement looks at along an act: false where something is not as it should be. -/
def pinsLoop (e : Env) : Nat → Int → Act → Mem → Bool
  | 0, _, _, _ => false
  | n + 1, i, a, m =>
    let was := m.peek (pinA e.who)
    let r := a.step e m
    if wrap64 (m.steps + 1) < r.2.1.steps ∨ (3 ≤ i ∧ was ≠ 1) ∨ (r.2.2 ≠ (decide (0 < i) && decide (r.2.1.peek (pinA e.who) = 0) && decide (was = 1))) then false
    else if r.2.2 then true else pinsLoop e n (i + 1) r.1 r.2.1
def pinsEnd (who : Int) (x : ActX) : Bool := decide ((arenaCfg 4 6 4 40).fresh.peek (pinA who) = 0) && pinsLoop (pinsE who) 300 0 (Act.new x) (arenaCfg 4 6 4 40).fresh
theorem pins_try (h idx v o : Int) : pinsEnd 0 ⟨1, 5, h, idx, v, o, false⟩ = true := by kernel_rfl
theorem pins_try2 (h idx v o : Int) : pinsEnd 3 ⟨1, 16, h, idx, v, o, true⟩ = true := by kernel_rfl
end Go.Proofs.Ytkgbifagledcaaa.FL
