/-
  What is Own: the walk.
-/
import Derived.Test.YtkgbifagledcaaaXD
import Derived.Test.YtkgbifagledcaaaPA
namespace Go.Proofs.Ytkgbifagledcaaa.FL
open Go Go.RowKit
set_option linter.unusedVariables false
set_option linter.unusedSimpArgs false
set_option maxRecDepth 20000
set_option maxHeartbeats 4000000
attribute [local go_sem ↓] Go.wp_at_zero Go.wp_at_succ
attribute [local go_sem] fieldSlot0 fieldSlot1 fieldSlot2 fieldSlot3 fieldChunk0 fieldChunk1 fieldChunk3 fieldCell0
attribute [local go_sem] fieldDone0 fieldDone1 fieldDone2 fieldDone3

def ownX (kind size h v : Int) (own : Bool) : ActX := ⟨kind, size, h, 0, v, 0, own⟩
/-- Along the six acts nothing is met that the contract of a step does not take. -/
def ownOk (n kind size v : Int) : Bool :=
  Act.runOk ownE 500 (Act.new ⟨1, n, 0, 0, 0, 0, false⟩) ownE.c.fresh && Act.runOk ownE 500 (Act.new ⟨1, n, 0, 0, 0, 0, true⟩) (ownA n).2 &&
  Act.runOk ownE 500 (Act.new (ownX kind size (ownA n).1.handle v true)) (ownB n).2 && Act.runOk ownE 500 (Act.new (ownX kind size (ownB n).1.handle v false)) (ownP n kind size v).2 &&
  Act.runOk ownE 500 (Act.new (ownX kind size (ownB n).1.handle v true)) (ownQ n kind size v).2 && Act.runOk ownE 500 (Act.new (ownX kind size (ownA n).1.handle v false)) (ownR n kind size v).2
theorem ownOk_1_2 (s v : Int) : ownOk 1 2 s v = true := by kernel_rfl
theorem ownOk_2_2 (s v : Int) : ownOk 2 2 s v = true := by kernel_rfl
theorem ownOk_3_2 (s v : Int) : ownOk 3 2 s v = true := by kernel_rfl
theorem ownOk_4_2 (s v : Int) : ownOk 4 2 s v = true := by kernel_rfl
theorem ownOk_5_2 (s v : Int) : ownOk 5 2 s v = true := by kernel_rfl
theorem ownOk_6_2 (s v : Int) : ownOk 6 2 s v = true := by kernel_rfl
theorem ownOk_7_2 (s v : Int) : ownOk 7 2 s v = true := by kernel_rfl
theorem ownOk_8_2 (s v : Int) : ownOk 8 2 s v = true := by kernel_rfl
theorem ownOk_9_2 (s v : Int) : ownOk 9 2 s v = true := by kernel_rfl
theorem ownOk_10_2 (s v : Int) : ownOk 10 2 s v = true := by kernel_rfl
theorem ownOk_11_2 (s v : Int) : ownOk 11 2 s v = true := by kernel_rfl
theorem ownOk_12_2 (s v : Int) : ownOk 12 2 s v = true := by kernel_rfl
theorem ownOk_13_2 (s v : Int) : ownOk 13 2 s v = true := by kernel_rfl
theorem ownOk_14_2 (s v : Int) : ownOk 14 2 s v = true := by kernel_rfl
theorem ownOk_15_2 (s v : Int) : ownOk 15 2 s v = true := by kernel_rfl
theorem ownOk_16_2 (s v : Int) : ownOk 16 2 s v = true := by kernel_rfl
theorem ownOk_1_3 (s v : Int) : ownOk 1 3 s v = true := by kernel_rfl
theorem ownOk_2_3 (s v : Int) : ownOk 2 3 s v = true := by kernel_rfl
theorem ownOk_3_3 (s v : Int) : ownOk 3 3 s v = true := by kernel_rfl
theorem ownOk_4_3 (s v : Int) : ownOk 4 3 s v = true := by kernel_rfl
theorem ownOk_5_3 (s v : Int) : ownOk 5 3 s v = true := by kernel_rfl
theorem ownOk_6_3 (s v : Int) : ownOk 6 3 s v = true := by kernel_rfl
theorem ownOk_7_3 (s v : Int) : ownOk 7 3 s v = true := by kernel_rfl
theorem ownOk_8_3 (s v : Int) : ownOk 8 3 s v = true := by kernel_rfl
theorem ownOk_9_3 (s v : Int) : ownOk 9 3 s v = true := by kernel_rfl
theorem ownOk_10_3 (s v : Int) : ownOk 10 3 s v = true := by kernel_rfl
theorem ownOk_11_3 (s v : Int) : ownOk 11 3 s v = true := by kernel_rfl
theorem ownOk_12_3 (s v : Int) : ownOk 12 3 s v = true := by kernel_rfl
theorem ownOk_13_3 (s v : Int) : ownOk 13 3 s v = true := by kernel_rfl
theorem ownOk_14_3 (s v : Int) : ownOk 14 3 s v = true := by kernel_rfl
theorem ownOk_15_3 (s v : Int) : ownOk 15 3 s v = true := by kernel_rfl
theorem ownOk_16_3 (s v : Int) : ownOk 16 3 s v = true := by kernel_rfl
theorem ownOk_1_4 (s v : Int) : ownOk 1 4 s v = true := by kernel_rfl
theorem ownOk_2_4 (s v : Int) : ownOk 2 4 s v = true := by kernel_rfl
theorem ownOk_3_4 (s v : Int) : ownOk 3 4 s v = true := by kernel_rfl
theorem ownOk_4_4 (s v : Int) : ownOk 4 4 s v = true := by kernel_rfl
theorem ownOk_5_4 (s v : Int) : ownOk 5 4 s v = true := by kernel_rfl
theorem ownOk_6_4 (s v : Int) : ownOk 6 4 s v = true := by kernel_rfl
theorem ownOk_7_4 (s v : Int) : ownOk 7 4 s v = true := by kernel_rfl
theorem ownOk_8_4 (s v : Int) : ownOk 8 4 s v = true := by kernel_rfl
theorem ownOk_9_4 (s v : Int) : ownOk 9 4 s v = true := by kernel_rfl
theorem ownOk_10_4 (s v : Int) : ownOk 10 4 s v = true := by kernel_rfl
theorem ownOk_11_4 (s v : Int) : ownOk 11 4 s v = true := by kernel_rfl
theorem ownOk_12_4 (s v : Int) : ownOk 12 4 s v = true := by kernel_rfl
theorem ownOk_13_4 (s v : Int) : ownOk 13 4 s v = true := by kernel_rfl
theorem ownOk_14_4 (s v : Int) : ownOk 14 4 s v = true := by kernel_rfl
theorem ownOk_15_4 (s v : Int) : ownOk 15 4 s v = true := by kernel_rfl
theorem ownOk_16_4 (s v : Int) : ownOk 16 4 s v = true := by kernel_rfl
theorem ownOk_1_5 (s v : Int) : ownOk 1 5 s v = true := by kernel_rfl
theorem ownOk_2_5 (s v : Int) : ownOk 2 5 s v = true := by kernel_rfl
theorem ownOk_3_5 (s v : Int) : ownOk 3 5 s v = true := by kernel_rfl
theorem ownOk_4_5 (s v : Int) : ownOk 4 5 s v = true := by kernel_rfl
theorem ownOk_5_5 (s v : Int) : ownOk 5 5 s v = true := by kernel_rfl
theorem ownOk_6_5 (s v : Int) : ownOk 6 5 s v = true := by kernel_rfl
theorem ownOk_7_5 (s v : Int) : ownOk 7 5 s v = true := by kernel_rfl
theorem ownOk_8_5 (s v : Int) : ownOk 8 5 s v = true := by kernel_rfl
theorem ownOk_9_5 (s v : Int) : ownOk 9 5 s v = true := by kernel_rfl
theorem ownOk_10_5 (s v : Int) : ownOk 10 5 s v = true := by kernel_rfl
theorem ownOk_11_5 (s v : Int) : ownOk 11 5 s v = true := by kernel_rfl
theorem ownOk_12_5 (s v : Int) : ownOk 12 5 s v = true := by kernel_rfl
theorem ownOk_13_5 (s v : Int) : ownOk 13 5 s v = true := by kernel_rfl
theorem ownOk_14_5 (s v : Int) : ownOk 14 5 s v = true := by kernel_rfl
theorem ownOk_15_5 (s v : Int) : ownOk 15 5 s v = true := by kernel_rfl
theorem ownOk_16_5 (s v : Int) : ownOk 16 5 s v = true := by kernel_rfl
theorem ownOk_law (n kind size v : Int) (h : 1 ≤ n) (h' : n ≤ 16) (hk : 2 ≤ kind) (hk' : kind ≤ 5) : ownOk n kind size v = true := by
  have h1 : kind = 2 ∨ kind = 3 ∨ kind = 4 ∨ kind = 5 := by omega
  have h2 : n = 1 ∨ n = 2 ∨ n = 3 ∨ n = 4 ∨ n = 5 ∨ n = 6 ∨ n = 7 ∨ n = 8 ∨ n = 9 ∨ n = 10 ∨ n = 11 ∨ n = 12 ∨ n = 13 ∨ n = 14 ∨ n = 15 ∨ n = 16 := by omega
  rcases h1 with rfl | rfl | rfl | rfl
  · rcases h2 with rfl | rfl | rfl | rfl | rfl | rfl | rfl | rfl | rfl | rfl | rfl | rfl | rfl | rfl | rfl | rfl
    · exact ownOk_1_2 size v
    · exact ownOk_2_2 size v
    · exact ownOk_3_2 size v
    · exact ownOk_4_2 size v
    · exact ownOk_5_2 size v
    · exact ownOk_6_2 size v
    · exact ownOk_7_2 size v
    · exact ownOk_8_2 size v
    · exact ownOk_9_2 size v
    · exact ownOk_10_2 size v
    · exact ownOk_11_2 size v
    · exact ownOk_12_2 size v
    · exact ownOk_13_2 size v
    · exact ownOk_14_2 size v
    · exact ownOk_15_2 size v
    · exact ownOk_16_2 size v
  · rcases h2 with rfl | rfl | rfl | rfl | rfl | rfl | rfl | rfl | rfl | rfl | rfl | rfl | rfl | rfl | rfl | rfl
    · exact ownOk_1_3 size v
    · exact ownOk_2_3 size v
    · exact ownOk_3_3 size v
    · exact ownOk_4_3 size v
    · exact ownOk_5_3 size v
    · exact ownOk_6_3 size v
    · exact ownOk_7_3 size v
    · exact ownOk_8_3 size v
    · exact ownOk_9_3 size v
    · exact ownOk_10_3 size v
    · exact ownOk_11_3 size v
    · exact ownOk_12_3 size v
    · exact ownOk_13_3 size v
    · exact ownOk_14_3 size v
    · exact ownOk_15_3 size v
    · exact ownOk_16_3 size v
  · rcases h2 with rfl | rfl | rfl | rfl | rfl | rfl | rfl | rfl | rfl | rfl | rfl | rfl | rfl | rfl | rfl | rfl
    · exact ownOk_1_4 size v
    · exact ownOk_2_4 size v
    · exact ownOk_3_4 size v
    · exact ownOk_4_4 size v
    · exact ownOk_5_4 size v
    · exact ownOk_6_4 size v
    · exact ownOk_7_4 size v
    · exact ownOk_8_4 size v
    · exact ownOk_9_4 size v
    · exact ownOk_10_4 size v
    · exact ownOk_11_4 size v
    · exact ownOk_12_4 size v
    · exact ownOk_13_4 size v
    · exact ownOk_14_4 size v
    · exact ownOk_15_4 size v
    · exact ownOk_16_4 size v
  · rcases h2 with rfl | rfl | rfl | rfl | rfl | rfl | rfl | rfl | rfl | rfl | rfl | rfl | rfl | rfl | rfl | rfl
    · exact ownOk_1_5 size v
    · exact ownOk_2_5 size v
    · exact ownOk_3_5 size v
    · exact ownOk_4_5 size v
    · exact ownOk_5_5 size v
    · exact ownOk_6_5 size v
    · exact ownOk_7_5 size v
    · exact ownOk_8_5 size v
    · exact ownOk_9_5 size v
    · exact ownOk_10_5 size v
    · exact ownOk_11_5 size v
    · exact ownOk_12_5 size v
    · exact ownOk_13_5 size v
    · exact ownOk_14_5 size v
    · exact ownOk_15_5 size v
    · exact ownOk_16_5 size v

def cutX (x : ActX) : ActX := { x with kind := wrap64 (1 + (wrap64 (x.kind.tmod 5 + 5)).tmod 5), value := bits .and .i64 x.value 1099511627775, old := bits .and .i64 x.old 1099511627775 }
end Go.Proofs.Ytkgbifagledcaaa.FL
