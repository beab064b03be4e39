import Derived.Test.YtkgbifagledcaaaPW
import Derived.KernelRfl
namespace Go.Proofs.Ytkgbifagledcaaa.FL
open Go Go.RowKit
theorem awake10_true : awake10 = true := by kernel_rfl
theorem awake15_true : awake15 = true := by kernel_rfl
end Go.Proofs.Ytkgbifagledcaaa.FL
