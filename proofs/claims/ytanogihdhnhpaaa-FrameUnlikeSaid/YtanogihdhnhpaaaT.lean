/- Types of this program as plain Lean types, and closed facts of its types. Written by gg.py of this repo. -/
import Derived.Test.YtanogihdhnhpaaaProg
import Derived.Test.YtanogihdhnhpaaaGgK
namespace Go.Proofs.Ytanogihdhnhpaaa.Gf
open Go Go.Gg
theorem sl22 : sliceTy Try.prog 22 = some (32, 1, 24) := by kernel_rfl
theorem ag32 : aggTy Try.prog 32 = some (false, 1) := by kernel_rfl
theorem sl32 : sliceTy Try.prog 32 = some (5, 1, 1) := by kernel_rfl
theorem ag5 : aggTy Try.prog 5 = some (false, 1) := by kernel_rfl
theorem by32 : bytesTy Try.prog 32 = true := by kernel_rfl
theorem sl23 : sliceTy Try.prog 23 = some (26, 1, 8) := by kernel_rfl
theorem ag26 : aggTy Try.prog 26 = some (false, 1) := by kernel_rfl
theorem ze5 : zeroTy Try.prog 5 1 = true := by kernel_rfl
theorem nt32 : intTy Try.prog 32 = true := by kernel_rfl
theorem mo : Try.prog.follows .mixedOrders = true := by kernel_rfl
theorem sz5 : (Try.prog.info? 5).map (·.size) = some 1 := by kernel_rfl
theorem sz26 : (Try.prog.info? 26).map (·.size) = some 1 := by kernel_rfl
theorem st9 : Try.prog.underlying 9 = some .string := by kernel_rfl
end Go.Proofs.Ytanogihdhnhpaaa.Gf
