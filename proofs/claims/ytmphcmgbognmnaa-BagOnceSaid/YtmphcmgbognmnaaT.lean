/- Types of this program as plain Lean types, and closed facts of its types. Written by gg.py of this repo. -/
import Derived.Test.YtmphcmgbognmnaaProg
import Derived.Test.YtmphcmgbognmnaaGgN
namespace Go.Proofs.Ytmphcmgbognmnaa.Gf
open Go Go.Gg
set_option linter.unusedSimpArgs false
set_option linter.unusedVariables false
structure T94 where
  f0 : Int
  f1 : List Int
  f2 : Bool
  deriving DecidableEq
def z94 : T94 := ⟨0, [], false⟩
def k94 : Kd T94 := kIso (fun x => (x.f0, x.f1, x.f2)) (kPair (kInt .i64) (kPair (kSlice (kInt .u8)) kBool))
def d94 : Dk T94 := dIso (fun x => (x.f0, x.f1, x.f2)) (dPair (dFlat (kInt .i64)) (dPair (dSlice (kInt .u8)) (dFlat kBool)))
structure T89 where
  f0 : Int
  f1 : List T94
  deriving DecidableEq
def z89 : T89 := ⟨0, []⟩
def k89 : Kd T89 := kIso (fun x => (x.f0, x.f1)) (kPair (kInt .i64) (kSlice k94))
theorem mo : Try.prog.follows .mixedOrders = true := by kernel_rfl
theorem ag87 : aggTy Try.prog 87 = some (false, 1) := by kernel_rfl
theorem ag3 : aggTy Try.prog 3 = some (false, 1) := by kernel_rfl
theorem ag70 : aggTy Try.prog 70 = some (false, 1) := by kernel_rfl
theorem sl70 : sliceTy Try.prog 70 = some (5, 1, 1) := by kernel_rfl
theorem nt70 : intTy Try.prog 70 = true := by kernel_rfl
theorem ze5 : zeroTy Try.prog 5 1 = true := by kernel_rfl
theorem sz5 : (Try.prog.info? 5).map (·.size) = some 1 := by kernel_rfl
theorem sz70 : (Try.prog.info? 70).map (·.size) = some 1 := by kernel_rfl
theorem ag94 : aggTy Try.prog 94 = some (true, 3) := by kernel_rfl
theorem sl87 : sliceTy Try.prog 87 = some (94, 3, 40) := by kernel_rfl
theorem ze94 : zeroTy Try.prog 94 3 = true := by kernel_rfl
theorem nt87 : intTy Try.prog 87 = true := by kernel_rfl
theorem sz87 : (Try.prog.info? 87).map (·.size) = some 1 := by kernel_rfl
theorem sz94 : (Try.prog.info? 94).map (·.size) = some 3 := by kernel_rfl
theorem fi94_1 : fieldTy Try.prog 94 1 = some 2 := by kernel_rfl
theorem ag4 : aggTy Try.prog 4 = some (false, 1) := by kernel_rfl
theorem fi94_0 : fieldTy Try.prog 94 0 = some 0 := by kernel_rfl
theorem fi92_1 : fieldTy Try.prog 92 1 = some 1 := by kernel_rfl
theorem ag5 : aggTy Try.prog 5 = some (false, 1) := by kernel_rfl
theorem sz4 : (Try.prog.info? 4).map (·.size) = some 1 := by kernel_rfl
end Go.Proofs.Ytmphcmgbognmnaa.Gf
