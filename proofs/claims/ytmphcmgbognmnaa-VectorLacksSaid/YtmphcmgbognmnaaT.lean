/- Types of this program as plain Lean types, and closed facts of its types. Written by gg.py of this repo. -/
import Derived.Test.YtmphcmgbognmnaaProg
import Derived.Test.YtmphcmgbognmnaaGgL
namespace Go.Proofs.Ytmphcmgbognmnaa.Gf
open Go Go.Gg
structure T63 where
  f0 : Int
  f1 : Int
  f2 : Int
  deriving DecidableEq
def z63 : T63 := ⟨0, 0, 0⟩
def k63 : Kd T63 := kFlat 3 (fun x => [.int .i64 x.f0, .int .i64 x.f1, .int .i64 x.f2]) (fun _ => rfl) (fun _ => rfl)
theorem eqT63 (x y : T63) : [Lf.int x.f0 y.f0, Lf.int x.f1 y.f1, Lf.int x.f2 y.f2].all Lf.ok = decide (x = y) := by
  obtain ⟨x0, x1, x2⟩ := x
  obtain ⟨y0, y1, y2⟩ := y
  rw [Bool.eq_iff_iff]
  simp [Lf.ok, toList_inj]
theorem sl52 : sliceTy Try.prog 52 = some (3, 1, 8) := by kernel_rfl
theorem ag3 : aggTy Try.prog 3 = some (false, 1) := by kernel_rfl
theorem sz3 : (Try.prog.info? 3).map (·.size) = some 1 := by kernel_rfl
theorem sl84 : sliceTy Try.prog 84 = some (52, 1, 24) := by kernel_rfl
theorem ag52 : aggTy Try.prog 52 = some (false, 1) := by kernel_rfl
theorem ze3 : zeroTy Try.prog 3 1 = true := by kernel_rfl
theorem nt52 : intTy Try.prog 52 = true := by kernel_rfl
theorem mo : Try.prog.follows .mixedOrders = true := by kernel_rfl
theorem sl60 : sliceTy Try.prog 60 = some (63, 3, 24) := by kernel_rfl
theorem ze63 : zeroTy Try.prog 63 3 = true := by kernel_rfl
theorem nt60 : intTy Try.prog 60 = true := by kernel_rfl
theorem ag63 : aggTy Try.prog 63 = some (true, 3) := by kernel_rfl
theorem eg63 : Try.prog.eqGuardType Try.prog.depth 63 = false := by kernel_rfl
theorem fi63_0 : fieldTy Try.prog 63 0 = some 0 := by kernel_rfl
theorem fi63_2 : fieldTy Try.prog 63 2 = some 2 := by kernel_rfl
theorem fi63_1 : fieldTy Try.prog 63 1 = some 1 := by kernel_rfl
end Go.Proofs.Ytmphcmgbognmnaa.Gf
