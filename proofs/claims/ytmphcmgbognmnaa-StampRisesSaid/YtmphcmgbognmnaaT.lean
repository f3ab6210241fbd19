/- Types of this program as plain Lean types, and closed facts of its types. Written by gg.py of this repo. -/
import Derived.Test.YtmphcmgbognmnaaProg
import Derived.Test.YtmphcmgbognmnaaGgL
namespace Go.Proofs.Ytmphcmgbognmnaa.Gf
open Go Go.Gg
structure T23 where
  f0 : Int
  f1 : Int
  deriving DecidableEq
def z23 : T23 := ⟨0, 0⟩
def k23 : Kd T23 := kFlat 2 (fun x => [.int .i64 x.f0, .int .i64 x.f1]) (fun _ => rfl) (fun _ => rfl)
theorem eqT23 (x y : T23) : [Lf.int x.f0 y.f0, Lf.int x.f1 y.f1].all Lf.ok = decide (x = y) := by
  obtain ⟨x0, x1⟩ := x
  obtain ⟨y0, y1⟩ := y
  rw [Bool.eq_iff_iff]
  simp [Lf.ok, toList_inj]
structure T36 where
  f0 : Int
  f1 : Int
  deriving DecidableEq
def z36 : T36 := ⟨0, 0⟩
def k36 : Kd T36 := kFlat 2 (fun x => [.int .i64 x.f0, .int .i64 x.f1]) (fun _ => rfl) (fun _ => rfl)
theorem eqT36 (x y : T36) : [Lf.int x.f0 y.f0, Lf.int x.f1 y.f1].all Lf.ok = decide (x = y) := by
  obtain ⟨x0, x1⟩ := x
  obtain ⟨y0, y1⟩ := y
  rw [Bool.eq_iff_iff]
  simp [Lf.ok, toList_inj]
structure T39 where
  f0 : Bool
  f1 : Int
  f2 : Int
  f3 : Int
  deriving DecidableEq
def z39 : T39 := ⟨false, 0, 0, 0⟩
def k39 : Kd T39 := kFlat 4 (fun x => [.bool x.f0, .int .i64 x.f1, .int .i64 x.f2, .int .i64 x.f3]) (fun _ => rfl) (fun _ => rfl)
theorem eqT39 (x y : T39) : [Lf.bool x.f0 y.f0, Lf.int x.f1 y.f1, Lf.int x.f2 y.f2, Lf.int x.f3 y.f3].all Lf.ok = decide (x = y) := by
  obtain ⟨x0, x1, x2, x3⟩ := x
  obtain ⟨y0, y1, y2, y3⟩ := y
  rw [Bool.eq_iff_iff]
  simp [Lf.ok, toList_inj]
structure T81 where
  f0 : Int
  f1 : Int
  deriving DecidableEq
def z81 : T81 := ⟨0, 0⟩
def k81 : Kd T81 := kFlat 2 (fun x => [.int .i64 x.f0, .int .i64 x.f1]) (fun _ => rfl) (fun _ => rfl)
theorem eqT81 (x y : T81) : [Lf.int x.f0 y.f0, Lf.int x.f1 y.f1].all Lf.ok = decide (x = y) := by
  obtain ⟨x0, x1⟩ := x
  obtain ⟨y0, y1⟩ := y
  rw [Bool.eq_iff_iff]
  simp [Lf.ok, toList_inj]
theorem ag23 : aggTy Try.prog 23 = some (true, 2) := by kernel_rfl
theorem ag3 : aggTy Try.prog 3 = some (false, 1) := by kernel_rfl
theorem sz23 : (Try.prog.info? 23).map (·.size) = some 2 := by kernel_rfl
theorem mo : Try.prog.follows .mixedOrders = true := by kernel_rfl
theorem sl24 : sliceTy Try.prog 24 = some (23, 2, 16) := by kernel_rfl
theorem sz3 : (Try.prog.info? 3).map (·.size) = some 1 := by kernel_rfl
theorem eg23 : Try.prog.eqGuardType Try.prog.depth 23 = false := by kernel_rfl
theorem sl33 : sliceTy Try.prog 33 = some (39, 4, 32) := by kernel_rfl
theorem ag39 : aggTy Try.prog 39 = some (true, 4) := by kernel_rfl
theorem sz39 : (Try.prog.info? 39).map (·.size) = some 4 := by kernel_rfl
theorem ag4 : aggTy Try.prog 4 = some (false, 1) := by kernel_rfl
theorem ze23 : zeroTy Try.prog 23 2 = true := by kernel_rfl
theorem nt24 : intTy Try.prog 24 = true := by kernel_rfl
theorem sl52 : sliceTy Try.prog 52 = some (3, 1, 8) := by kernel_rfl
end Go.Proofs.Ytmphcmgbognmnaa.Gf
