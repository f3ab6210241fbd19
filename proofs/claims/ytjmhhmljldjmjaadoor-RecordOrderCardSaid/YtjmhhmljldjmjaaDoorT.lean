/- Types of this program as plain Lean types, and closed facts of its types. Written by gg.py of this repo. -/
import Derived.Test.YtjmhhmljldjmjaaDoorV0
import Derived.Test.YtjmhhmljldjmjaaDoorGgU
namespace Go.Proofs.YtjmhhmljldjmjaaDoor.Gf
open Go Go.Gg
set_option linter.unusedSimpArgs false
set_option linter.unusedVariables false
structure T27 where
  f0 : Int
  f1 : Int
  f2 : Int
  f3 : Int
  f4 : ByteArray
  deriving DecidableEq
def z27 : T27 := ⟨0, 0, 0, 0, (⟨#[]⟩ : ByteArray)⟩
def k27 : Kd T27 := kFlat 5 (fun x => [.int .i64 x.f0, .int .i64 x.f1, .int .i64 x.f2, .int .i64 x.f3, .string x.f4]) (fun _ => rfl) (fun _ => rfl)
theorem eqT27 (x y : T27) : [Lf.int x.f0 y.f0, Lf.int x.f1 y.f1, Lf.int x.f2 y.f2, Lf.int x.f3 y.f3, Lf.str x.f4 y.f4].all Lf.ok = decide (x = y) := by
  obtain ⟨x0, x1, x2, x3, x4⟩ := x
  obtain ⟨y0, y1, y2, y3, y4⟩ := y
  rw [Bool.eq_iff_iff]
  simp [Lf.ok, toList_inj]
structure T25 where
  f0 : Int
  f1 : Int
  deriving DecidableEq
def z25 : T25 := ⟨0, 0⟩
def k25 : Kd T25 := kFlat 2 (fun x => [.int .i64 x.f0, .int .i64 x.f1]) (fun _ => rfl) (fun _ => rfl)
theorem eqT25 (x y : T25) : [Lf.int x.f0 y.f0, Lf.int x.f1 y.f1].all Lf.ok = decide (x = y) := by
  obtain ⟨x0, x1⟩ := x
  obtain ⟨y0, y1⟩ := y
  rw [Bool.eq_iff_iff]
  simp [Lf.ok, toList_inj]
structure T23 where
  f0 : Int
  f1 : Int
  deriving DecidableEq
def z23 : T23 := ⟨0, 0⟩
def k23 : Kd T23 := kFlat 2 (fun x => [.int .i64 x.f0, .int .i64 x.f1]) (fun _ => rfl) (fun _ => rfl)
theorem eqT23 (x y : T23) : [Lf.int x.f0 y.f0, Lf.int x.f1 y.f1].all Lf.ok = decide (x = y) := by
  obtain ⟨x0, x1⟩ := x
  obtain ⟨y0, y1⟩ := y
  rw [Bool.eq_iff_iff]
  simp [Lf.ok, toList_inj]
theorem ag9 : aggTy Tryd.prog 9 = some (false, 1) := by kernel_rfl
theorem sz27 : (Tryd.prog.info? 27).map (·.size) = some 5 := by kernel_rfl
theorem ag27 : aggTy Tryd.prog 27 = some (true, 5) := by kernel_rfl
theorem ag3 : aggTy Tryd.prog 3 = some (false, 1) := by kernel_rfl
theorem ag25 : aggTy Tryd.prog 25 = some (true, 2) := by kernel_rfl
theorem mo : Tryd.prog.follows .mixedOrders = true := by kernel_rfl
theorem sl29 : sliceTy Tryd.prog 29 = some (5, 1, 1) := by kernel_rfl
theorem ze5 : zeroTy Tryd.prog 5 1 = true := by kernel_rfl
theorem nt29 : intTy Tryd.prog 29 = true := by kernel_rfl
theorem nt9 : intTy Tryd.prog 9 = true := by kernel_rfl
theorem ag5 : aggTy Tryd.prog 5 = some (false, 1) := by kernel_rfl
theorem sz3 : (Tryd.prog.info? 3).map (·.size) = some 1 := by kernel_rfl
theorem by29 : bytesTy Tryd.prog 29 = true := by kernel_rfl
theorem st9 : Tryd.prog.underlying 9 = some .string := by kernel_rfl
theorem sz9 : (Tryd.prog.info? 9).map (·.size) = some 1 := by kernel_rfl
theorem eg27 : Tryd.prog.eqGuardType Tryd.prog.depth 27 = false := by kernel_rfl
theorem eg25 : Tryd.prog.eqGuardType Tryd.prog.depth 25 = false := by kernel_rfl
theorem ag23 : aggTy Tryd.prog 23 = some (true, 2) := by kernel_rfl
theorem sz5 : (Tryd.prog.info? 5).map (·.size) = some 1 := by kernel_rfl
theorem sl46 : sliceTy Tryd.prog 46 = some (27, 5, 48) := by kernel_rfl
theorem fi27_2 : fieldTy Tryd.prog 27 2 = some 4 := by kernel_rfl
theorem nt46 : intTy Tryd.prog 46 = true := by kernel_rfl
theorem ze27 : zeroTy Tryd.prog 27 5 = true := by kernel_rfl
theorem eg23 : Tryd.prog.eqGuardType Tryd.prog.depth 23 = false := by kernel_rfl
def Tabs (B : World) (G : GMap) : Prop := U8 (Tryd.laysValid_ren.g 3) (Tryd.laysValid_ren.g 4) B G
theorem Tabs.mono {B : World} {G G1 : GMap} (h : Tabs B G) (hG : G.le G1) : Tabs B G1 := U8.mono h hG
end Go.Proofs.YtjmhhmljldjmjaaDoor.Gf
