/- Types of this program as plain Lean types, and closed facts of its types. Written by gg.py of this repo. -/
import Derived.Test.YtajhihpaccggdaaDoorV0
import Derived.Test.YtajhihpaccggdaaDoorGgU
import Derived.Test.YtajhihpaccggdaaDoorGgR
namespace Go.Proofs.YtajhihpaccggdaaDoor.Gf
open Go Go.Gg
set_option linter.unusedSimpArgs false
set_option linter.unusedVariables false
structure T38 where
  f0 : Bool
  f1 : Int
  f2 : Int
  f3 : Int
  f4 : Int
  f5 : ByteArray
  deriving DecidableEq
def z38 : T38 := ⟨false, 0, 0, 0, 0, (⟨#[]⟩ : ByteArray)⟩
def k38 : Kd T38 := kFlat 6 (fun x => [.bool x.f0, .int .i64 x.f1, .int .i64 x.f2, .int .i64 x.f3, .int .i64 x.f4, .string x.f5]) (fun _ => rfl) (fun _ => rfl)
theorem eqT38 (x y : T38) : [Lf.bool x.f0 y.f0, Lf.int x.f1 y.f1, Lf.int x.f2 y.f2, Lf.int x.f3 y.f3, Lf.int x.f4 y.f4, Lf.str x.f5 y.f5].all Lf.ok = decide (x = y) := by
  obtain ⟨x0, x1, x2, x3, x4, x5⟩ := x
  obtain ⟨y0, y1, y2, y3, y4, y5⟩ := y
  rw [Bool.eq_iff_iff]
  simp [Lf.ok, toList_inj]
structure T32 where
  f0 : Int
  f1 : Int
  deriving DecidableEq
def z32 : T32 := ⟨0, 0⟩
def k32 : Kd T32 := kFlat 2 (fun x => [.int .i64 x.f0, .int .i64 x.f1]) (fun _ => rfl) (fun _ => rfl)
theorem eqT32 (x y : T32) : [Lf.int x.f0 y.f0, Lf.int x.f1 y.f1].all Lf.ok = decide (x = y) := by
  obtain ⟨x0, x1⟩ := x
  obtain ⟨y0, y1⟩ := y
  rw [Bool.eq_iff_iff]
  simp [Lf.ok, toList_inj]
structure T103 where
  f0 : Int
  f1 : Int
  f2 : Int
  f3 : Int
  f4 : ByteArray
  f5 : Int
  deriving DecidableEq
def z103 : T103 := ⟨0, 0, 0, 0, (⟨#[]⟩ : ByteArray), 0⟩
def k103 : Kd T103 := kFlat 6 (fun x => [.int .i64 x.f0, .int .i64 x.f1, .int .i64 x.f2, .int .i64 x.f3, .string x.f4, .int .u64 x.f5]) (fun _ => rfl) (fun _ => rfl)
theorem eqT103 (x y : T103) : [Lf.int x.f0 y.f0, Lf.int x.f1 y.f1, Lf.int x.f2 y.f2, Lf.int x.f3 y.f3, Lf.str x.f4 y.f4, Lf.int x.f5 y.f5].all Lf.ok = decide (x = y) := by
  obtain ⟨x0, x1, x2, x3, x4, x5⟩ := x
  obtain ⟨y0, y1, y2, y3, y4, y5⟩ := y
  rw [Bool.eq_iff_iff]
  simp [Lf.ok, toList_inj]
def m94 : Mk T32 T103 := ⟨fun x => .agg #[.int .i64 x.f0, .int .i64 x.f1], fun x => .agg #[.int .i64 x.f0, .int .i64 x.f1, .int .i64 x.f2, .int .i64 x.f3, .string x.f4, .int .u64 x.f5]⟩
theorem ko94 : KeyOK Tryd.prog 32 m94.key := KeyOK.agg (fun a b => [.int a.f0 b.f0, .int a.f1 b.f1]) (fun a => by kernel_rfl) (fun a => by kernel_rfl) (fun a b => by kernel_rfl) (fun a b => eqT32 a b) Tryd.underlying32 (fun a b => rfl) (fun a => by simp [m94, Instr.sameBits])
structure T130 where
  f0 : Int
  f1 : Int
  f2 : Int
  deriving DecidableEq
def z130 : T130 := ⟨0, 0, 0⟩
def k130 : Kd T130 := kFlat 3 (fun x => [.int .i64 x.f0, .int .i64 x.f1, .int .i64 x.f2]) (fun _ => rfl) (fun _ => rfl)
theorem eqT130 (x y : T130) : [Lf.int x.f0 y.f0, Lf.int x.f1 y.f1, Lf.int x.f2 y.f2].all Lf.ok = decide (x = y) := by
  obtain ⟨x0, x1, x2⟩ := x
  obtain ⟨y0, y1, y2⟩ := y
  rw [Bool.eq_iff_iff]
  simp [Lf.ok, toList_inj]
def m95 : Mk T130 Int := ⟨fun x => .agg #[.int .i64 x.f0, .int .i64 x.f1, .int .i64 x.f2], fun x => .int .i64 x⟩
theorem ko95 : KeyOK Tryd.prog 130 m95.key := KeyOK.agg (fun a b => [.int a.f0 b.f0, .int a.f1 b.f1, .int a.f2 b.f2]) (fun a => by kernel_rfl) (fun a => by kernel_rfl) (fun a b => by kernel_rfl) (fun a b => eqT130 a b) Tryd.underlying130 (fun a b => rfl) (fun a => by simp [m95, Instr.sameBits])
structure T97 where
  f0 : List (T32 × T103)
  f1 : List (T130 × Int)
  deriving DecidableEq
def z97 : T97 := ⟨[], []⟩
structure T36 where
  f0 : Int
  f1 : Int
  f2 : Int
  f3 : Int
  f4 : ByteArray
  deriving DecidableEq
def z36 : T36 := ⟨0, 0, 0, 0, (⟨#[]⟩ : ByteArray)⟩
def k36 : Kd T36 := kFlat 5 (fun x => [.int .i64 x.f0, .int .i64 x.f1, .int .i64 x.f2, .int .i64 x.f3, .string x.f4]) (fun _ => rfl) (fun _ => rfl)
theorem eqT36 (x y : T36) : [Lf.int x.f0 y.f0, Lf.int x.f1 y.f1, Lf.int x.f2 y.f2, Lf.int x.f3 y.f3, Lf.str x.f4 y.f4].all Lf.ok = decide (x = y) := by
  obtain ⟨x0, x1, x2, x3, x4⟩ := x
  obtain ⟨y0, y1, y2, y3, y4⟩ := y
  rw [Bool.eq_iff_iff]
  simp [Lf.ok, toList_inj]
structure T34 where
  f0 : Int
  f1 : Int
  deriving DecidableEq
def z34 : T34 := ⟨0, 0⟩
def k34 : Kd T34 := kFlat 2 (fun x => [.int .i64 x.f0, .int .i64 x.f1]) (fun _ => rfl) (fun _ => rfl)
theorem eqT34 (x y : T34) : [Lf.int x.f0 y.f0, Lf.int x.f1 y.f1].all Lf.ok = decide (x = y) := by
  obtain ⟨x0, x1⟩ := x
  obtain ⟨y0, y1⟩ := y
  rw [Bool.eq_iff_iff]
  simp [Lf.ok, toList_inj]
structure T30 where
  f0 : List T36
  deriving DecidableEq
def z30 : T30 := ⟨[]⟩
def k30 : Kd T30 := kIso (fun x => (x.f0)) (kSlice k36)
def d30 : Dk T30 := dIso (fun x => (x.f0)) (dSlice k36)
theorem sl22 : sliceTy Tryd.prog 22 = some (38, 6, 56) := by kernel_rfl
theorem fi38_1 : fieldTy Tryd.prog 38 1 = some 1 := by kernel_rfl
theorem fi36_2 : fieldTy Tryd.prog 36 2 = some 4 := by kernel_rfl
theorem ag9 : aggTy Tryd.prog 9 = some (false, 1) := by kernel_rfl
theorem sz36 : (Tryd.prog.info? 36).map (·.size) = some 5 := by kernel_rfl
theorem ag36 : aggTy Tryd.prog 36 = some (true, 5) := by kernel_rfl
theorem sl28 : sliceTy Tryd.prog 28 = some (36, 5, 48) := by kernel_rfl
theorem ag3 : aggTy Tryd.prog 3 = some (false, 1) := by kernel_rfl
theorem ag34 : aggTy Tryd.prog 34 = some (true, 2) := by kernel_rfl
theorem mo : Tryd.prog.follows .mixedOrders = true := by kernel_rfl
theorem sl55 : sliceTy Tryd.prog 55 = some (5, 1, 1) := by kernel_rfl
theorem ze5 : zeroTy Tryd.prog 5 1 = true := by kernel_rfl
theorem nt55 : intTy Tryd.prog 55 = true := by kernel_rfl
theorem nt9 : intTy Tryd.prog 9 = true := by kernel_rfl
theorem ag94 : aggTy Tryd.prog 94 = some (false, 1) := by kernel_rfl
theorem ag32 : aggTy Tryd.prog 32 = some (true, 2) := by kernel_rfl
theorem mt94 : mapTy Tryd.prog 94 = some (32, 103) := by kernel_rfl
theorem mz94 : (Tryd.prog.info? 103).bind (·.zero) = some (m94.val z103) := by kernel_rfl
theorem sz103 : (Tryd.prog.info? 103).map (·.size) = some 6 := by kernel_rfl
theorem sl114 : sliceTy Tryd.prog 114 = some (55, 1, 24) := by kernel_rfl
theorem ag55 : aggTy Tryd.prog 55 = some (false, 1) := by kernel_rfl
theorem ag5 : aggTy Tryd.prog 5 = some (false, 1) := by kernel_rfl
theorem ag95 : aggTy Tryd.prog 95 = some (false, 1) := by kernel_rfl
theorem mt95 : mapTy Tryd.prog 95 = some (130, 3) := by kernel_rfl
theorem mz95 : (Tryd.prog.info? 3).bind (·.zero) = some (m95.val 0) := by kernel_rfl
theorem sl53 : sliceTy Tryd.prog 53 = some (44, 1, 8) := by kernel_rfl
theorem ag44 : aggTy Tryd.prog 44 = some (false, 1) := by kernel_rfl
theorem ze44 : zeroTy Tryd.prog 44 1 = true := by kernel_rfl
theorem nt53 : intTy Tryd.prog 53 = true := by kernel_rfl
theorem sl41 : sliceTy Tryd.prog 41 = some (32, 2, 16) := by kernel_rfl
theorem sz32 : (Tryd.prog.info? 32).map (·.size) = some 2 := by kernel_rfl
theorem eg36 : Tryd.prog.eqGuardType Tryd.prog.depth 36 = false := by kernel_rfl
theorem ag38 : aggTy Tryd.prog 38 = some (true, 6) := by kernel_rfl
theorem sz38 : (Tryd.prog.info? 38).map (·.size) = some 6 := by kernel_rfl
theorem ag4 : aggTy Tryd.prog 4 = some (false, 1) := by kernel_rfl
theorem ag28 : aggTy Tryd.prog 28 = some (false, 1) := by kernel_rfl
theorem fi36_0 : fieldTy Tryd.prog 36 0 = some 0 := by kernel_rfl
theorem eg32 : Tryd.prog.eqGuardType Tryd.prog.depth 32 = false := by kernel_rfl
theorem ze36 : zeroTy Tryd.prog 36 5 = true := by kernel_rfl
theorem nt28 : intTy Tryd.prog 28 = true := by kernel_rfl
theorem sz28 : (Tryd.prog.info? 28).map (·.size) = some 1 := by kernel_rfl
theorem fi32_0 : fieldTy Tryd.prog 32 0 = some 0 := by kernel_rfl
theorem fi32_1 : fieldTy Tryd.prog 32 1 = some 1 := by kernel_rfl
theorem fi38_0 : fieldTy Tryd.prog 38 0 = some 0 := by kernel_rfl
def Tabs (B : World) (G : GMap) : Prop := U8 (Tryd.laysValid_ren.g 3) (Tryd.laysValid_ren.g 4) B G
theorem Tabs.mono {B : World} {G G1 : GMap} (h : Tabs B G) (hG : G.le G1) : Tabs B G1 := U8.mono h hG
end Go.Proofs.YtajhihpaccggdaaDoor.Gf
