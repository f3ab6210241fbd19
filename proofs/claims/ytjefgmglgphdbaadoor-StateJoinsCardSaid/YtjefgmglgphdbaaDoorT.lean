/- Types of this program as plain Lean types, and closed facts of its types. Written by gg.py of this repo. -/
import Derived.Test.YtjefgmglgphdbaaDoorV0
import Derived.Test.YtjefgmglgphdbaaDoorGgU
import Derived.Test.YtjefgmglgphdbaaDoorGgW
namespace Go.Proofs.YtjefgmglgphdbaaDoor.Gf
open Go Go.Gg
set_option linter.unusedSimpArgs false
set_option linter.unusedVariables false
structure T36 where
  f0 : Int
  f1 : Int
  f2 : Int
  f3 : Int
  f4 : Int
  f5 : Int
  f6 : Int
  f7 : ByteArray
  f8 : List Int
  deriving DecidableEq
def z36 : T36 := ⟨0, 0, 0, 0, 0, 0, 0, (⟨#[]⟩ : ByteArray), []⟩
def k36 : Kd T36 := kIso (fun x => (x.f0, x.f1, x.f2, x.f3, x.f4, x.f5, x.f6, x.f7, x.f8)) (kPair (kInt .i64) (kPair (kInt .i64) (kPair (kInt .i64) (kPair (kInt .i64) (kPair (kInt .i64) (kPair (kInt .i64) (kPair (kInt .i64) (kPair kStr (kSlice (kInt .i64))))))))))
def d36 : Dk T36 := dIso (fun x => (x.f0, x.f1, x.f2, x.f3, x.f4, x.f5, x.f6, x.f7, x.f8)) (dPair (dFlat (kInt .i64)) (dPair (dFlat (kInt .i64)) (dPair (dFlat (kInt .i64)) (dPair (dFlat (kInt .i64)) (dPair (dFlat (kInt .i64)) (dPair (dFlat (kInt .i64)) (dPair (dFlat (kInt .i64)) (dPair (dFlat kStr) (dSlice (kInt .i64))))))))))
structure T30 where
  f0 : Int
  f1 : Int
  deriving DecidableEq
def z30 : T30 := ⟨0, 0⟩
def k30 : Kd T30 := kFlat 2 (fun x => [.int .i64 x.f0, .int .i64 x.f1]) (fun _ => rfl) (fun _ => rfl)
theorem eqT30 (x y : T30) : [Lf.int x.f0 y.f0, Lf.int x.f1 y.f1].all Lf.ok = decide (x = y) := by
  obtain ⟨x0, x1⟩ := x
  obtain ⟨y0, y1⟩ := y
  rw [Bool.eq_iff_iff]
  simp [Lf.ok, toList_inj]
structure T34 where
  f0 : Int
  f1 : Int
  f2 : Int
  f3 : Int
  f4 : ByteArray
  deriving DecidableEq
def z34 : T34 := ⟨0, 0, 0, 0, (⟨#[]⟩ : ByteArray)⟩
def k34 : Kd T34 := kFlat 5 (fun x => [.int .i64 x.f0, .int .i64 x.f1, .int .i64 x.f2, .int .i64 x.f3, .string x.f4]) (fun _ => rfl) (fun _ => rfl)
theorem eqT34 (x y : T34) : [Lf.int x.f0 y.f0, Lf.int x.f1 y.f1, Lf.int x.f2 y.f2, Lf.int x.f3 y.f3, Lf.str x.f4 y.f4].all Lf.ok = decide (x = y) := by
  obtain ⟨x0, x1, x2, x3, x4⟩ := x
  obtain ⟨y0, y1, y2, y3, y4⟩ := y
  rw [Bool.eq_iff_iff]
  simp [Lf.ok, toList_inj]
def m61 : Mk T30 T34 := ⟨fun x => .agg #[.int .i64 x.f0, .int .i64 x.f1], fun x => .agg #[.int .i64 x.f0, .int .i64 x.f1, .int .i64 x.f2, .int .i64 x.f3, .string x.f4]⟩
theorem ko61 : KeyOK Tryd.prog 30 m61.key := KeyOK.agg (fun a b => [.int a.f0 b.f0, .int a.f1 b.f1]) (fun a => by kernel_rfl) (fun a => by kernel_rfl) (fun a b => by kernel_rfl) (fun a b => eqT30 a b) Tryd.underlying30 (fun a b => rfl) (fun a => by simp [m61, Instr.sameBits])
structure T63 where
  f0 : List Int
  f1 : List Int
  f2 : (T30 → Option T34)
def z63 : T63 := ⟨[], [], fnil⟩
structure T32 where
  f0 : Int
  f1 : Int
  deriving DecidableEq
def z32 : T32 := ⟨0, 0⟩
def k32 : Kd T32 := kFlat 2 (fun x => [.int .i64 x.f0, .int .i64 x.f1]) (fun _ => rfl) (fun _ => rfl)
theorem eqT32 (x y : T32) : [Lf.int x.f0 y.f0, Lf.int x.f1 y.f1].all Lf.ok = decide (x = y) := by
  obtain ⟨x0, x1⟩ := x
  obtain ⟨y0, y1⟩ := y
  rw [Bool.eq_iff_iff]
  simp [Lf.ok, toList_inj]
structure T83 where
  f0 : Int
  f1 : Int
  f2 : Int
  deriving DecidableEq
def z83 : T83 := ⟨0, 0, 0⟩
def k83 : Kd T83 := kFlat 3 (fun x => [.int .i64 x.f0, .int .i64 x.f1, .int .i64 x.f2]) (fun _ => rfl) (fun _ => rfl)
theorem eqT83 (x y : T83) : [Lf.int x.f0 y.f0, Lf.int x.f1 y.f1, Lf.int x.f2 y.f2].all Lf.ok = decide (x = y) := by
  obtain ⟨x0, x1, x2⟩ := x
  obtain ⟨y0, y1, y2⟩ := y
  rw [Bool.eq_iff_iff]
  simp [Lf.ok, toList_inj]
theorem sl27 : sliceTy Tryd.prog 27 = some (3, 1, 8) := by kernel_rfl
theorem sz34 : (Tryd.prog.info? 34).map (·.size) = some 5 := by kernel_rfl
theorem ag34 : aggTy Tryd.prog 34 = some (true, 5) := by kernel_rfl
theorem mo : Tryd.prog.follows .mixedOrders = true := by kernel_rfl
theorem ag3 : aggTy Tryd.prog 3 = some (false, 1) := by kernel_rfl
theorem ag32 : aggTy Tryd.prog 32 = some (true, 2) := by kernel_rfl
theorem ag9 : aggTy Tryd.prog 9 = some (false, 1) := by kernel_rfl
theorem ag27 : aggTy Tryd.prog 27 = some (false, 1) := by kernel_rfl
theorem ag61 : aggTy Tryd.prog 61 = some (false, 1) := by kernel_rfl
theorem ag30 : aggTy Tryd.prog 30 = some (true, 2) := by kernel_rfl
theorem mt61 : mapTy Tryd.prog 61 = some (30, 34) := by kernel_rfl
theorem mz61 : (Tryd.prog.info? 34).bind (·.zero) = some (m61.val z34) := by kernel_rfl
theorem sz3 : (Tryd.prog.info? 3).map (·.size) = some 1 := by kernel_rfl
theorem nt27 : intTy Tryd.prog 27 = true := by kernel_rfl
theorem ze3 : zeroTy Tryd.prog 3 1 = true := by kernel_rfl
theorem sl80 : sliceTy Tryd.prog 80 = some (83, 3, 24) := by kernel_rfl
theorem ze83 : zeroTy Tryd.prog 83 3 = true := by kernel_rfl
theorem nt80 : intTy Tryd.prog 80 = true := by kernel_rfl
theorem ag83 : aggTy Tryd.prog 83 = some (true, 3) := by kernel_rfl
theorem sz83 : (Tryd.prog.info? 83).map (·.size) = some 3 := by kernel_rfl
theorem sl45 : sliceTy Tryd.prog 45 = some (34, 5, 48) := by kernel_rfl
theorem ze34 : zeroTy Tryd.prog 34 5 = true := by kernel_rfl
theorem nt45 : intTy Tryd.prog 45 = true := by kernel_rfl
theorem ag23 : aggTy Tryd.prog 23 = some (false, 1) := by kernel_rfl
theorem sl50 : sliceTy Tryd.prog 50 = some (27, 1, 24) := by kernel_rfl
theorem sz27 : (Tryd.prog.info? 27).map (·.size) = some 1 := by kernel_rfl
theorem sz30 : (Tryd.prog.info? 30).map (·.size) = some 2 := by kernel_rfl
theorem eg34 : Tryd.prog.eqGuardType Tryd.prog.depth 34 = false := by kernel_rfl
theorem sl22 : sliceTy Tryd.prog 22 = some (36, 9, 96) := by kernel_rfl
theorem fi36_3 : fieldTy Tryd.prog 36 3 = some 3 := by kernel_rfl
theorem fi34_2 : fieldTy Tryd.prog 34 2 = some 4 := by kernel_rfl
theorem fi36_4 : fieldTy Tryd.prog 36 4 = some 8 := by kernel_rfl
theorem ag36 : aggTy Tryd.prog 36 = some (true, 9) := by kernel_rfl
theorem sl52 : sliceTy Tryd.prog 52 = some (23, 1, 8) := by kernel_rfl
theorem fi34_0 : fieldTy Tryd.prog 34 0 = some 0 := by kernel_rfl
theorem fi30_0 : fieldTy Tryd.prog 30 0 = some 0 := by kernel_rfl
theorem fi30_1 : fieldTy Tryd.prog 30 1 = some 1 := by kernel_rfl
def Tabs (B : World) (G : GMap) : Prop := U8 (Tryd.laysValid_ren.g 3) (Tryd.laysValid_ren.g 4) B G
theorem Tabs.mono {B : World} {G G1 : GMap} (h : Tabs B G) (hG : G.le G1) : Tabs B G1 := U8.mono h hG
theorem Tabs.start {W : World} (h : Lib.Utf8Tabs (Tryd.laysValid_ren.g 3) (Tryd.laysValid_ren.g 4) W) : Tabs W (heapG W) := U8.start h
theorem Tabs.u8 {B : World} {G : GMap} {Γ : List Chunk} {W : World} (h : Tabs B G) (hI : Inv B G Γ W) : Lib.Utf8Tabs (Tryd.laysValid_ren.g 3) (Tryd.laysValid_ren.g 4) W := h _ _ hI
end Go.Proofs.YtjefgmglgphdbaaDoor.Gf
