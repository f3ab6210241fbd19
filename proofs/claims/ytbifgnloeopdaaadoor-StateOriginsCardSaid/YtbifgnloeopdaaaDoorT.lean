/- Types of this program as plain Lean types, and closed facts of its types. Written by gg.py of this repo. -/
import Derived.Test.YtbifgnloeopdaaaDoorV0
import Derived.Test.YtbifgnloeopdaaaDoorGgU
import Derived.Test.YtbifgnloeopdaaaDoorGgO
namespace Go.Proofs.YtbifgnloeopdaaaDoor.Gf
open Go Go.Gg
set_option linter.unusedSimpArgs false
set_option linter.unusedVariables false
structure T36 where
 f0 : Int
 f1 : Int
 f2 : Int
 f3 : Int
 f4 : Int
 f5 : Int
 f6 : Int
 f7 : ByteArray
 f8 : List Int
 deriving DecidableEq
def z36 : T36 := ⟨0, 0, 0, 0, 0, 0, 0, (⟨#[]⟩ : ByteArray), []⟩
def k36 : Kd T36 := kIso (fun x => (x.f0, x.f1, x.f2, x.f3, x.f4, x.f5, x.f6, x.f7, x.f8)) (kPair (kInt .i64) (kPair (kInt .i64) (kPair (kInt .i64) (kPair (kInt .i64) (kPair (kInt .i64) (kPair (kInt .i64) (kPair (kInt .i64) (kPair kStr (kSlice (kInt .i64))))))))))
structure T29 where
 f0 : Int
 f1 : Int
 deriving DecidableEq
def k29 : Kd T29 := kFlat 2 (fun x => [.int .i64 x.f0, .int .i64 x.f1]) (fun _ => rfl) (fun _ => rfl)
theorem eqT29 (x y : T29) : [Lf.int x.f0 y.f0, Lf.int x.f1 y.f1].all Lf.ok = decide (x = y) := by
 obtain ⟨x0, x1⟩ := x; obtain ⟨y0, y1⟩ := y; rw [Bool.eq_iff_iff]; simp [Lf.ok, toList_inj]
structure T33 where
 f0 : Int
 f1 : Int
 f2 : Int
 f3 : Int
 f4 : ByteArray
 deriving DecidableEq
def z33 : T33 := ⟨0, 0, 0, 0, (⟨#[]⟩ : ByteArray)⟩
def k33 : Kd T33 := kFlat 5 (fun x => [.int .i64 x.f0, .int .i64 x.f1, .int .i64 x.f2, .int .i64 x.f3, .string x.f4]) (fun _ => rfl) (fun _ => rfl)
theorem eqT33 (x y : T33) : [Lf.int x.f0 y.f0, Lf.int x.f1 y.f1, Lf.int x.f2 y.f2, Lf.int x.f3 y.f3, Lf.str x.f4 y.f4].all Lf.ok = decide (x = y) := by
 obtain ⟨x0, x1, x2, x3, x4⟩ := x; obtain ⟨y0, y1, y2, y3, y4⟩ := y; rw [Bool.eq_iff_iff]; simp [Lf.ok, toList_inj]
def m44 : Mk T29 T33 := ⟨fun x => .agg #[.int .i64 x.f0, .int .i64 x.f1], fun x => .agg #[.int .i64 x.f0, .int .i64 x.f1, .int .i64 x.f2, .int .i64 x.f3, .string x.f4]⟩
theorem ko44 : KeyOK Tryd.prog 29 m44.key := KeyOK.agg (fun a b => [.int a.f0 b.f0, .int a.f1 b.f1]) (fun a => by kernel_rfl) (fun a => by kernel_rfl) (fun a b => by kernel_rfl) (fun a b => eqT29 a b) Tryd.underlying29 (fun a b => rfl) (fun a => by simp [m44, Instr.sameBits])
structure T46 where
 f0 : List Int
 f1 : List Int
 f2 : (T29 → Option T33)
def z46 : T46 := ⟨[], [], fnil⟩
structure T31 where
 f0 : Int
 f1 : Int
 deriving DecidableEq
def k31 : Kd T31 := kFlat 2 (fun x => [.int .i64 x.f0, .int .i64 x.f1]) (fun _ => rfl) (fun _ => rfl)
structure T73 where
 f0 : Int
 f1 : Int
 f2 : Int
 deriving DecidableEq
def z73 : T73 := ⟨0, 0, 0⟩
def k73 : Kd T73 := kFlat 3 (fun x => [.int .i64 x.f0, .int .i64 x.f1, .int .i64 x.f2]) (fun _ => rfl) (fun _ => rfl)
def d23 : Dk T46 := dPtr (dIso (fun x => (x.f0, x.f1, x.f2)) (dPair (dSlice (kInt .i64)) (dPair (dSlice (kInt .i64)) (dMapF m44)))) 46
theorem sl34 : sliceTy Tryd.prog 34 = some (3, 1, 8) := by kernel_rfl
theorem sz33 : (Tryd.prog.info? 33).map (·.size) = some 5 := by kernel_rfl
theorem ag33 : aggTy Tryd.prog 33 = some (true, 5) := by kernel_rfl
theorem mo : Tryd.prog.follows .mixedOrders = true := by kernel_rfl
theorem ag3 : aggTy Tryd.prog 3 = some (false, 1) := by kernel_rfl
theorem ag31 : aggTy Tryd.prog 31 = some (true, 2) := by kernel_rfl
theorem ag9 : aggTy Tryd.prog 9 = some (false, 1) := by kernel_rfl
theorem ag34 : aggTy Tryd.prog 34 = some (false, 1) := by kernel_rfl
theorem ag44 : aggTy Tryd.prog 44 = some (false, 1) := by kernel_rfl
theorem ag29 : aggTy Tryd.prog 29 = some (true, 2) := by kernel_rfl
theorem mt44 : mapTy Tryd.prog 44 = some (29, 33) := by kernel_rfl
theorem mz44 : (Tryd.prog.info? 33).bind (·.zero) = some (m44.val z33) := by kernel_rfl
theorem sz3 : (Tryd.prog.info? 3).map (·.size) = some 1 := by kernel_rfl
theorem nt34 : intTy Tryd.prog 34 = true := by kernel_rfl
theorem ze3 : zeroTy Tryd.prog 3 1 = true := by kernel_rfl
theorem sl70 : sliceTy Tryd.prog 70 = some (73, 3, 24) := by kernel_rfl
theorem ze73 : zeroTy Tryd.prog 73 3 = true := by kernel_rfl
theorem nt70 : intTy Tryd.prog 70 = true := by kernel_rfl
theorem ag73 : aggTy Tryd.prog 73 = some (true, 3) := by kernel_rfl
theorem sz73 : (Tryd.prog.info? 73).map (·.size) = some 3 := by kernel_rfl
theorem sl50 : sliceTy Tryd.prog 50 = some (33, 5, 48) := by kernel_rfl
theorem ze33 : zeroTy Tryd.prog 33 5 = true := by kernel_rfl
theorem nt50 : intTy Tryd.prog 50 = true := by kernel_rfl
theorem ag23 : aggTy Tryd.prog 23 = some (false, 1) := by kernel_rfl
theorem sl65 : sliceTy Tryd.prog 65 = some (34, 1, 24) := by kernel_rfl
theorem sz34 : (Tryd.prog.info? 34).map (·.size) = some 1 := by kernel_rfl
theorem sz29 : (Tryd.prog.info? 29).map (·.size) = some 2 := by kernel_rfl
theorem eg33 : Tryd.prog.eqGuardType Tryd.prog.depth 33 = false := by kernel_rfl
theorem sl22 : sliceTy Tryd.prog 22 = some (36, 9, 96) := by kernel_rfl
theorem fi36_3 : fieldTy Tryd.prog 36 3 = some 3 := by kernel_rfl
theorem fi33_2 : fieldTy Tryd.prog 33 2 = some 4 := by kernel_rfl
theorem fi36_4 : fieldTy Tryd.prog 36 4 = some 8 := by kernel_rfl
theorem sl27 : sliceTy Tryd.prog 27 = some (23, 1, 8) := by kernel_rfl
theorem ze23 : zeroTy Tryd.prog 23 1 = true := by kernel_rfl
theorem nt27 : intTy Tryd.prog 27 = true := by kernel_rfl
theorem ag36 : aggTy Tryd.prog 36 = some (true, 9) := by kernel_rfl
theorem sz36 : (Tryd.prog.info? 36).map (·.size) = some 9 := by kernel_rfl
def Tabs (B : World) (G : GMap) : Prop := U8 (Tryd.laysValid_ren.g 3) (Tryd.laysValid_ren.g 4) B G
theorem Tabs.mono {B : World} {G G1 : GMap} (h : Tabs B G) (hG : G.le G1) : Tabs B G1 := U8.mono h hG
theorem Tabs.start {W : World} (h : Lib.Utf8Tabs (Tryd.laysValid_ren.g 3) (Tryd.laysValid_ren.g 4) W) : Tabs W (heapG W) := U8.start h
theorem Tabs.u8 {B : World} {G : GMap} {Γ : List Chunk} {W : World} (h : Tabs B G) (hI : Inv B G Γ W) : Lib.Utf8Tabs (Tryd.laysValid_ren.g 3) (Tryd.laysValid_ren.g 4) W := h _ _ hI
abbrev v33 (x : T33) : Array Value := #[.int .i64 x.f0, .int .i64 x.f1, .int .i64 x.f2, .int .i64 x.f3, .string x.f4]
end Go.Proofs.YtbifgnloeopdaaaDoor.Gf
