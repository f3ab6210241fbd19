/- Types of this program as plain Lean types, and closed facts of its types. Written by gg.py of this repo. -/
import Derived.Test.YtfocilpnbiciaaaDoorV0
import Derived.Test.YtfocilpnbiciaaaDoorGgU
namespace Go.Proofs.YtfocilpnbiciaaaDoor.Gf
open Go Go.Gg
set_option linter.unusedSimpArgs false
set_option linter.unusedVariables false
structure T35 where
  f0 : Int
  f1 : Int
  deriving DecidableEq
def z35 : T35 := ⟨0, 0⟩
def k35 : Kd T35 := kFlat 2 (fun x => [.int .i64 x.f0, .int .i64 x.f1]) (fun _ => rfl) (fun _ => rfl)
theorem eqT35 (x y : T35) : [Lf.int x.f0 y.f0, Lf.int x.f1 y.f1].all Lf.ok = decide (x = y) := by
  obtain ⟨x0, x1⟩ := x
  obtain ⟨y0, y1⟩ := y
  rw [Bool.eq_iff_iff]
  simp [Lf.ok, toList_inj]
structure T37 where
  f0 : Int
  f1 : Int
  deriving DecidableEq
def z37 : T37 := ⟨0, 0⟩
def k37 : Kd T37 := kFlat 2 (fun x => [.int .i64 x.f0, .int .i64 x.f1]) (fun _ => rfl) (fun _ => rfl)
theorem eqT37 (x y : T37) : [Lf.int x.f0 y.f0, Lf.int x.f1 y.f1].all Lf.ok = decide (x = y) := by
  obtain ⟨x0, x1⟩ := x
  obtain ⟨y0, y1⟩ := y
  rw [Bool.eq_iff_iff]
  simp [Lf.ok, toList_inj]
structure T39 where
  f0 : Int
  f1 : Int
  f2 : Int
  f3 : Int
  f4 : ByteArray
  deriving DecidableEq
def z39 : T39 := ⟨0, 0, 0, 0, (⟨#[]⟩ : ByteArray)⟩
def k39 : Kd T39 := kFlat 5 (fun x => [.int .i64 x.f0, .int .i64 x.f1, .int .i64 x.f2, .int .i64 x.f3, .string x.f4]) (fun _ => rfl) (fun _ => rfl)
theorem eqT39 (x y : T39) : [Lf.int x.f0 y.f0, Lf.int x.f1 y.f1, Lf.int x.f2 y.f2, Lf.int x.f3 y.f3, Lf.str x.f4 y.f4].all Lf.ok = decide (x = y) := by
  obtain ⟨x0, x1, x2, x3, x4⟩ := x
  obtain ⟨y0, y1, y2, y3, y4⟩ := y
  rw [Bool.eq_iff_iff]
  simp [Lf.ok, toList_inj]
structure T41 where
  f0 : Int
  f1 : List Int
  f2 : List Int
  f3 : Int
  f4 : Int
  f5 : Int
  f6 : Int
  f7 : ByteArray
  deriving DecidableEq
def z41 : T41 := ⟨0, [], [], 0, 0, 0, 0, (⟨#[]⟩ : ByteArray)⟩
def k41 : Kd T41 := kIso (fun x => (x.f0, x.f1, x.f2, x.f3, x.f4, x.f5, x.f6, x.f7)) (kPair (kInt .i64) (kPair (kSlice (kInt .i64)) (kPair (kSlice (kInt .i64)) (kPair (kInt .i64) (kPair (kInt .i64) (kPair (kInt .i64) (kPair (kInt .i64) kStr)))))))
def d41 : Dk T41 := dIso (fun x => (x.f0, x.f1, x.f2, x.f3, x.f4, x.f5, x.f6, x.f7)) (dPair (dFlat (kInt .i64)) (dPair (dSlice (kInt .i64)) (dPair (dSlice (kInt .i64)) (dPair (dFlat (kInt .i64)) (dPair (dFlat (kInt .i64)) (dPair (dFlat (kInt .i64)) (dPair (dFlat (kInt .i64)) (dFlat kStr))))))))
structure T54 where
  f0 : Int
  f1 : Int
  f2 : Int
  f3 : List Int
  f4 : List Int
  f5 : List T39
  deriving DecidableEq
def z54 : T54 := ⟨0, 0, 0, [], [], []⟩
def k54 : Kd T54 := kIso (fun x => (x.f0, x.f1, x.f2, x.f3, x.f4, x.f5)) (kPair (kInt .i64) (kPair (kInt .i64) (kPair (kInt .i64) (kPair (kSlice (kInt .i64)) (kPair (kSlice (kInt .i64)) (kSlice k39))))))
def d54 : Dk T54 := dIso (fun x => (x.f0, x.f1, x.f2, x.f3, x.f4, x.f5)) (dPair (dFlat (kInt .i64)) (dPair (dFlat (kInt .i64)) (dPair (dFlat (kInt .i64)) (dPair (dSlice (kInt .i64)) (dPair (dSlice (kInt .i64)) (dSlice k39))))))
structure T73 where
  f0 : List Int
  f1 : Bool
  deriving DecidableEq
def z73 : T73 := ⟨[], false⟩
def k73 : Kd T73 := kIso (fun x => (x.f0, x.f1)) (kPair (kSlice (kInt .u8)) kBool)
def d73 : Dk T73 := dIso (fun x => (x.f0, x.f1)) (dPair (dSlice (kInt .u8)) (dFlat kBool))
structure T101 where
  f0 : List Int
  f1 : Int
  f2 : Int
  f3 : Int
  f4 : Int
  f5 : List Int
  f6 : List Int
  f7 : List T39
  deriving DecidableEq
def z101 : T101 := ⟨[], 0, 0, 0, 0, [], [], []⟩
def k101 : Kd T101 := kIso (fun x => (x.f0, x.f1, x.f2, x.f3, x.f4, x.f5, x.f6, x.f7)) (kPair (kSlice (kInt .u8)) (kPair (kInt .i64) (kPair (kInt .i64) (kPair (kInt .i64) (kPair (kInt .i64) (kPair (kSlice (kInt .i64)) (kPair (kSlice (kInt .i64)) (kSlice k39))))))))
def d101 : Dk T101 := dIso (fun x => (x.f0, x.f1, x.f2, x.f3, x.f4, x.f5, x.f6, x.f7)) (dPair (dSlice (kInt .u8)) (dPair (dFlat (kInt .i64)) (dPair (dFlat (kInt .i64)) (dPair (dFlat (kInt .i64)) (dPair (dFlat (kInt .i64)) (dPair (dSlice (kInt .i64)) (dPair (dSlice (kInt .i64)) (dSlice k39))))))))
theorem sz41 : (Tryd.prog.info? 41).map (·.size) = some 8 := by kernel_rfl
theorem ag41 : aggTy Tryd.prog 41 = some (true, 8) := by kernel_rfl
theorem ag39 : aggTy Tryd.prog 39 = some (true, 5) := by kernel_rfl
theorem eg39 : Tryd.prog.eqGuardType Tryd.prog.depth 39 = false := by kernel_rfl
theorem ag3 : aggTy Tryd.prog 3 = some (false, 1) := by kernel_rfl
theorem ag32 : aggTy Tryd.prog 32 = some (false, 1) := by kernel_rfl
theorem sl32 : sliceTy Tryd.prog 32 = some (3, 1, 8) := by kernel_rfl
theorem mo : Tryd.prog.follows .mixedOrders = true := by kernel_rfl
theorem ag37 : aggTy Tryd.prog 37 = some (true, 2) := by kernel_rfl
theorem ag9 : aggTy Tryd.prog 9 = some (false, 1) := by kernel_rfl
theorem sl22 : sliceTy Tryd.prog 22 = some (5, 1, 1) := by kernel_rfl
theorem ze5 : zeroTy Tryd.prog 5 1 = true := by kernel_rfl
theorem nt22 : intTy Tryd.prog 22 = true := by kernel_rfl
theorem sl121 : sliceTy Tryd.prog 121 = some (22, 1, 24) := by kernel_rfl
theorem ag22 : aggTy Tryd.prog 22 = some (false, 1) := by kernel_rfl
theorem ag5 : aggTy Tryd.prog 5 = some (false, 1) := by kernel_rfl
theorem nt9 : intTy Tryd.prog 9 = true := by kernel_rfl
theorem sz5 : (Tryd.prog.info? 5).map (·.size) = some 1 := by kernel_rfl
theorem sz4 : (Tryd.prog.info? 4).map (·.size) = some 1 := by kernel_rfl
theorem ze3 : zeroTy Tryd.prog 3 1 = true := by kernel_rfl
theorem nt32 : intTy Tryd.prog 32 = true := by kernel_rfl
theorem sz22 : (Tryd.prog.info? 22).map (·.size) = some 1 := by kernel_rfl
theorem sz32 : (Tryd.prog.info? 32).map (·.size) = some 1 := by kernel_rfl
theorem ag4 : aggTy Tryd.prog 4 = some (false, 1) := by kernel_rfl
theorem sz39 : (Tryd.prog.info? 39).map (·.size) = some 5 := by kernel_rfl
theorem sz3 : (Tryd.prog.info? 3).map (·.size) = some 1 := by kernel_rfl
theorem by22 : bytesTy Tryd.prog 22 = true := by kernel_rfl
theorem st9 : Tryd.prog.underlying 9 = some .string := by kernel_rfl
theorem sz9 : (Tryd.prog.info? 9).map (·.size) = some 1 := by kernel_rfl
theorem sl25 : sliceTy Tryd.prog 25 = some (41, 8, 104) := by kernel_rfl
theorem ze41 : zeroTy Tryd.prog 41 8 = true := by kernel_rfl
theorem nt25 : intTy Tryd.prog 25 = true := by kernel_rfl
theorem ag35 : aggTy Tryd.prog 35 = some (true, 2) := by kernel_rfl
theorem fi41_0 : fieldTy Tryd.prog 41 0 = some 0 := by kernel_rfl
theorem fi41_3 : fieldTy Tryd.prog 41 3 = some 3 := by kernel_rfl
theorem fi41_1 : fieldTy Tryd.prog 41 1 = some 1 := by kernel_rfl
theorem fi41_2 : fieldTy Tryd.prog 41 2 = some 2 := by kernel_rfl
theorem ag54 : aggTy Tryd.prog 54 = some (true, 6) := by kernel_rfl
theorem ag52 : aggTy Tryd.prog 52 = some (false, 1) := by kernel_rfl
theorem sl52 : sliceTy Tryd.prog 52 = some (39, 5, 48) := by kernel_rfl
theorem fi39_2 : fieldTy Tryd.prog 39 2 = some 4 := by kernel_rfl
theorem sz54 : (Tryd.prog.info? 54).map (·.size) = some 6 := by kernel_rfl
theorem fi39_0 : fieldTy Tryd.prog 39 0 = some 0 := by kernel_rfl
theorem sl117 : sliceTy Tryd.prog 117 = some (32, 1, 24) := by kernel_rfl
theorem i63 : Tryd.prog.underlying 3 = some (.int .i64) := by kernel_rfl
theorem ze39 : zeroTy Tryd.prog 39 5 = true := by kernel_rfl
theorem nt52 : intTy Tryd.prog 52 = true := by kernel_rfl
theorem sz52 : (Tryd.prog.info? 52).map (·.size) = some 1 := by kernel_rfl
theorem fi35_0 : fieldTy Tryd.prog 35 0 = some 0 := by kernel_rfl
def Tabs (B : World) (G : GMap) : Prop := U8 (Tryd.laysValid_ren.g 3) (Tryd.laysValid_ren.g 4) B G
theorem Tabs.mono {B : World} {G G1 : GMap} (h : Tabs B G) (hG : G.le G1) : Tabs B G1 := U8.mono h hG
end Go.Proofs.YtfocilpnbiciaaaDoor.Gf
