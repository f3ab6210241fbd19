/- Types of this program as plain Lean types, and closed facts of its types. Written by gg.py of this repo. -/
import Derived.Test.YtcapnncebfgcfaaGreatDoorV0
import Derived.Test.YtcapnncebfgcfaaGreatDoorGgU
import Derived.Test.YtcapnncebfgcfaaGreatDoorGgW
import Derived.Test.YtcapnncebfgcfaaGreatDoorGgX
namespace Go.Proofs.YtcapnncebfgcfaaGreatDoor.Gf
open Go Go.Gg
set_option linter.unusedSimpArgs false
set_option linter.unusedVariables false
structure T32 where
  f0 : Int
  f1 : Int
  f2 : List ByteArray
  f3 : List T32
def z32 : T32 := ⟨0, 0, [], []⟩
def k32 : Kd T32 := (Fk.iso (fun x => (x.f0, x.f1, x.f2, x.f3)) (Fk.pair (kInt .i64) (Fk.pair (kInt .i64) (Fk.pair (kSlice kStr) Fk.slice)))).fix
def Ok32N : Nat → T32 → Prop
  | 0, _ => False
  | n + 1, x => (Lit.int .i64 x.f0).wf = true ∧ (Lit.int .i64 x.f1).wf = true ∧ (x.f2.length ≤ maxLen ∧ ∀ z0 ∈ x.f2, z0.size ≤ maxLen) ∧ (x.f3.length ≤ maxLen ∧ ∀ z ∈ x.f3, Ok32N n z)
def Ok32 (x : T32) : Prop := ∃ n, Ok32N n x
theorem k32_out {G : GMap} {x : T32} {cs : List Value} (h : k32.rel G x cs) : (kIso (fun x => (x.f0, x.f1, x.f2, x.f3)) (kPair (kInt .i64) (kPair (kInt .i64) (kPair (kSlice kStr) (kSlice k32)))) : Kd T32).rel G x cs := Fk.fix_out h
theorem k32_in {G : GMap} {x : T32} {cs : List Value} (h : (kIso (fun x => (x.f0, x.f1, x.f2, x.f3)) (kPair (kInt .i64) (kPair (kInt .i64) (kPair (kSlice kStr) (kSlice k32)))) : Kd T32).rel G x cs) : k32.rel G x cs := Fk.fix_in h
structure T40 where
  f0 : Int
  f1 : Int
  f2 : List ByteArray
  f3 : List T32
  f4 : Int
  f5 : Int
  f6 : Int
  f7 : Int
  f8 : Int
  f9 : ByteArray
def z40 : T40 := ⟨0, 0, [], [], 0, 0, 0, 0, 0, (⟨#[]⟩ : ByteArray)⟩
def k40 : Kd T40 := kIso (fun x => (x.f0, x.f1, x.f2, x.f3, x.f4, x.f5, x.f6, x.f7, x.f8, x.f9)) (kPair (kInt .i64) (kPair (kInt .i64) (kPair (kSlice kStr) (kPair (kSlice k32) (kPair (kInt .i64) (kPair (kInt .i64) (kPair (kInt .i64) (kPair (kInt .i64) (kPair (kInt .i64) kStr)))))))))
def d40 : Dk T40 := dIso (fun x => (x.f0, x.f1, x.f2, x.f3, x.f4, x.f5, x.f6, x.f7, x.f8, x.f9)) (dPair (dFlat (kInt .i64)) (dPair (dFlat (kInt .i64)) (dPair (dSlice kStr) (dPair (dSlice k32) (dPair (dFlat (kInt .i64)) (dPair (dFlat (kInt .i64)) (dPair (dFlat (kInt .i64)) (dPair (dFlat (kInt .i64)) (dPair (dFlat (kInt .i64)) (dFlat kStr))))))))))
structure T38 where
  f0 : Int
  f1 : Int
  f2 : Int
  f3 : Int
  f4 : ByteArray
  deriving DecidableEq
def z38 : T38 := ⟨0, 0, 0, 0, (⟨#[]⟩ : ByteArray)⟩
def k38 : Kd T38 := kFlat 5 (fun x => [.int .i64 x.f0, .int .i64 x.f1, .int .i64 x.f2, .int .i64 x.f3, .string x.f4]) (fun _ => rfl) (fun _ => rfl)
theorem eqT38 (x y : T38) : [Lf.int x.f0 y.f0, Lf.int x.f1 y.f1, Lf.int x.f2 y.f2, Lf.int x.f3 y.f3, Lf.str x.f4 y.f4].all Lf.ok = decide (x = y) := by
  obtain ⟨x0, x1, x2, x3, x4⟩ := x
  obtain ⟨y0, y1, y2, y3, y4⟩ := y
  rw [Bool.eq_iff_iff]
  simp [Lf.ok, toList_inj]
structure T27 where
  f0 : Int
  f1 : List T38
  f2 : List Int
  f3 : List Int
  deriving DecidableEq
def z27 : T27 := ⟨0, [], [], []⟩
def k27 : Kd T27 := kIso (fun x => (x.f0, x.f1, x.f2, x.f3)) (kPair (kInt .i64) (kPair (kSlice k38) (kPair (kSlice (kInt .i64)) (kSlice (kInt .i64)))))
def d27 : Dk T27 := dIso (fun x => (x.f0, x.f1, x.f2, x.f3)) (dPair (dFlat (kInt .i64)) (dPair (dSlice k38) (dPair (dSlice (kInt .i64)) (dSlice (kInt .i64)))))
structure T87 where
  f0 : Int
  f1 : Int
  f2 : Int
  deriving DecidableEq
def z87 : T87 := ⟨0, 0, 0⟩
def k87 : Kd T87 := kFlat 3 (fun x => [.int .i64 x.f0, .int .i64 x.f1, .int .i64 x.f2]) (fun _ => rfl) (fun _ => rfl)
theorem eqT87 (x y : T87) : [Lf.int x.f0 y.f0, Lf.int x.f1 y.f1, Lf.int x.f2 y.f2].all Lf.ok = decide (x = y) := by
  obtain ⟨x0, x1, x2⟩ := x
  obtain ⟨y0, y1, y2⟩ := y
  rw [Bool.eq_iff_iff]
  simp [Lf.ok, toList_inj]
structure T34 where
  f0 : Int
  f1 : Int
  deriving DecidableEq
def z34 : T34 := ⟨0, 0⟩
def k34 : Kd T34 := kFlat 2 (fun x => [.int .i64 x.f0, .int .i64 x.f1]) (fun _ => rfl) (fun _ => rfl)
theorem eqT34 (x y : T34) : [Lf.int x.f0 y.f0, Lf.int x.f1 y.f1].all Lf.ok = decide (x = y) := by
  obtain ⟨x0, x1⟩ := x
  obtain ⟨y0, y1⟩ := y
  rw [Bool.eq_iff_iff]
  simp [Lf.ok, toList_inj]
def m57 : Mk T34 T38 := ⟨fun x => .agg #[.int .i64 x.f0, .int .i64 x.f1], fun x => .agg #[.int .i64 x.f0, .int .i64 x.f1, .int .i64 x.f2, .int .i64 x.f3, .string x.f4]⟩
theorem ko57 : KeyOK Tryz.prog 34 m57.key := KeyOK.agg (fun a b => [.int a.f0 b.f0, .int a.f1 b.f1]) (fun a => by kernel_rfl) (fun a => by kernel_rfl) (fun a b => by kernel_rfl) (fun a b => eqT34 a b) Tryz.underlying34 (fun a b => rfl) (fun a => by simp [m57, Instr.sameBits])
structure T59 where
  f0 : List Int
  f1 : List Int
  f2 : (T34 → Option T38)
def z59 : T59 := ⟨[], [], fnil⟩
structure T36 where
  f0 : Int
  f1 : Int
  deriving DecidableEq
def z36 : T36 := ⟨0, 0⟩
def k36 : Kd T36 := kFlat 2 (fun x => [.int .i64 x.f0, .int .i64 x.f1]) (fun _ => rfl) (fun _ => rfl)
theorem eqT36 (x y : T36) : [Lf.int x.f0 y.f0, Lf.int x.f1 y.f1].all Lf.ok = decide (x = y) := by
  obtain ⟨x0, x1⟩ := x
  obtain ⟨y0, y1⟩ := y
  rw [Bool.eq_iff_iff]
  simp [Lf.ok, toList_inj]
theorem sz27 : (Tryz.prog.info? 27).map (·.size) = some 4 := by kernel_rfl
theorem ag27 : aggTy Tryz.prog 27 = some (true, 4) := by kernel_rfl
theorem sz38 : (Tryz.prog.info? 38).map (·.size) = some 5 := by kernel_rfl
theorem ag38 : aggTy Tryz.prog 38 = some (true, 5) := by kernel_rfl
theorem mo : Tryz.prog.follows .mixedOrders = true := by kernel_rfl
theorem sl25 : sliceTy Tryz.prog 25 = some (3, 1, 8) := by kernel_rfl
theorem ag3 : aggTy Tryz.prog 3 = some (false, 1) := by kernel_rfl
theorem sl84 : sliceTy Tryz.prog 84 = some (87, 3, 24) := by kernel_rfl
theorem ze87 : zeroTy Tryz.prog 87 3 = true := by kernel_rfl
theorem nt84 : intTy Tryz.prog 84 = true := by kernel_rfl
theorem ag87 : aggTy Tryz.prog 87 = some (true, 3) := by kernel_rfl
theorem sz87 : (Tryz.prog.info? 87).map (·.size) = some 3 := by kernel_rfl
theorem ag23 : aggTy Tryz.prog 23 = some (false, 1) := by kernel_rfl
theorem ag24 : aggTy Tryz.prog 24 = some (false, 1) := by kernel_rfl
theorem sl24 : sliceTy Tryz.prog 24 = some (38, 5, 48) := by kernel_rfl
theorem eg38 : Tryz.prog.eqGuardType Tryz.prog.depth 38 = false := by kernel_rfl
theorem ag25 : aggTy Tryz.prog 25 = some (false, 1) := by kernel_rfl
theorem ag36 : aggTy Tryz.prog 36 = some (true, 2) := by kernel_rfl
theorem ag9 : aggTy Tryz.prog 9 = some (false, 1) := by kernel_rfl
theorem ag57 : aggTy Tryz.prog 57 = some (false, 1) := by kernel_rfl
theorem ag34 : aggTy Tryz.prog 34 = some (true, 2) := by kernel_rfl
theorem mt57 : mapTy Tryz.prog 57 = some (34, 38) := by kernel_rfl
theorem mz57 : (Tryz.prog.info? 38).bind (·.zero) = some (m57.val z38) := by kernel_rfl
theorem sz3 : (Tryz.prog.info? 3).map (·.size) = some 1 := by kernel_rfl
theorem nt25 : intTy Tryz.prog 25 = true := by kernel_rfl
theorem ze3 : zeroTy Tryz.prog 3 1 = true := by kernel_rfl
theorem ze38 : zeroTy Tryz.prog 38 5 = true := by kernel_rfl
theorem nt24 : intTy Tryz.prog 24 = true := by kernel_rfl
theorem ag22 : aggTy Tryz.prog 22 = some (false, 1) := by kernel_rfl
theorem sl88 : sliceTy Tryz.prog 88 = some (25, 1, 24) := by kernel_rfl
theorem sz25 : (Tryz.prog.info? 25).map (·.size) = some 1 := by kernel_rfl
theorem sz34 : (Tryz.prog.info? 34).map (·.size) = some 2 := by kernel_rfl
def Tabs (B : World) (G : GMap) : Prop := U8 (Tryz.laysValid_ren.g 3) (Tryz.laysValid_ren.g 4) B G
theorem Tabs.mono {B : World} {G G1 : GMap} (h : Tabs B G) (hG : G.le G1) : Tabs B G1 := U8.mono h hG
theorem Tabs.start {W : World} (h : Lib.Utf8Tabs (Tryz.laysValid_ren.g 3) (Tryz.laysValid_ren.g 4) W) : Tabs W (heapG W) := U8.start h
theorem Tabs.u8 {B : World} {G : GMap} {Γ : List Chunk} {W : World} (h : Tabs B G) (hI : Inv B G Γ W) : Lib.Utf8Tabs (Tryz.laysValid_ren.g 3) (Tryz.laysValid_ren.g 4) W := h _ _ hI
end Go.Proofs.YtcapnncebfgcfaaGreatDoor.Gf
