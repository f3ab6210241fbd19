/- Types of this program as plain Lean types, and closed facts of its types. Written by gg.py of this repo. -/
import Derived.Test.YtbphlohiealbeaaGreatDoorV0
import Derived.Test.YtbphlohiealbeaaGreatDoorGgU
import Derived.Test.YtbphlohiealbeaaGreatDoorGgR
import Derived.Test.YtbphlohiealbeaaGreatDoorV1
import Derived.Test.YtbphlohiealbeaaGreatDoorGgV
import Derived.Test.YtbphlohiealbeaaGreatDoorV2
import Derived.Test.YtbphlohiealbeaaGreatDoorGgX
namespace Go.Proofs.YtbphlohiealbeaaGreatDoor.Gf
open Go Go.Gg
set_option linter.unusedSimpArgs false
set_option linter.unusedVariables false
structure T25 where
 f0 : Int
 f1 : Int
 f2 : List ByteArray
 f3 : List T25
def z25 : T25 := ⟨0, 0, [], []⟩
def k25 : Kd T25 := (Fk.iso (fun x => (x.f0, x.f1, x.f2, x.f3)) (Fk.pair (kInt .i64) (Fk.pair (kInt .i64) (Fk.pair (kSlice kStr) Fk.slice)))).fix
def Ok25N : Nat → T25 → Prop
 | 0, _ => False
 | n + 1, x => (Lit.int .i64 x.f0).wf = true ∧ (Lit.int .i64 x.f1).wf = true ∧ (x.f2.length ≤ maxLen ∧ ∀ z0 ∈ x.f2, z0.size ≤ maxLen) ∧ (x.f3.length ≤ maxLen ∧ ∀ z ∈ x.f3, Ok25N n z)
def Ok25 (x : T25) : Prop := ∃ n, Ok25N n x
theorem k25_out {G : GMap} {x : T25} {cs : List Value} (h : k25.rel G x cs) : (kIso (fun x => (x.f0, x.f1, x.f2, x.f3)) (kPair (kInt .i64) (kPair (kInt .i64) (kPair (kSlice kStr) (kSlice k25)))) : Kd T25).rel G x cs := Fk.fix_out h
theorem k25_in {G : GMap} {x : T25} {cs : List Value} (h : (kIso (fun x => (x.f0, x.f1, x.f2, x.f3)) (kPair (kInt .i64) (kPair (kInt .i64) (kPair (kSlice kStr) (kSlice k25)))) : Kd T25).rel G x cs) : k25.rel G x cs := Fk.fix_in h
structure T33 where
 f0 : Int
 f1 : Int
 f2 : List ByteArray
 f3 : List T25
 f4 : Int
 f5 : Int
 f6 : Int
 f7 : Int
 f8 : Int
 f9 : ByteArray
def k33 : Kd T33 := kIso (fun x => (x.f0, x.f1, x.f2, x.f3, x.f4, x.f5, x.f6, x.f7, x.f8, x.f9)) (kPair (kInt .i64) (kPair (kInt .i64) (kPair (kSlice kStr) (kPair (kSlice k25) (kPair (kInt .i64) (kPair (kInt .i64) (kPair (kInt .i64) (kPair (kInt .i64) (kPair (kInt .i64) kStr)))))))))
structure T31 where
 f0 : Int
 f1 : Int
 f2 : Int
 f3 : Int
 f4 : ByteArray
 deriving DecidableEq
def z31 : T31 := ⟨0, 0, 0, 0, (⟨#[]⟩ : ByteArray)⟩
def k31 : Kd T31 := kFlat 5 (fun x => [.int .i64 x.f0, .int .i64 x.f1, .int .i64 x.f2, .int .i64 x.f3, .string x.f4]) (fun _ => rfl) (fun _ => rfl)
theorem eqT31 (x y : T31) : [Lf.int x.f0 y.f0, Lf.int x.f1 y.f1, Lf.int x.f2 y.f2, Lf.int x.f3 y.f3, Lf.str x.f4 y.f4].all Lf.ok = decide (x = y) := by
 obtain ⟨x0, x1, x2, x3, x4⟩ := x; obtain ⟨y0, y1, y2, y3, y4⟩ := y; rw [Bool.eq_iff_iff]; simp [Lf.ok, toList_inj]
structure T27 where
 f0 : Int
 f1 : Int
 deriving DecidableEq
def k27 : Kd T27 := kFlat 2 (fun x => [.int .i64 x.f0, .int .i64 x.f1]) (fun _ => rfl) (fun _ => rfl)
theorem eqT27 (x y : T27) : [Lf.int x.f0 y.f0, Lf.int x.f1 y.f1].all Lf.ok = decide (x = y) := by
 obtain ⟨x0, x1⟩ := x; obtain ⟨y0, y1⟩ := y; rw [Bool.eq_iff_iff]; simp [Lf.ok, toList_inj]
structure T29 where
 f0 : Int
 f1 : Int
 deriving DecidableEq
def k29 : Kd T29 := kFlat 2 (fun x => [.int .i64 x.f0, .int .i64 x.f1]) (fun _ => rfl) (fun _ => rfl)
theorem eqT29 (x y : T29) : [Lf.int x.f0 y.f0, Lf.int x.f1 y.f1].all Lf.ok = decide (x = y) := by
 obtain ⟨x0, x1⟩ := x; obtain ⟨y0, y1⟩ := y; rw [Bool.eq_iff_iff]; simp [Lf.ok, toList_inj]
structure T112 where
 f0 : Int
 f1 : Int
 f2 : Int
 f3 : Int
 f4 : Int
 deriving DecidableEq
structure T85 where
 f0 : ByteArray
 f1 : Int
 deriving DecidableEq
def z85 : T85 := ⟨(⟨#[]⟩ : ByteArray), 0⟩
def k85 : Kd T85 := kFlat 2 (fun x => [.string x.f0, .int .i64 x.f1]) (fun _ => rfl) (fun _ => rfl)
theorem eqT85 (x y : T85) : [Lf.str x.f0 y.f0, Lf.int x.f1 y.f1].all Lf.ok = decide (x = y) := by
 obtain ⟨x0, x1⟩ := x; obtain ⟨y0, y1⟩ := y; rw [Bool.eq_iff_iff]; simp [Lf.ok, toList_inj]
structure T71 where
 f0 : Int
 f1 : Int
 f2 : Int
 f3 : Int
 f4 : ByteArray
 f5 : List T85
 deriving DecidableEq
def d34 : Dk (List T31) := dSlice k31
theorem ag25 : aggTy Tryz.prog 25 = some (true, 4) := by kernel_rfl
theorem sl23 : sliceTy Tryz.prog 23 = some (25, 4, 64) := by kernel_rfl
theorem fi25_2 : fieldTy Tryz.prog 25 2 = some 2 := by kernel_rfl
theorem ag22 : aggTy Tryz.prog 22 = some (false, 1) := by kernel_rfl
theorem sl22 : sliceTy Tryz.prog 22 = some (9, 1, 16) := by kernel_rfl
theorem ag9 : aggTy Tryz.prog 9 = some (false, 1) := by kernel_rfl
theorem fi25_3 : fieldTy Tryz.prog 25 3 = some 3 := by kernel_rfl
theorem ag23 : aggTy Tryz.prog 23 = some (false, 1) := by kernel_rfl
theorem sl34 : sliceTy Tryz.prog 34 = some (31, 5, 48) := by kernel_rfl
theorem fi31_2 : fieldTy Tryz.prog 31 2 = some 4 := by kernel_rfl
theorem mo : Tryz.prog.follows .mixedOrders = true := by kernel_rfl
theorem fi31_0 : fieldTy Tryz.prog 31 0 = some 0 := by kernel_rfl
theorem ag27 : aggTy Tryz.prog 27 = some (true, 2) := by kernel_rfl
theorem eg27 : Tryz.prog.eqGuardType Tryz.prog.depth 27 = false := by kernel_rfl
theorem fi31_1 : fieldTy Tryz.prog 31 1 = some 2 := by kernel_rfl
theorem ag29 : aggTy Tryz.prog 29 = some (true, 2) := by kernel_rfl
theorem eg29 : Tryz.prog.eqGuardType Tryz.prog.depth 29 = false := by kernel_rfl
theorem sz31 : (Tryz.prog.info? 31).map (·.size) = some 5 := by kernel_rfl
theorem ag31 : aggTy Tryz.prog 31 = some (true, 5) := by kernel_rfl
theorem sz33 : (Tryz.prog.info? 33).map (·.size) = some 10 := by kernel_rfl
theorem ag33 : aggTy Tryz.prog 33 = some (true, 10) := by kernel_rfl
theorem ag3 : aggTy Tryz.prog 3 = some (false, 1) := by kernel_rfl
theorem eg31 : Tryz.prog.eqGuardType Tryz.prog.depth 31 = false := by kernel_rfl
theorem sz25 : (Tryz.prog.info? 25).map (·.size) = some 4 := by kernel_rfl
theorem sz112 : (Tryz.prog.info? 112).map (·.size) = some 5 := by kernel_rfl
theorem ag112 : aggTy Tryz.prog 112 = some (true, 5) := by kernel_rfl
theorem ze9 : zeroTy Tryz.prog 9 1 = true := by kernel_rfl
theorem nt22 : intTy Tryz.prog 22 = true := by kernel_rfl
theorem sl79 : sliceTy Tryz.prog 79 = some (3, 1, 8) := by kernel_rfl
theorem sl68 : sliceTy Tryz.prog 68 = some (85, 2, 24) := by kernel_rfl
theorem ze85 : zeroTy Tryz.prog 85 2 = true := by kernel_rfl
theorem nt68 : intTy Tryz.prog 68 = true := by kernel_rfl
theorem ag68 : aggTy Tryz.prog 68 = some (false, 1) := by kernel_rfl
theorem ag85 : aggTy Tryz.prog 85 = some (true, 2) := by kernel_rfl
theorem fi85_1 : fieldTy Tryz.prog 85 1 = some 1 := by kernel_rfl
theorem eg85 : Tryz.prog.eqGuardType Tryz.prog.depth 85 = false := by kernel_rfl
theorem st9 : Tryz.prog.underlying 9 = some .string := by kernel_rfl
theorem ag71 : aggTy Tryz.prog 71 = some (true, 6) := by kernel_rfl
theorem ze31 : zeroTy Tryz.prog 31 5 = true := by kernel_rfl
theorem nt34 : intTy Tryz.prog 34 = true := by kernel_rfl
theorem sl47 : sliceTy Tryz.prog 47 = some (34, 1, 24) := by kernel_rfl
theorem ze34 : zeroTy Tryz.prog 34 1 = true := by kernel_rfl
theorem nt47 : intTy Tryz.prog 47 = true := by kernel_rfl
theorem sz9 : (Tryz.prog.info? 9).map (·.size) = some 1 := by kernel_rfl
theorem ag34 : aggTy Tryz.prog 34 = some (false, 1) := by kernel_rfl
theorem ru98 : runesTy Tryz.prog 98 = true := by kernel_rfl
theorem sl98 : sliceTy Tryz.prog 98 = some (21, 1, 4) := by kernel_rfl
theorem ag21 : aggTy Tryz.prog 21 = some (false, 1) := by kernel_rfl
theorem sz21 : (Tryz.prog.info? 21).map (·.size) = some 1 := by kernel_rfl
theorem ze21 : zeroTy Tryz.prog 21 1 = true := by kernel_rfl
theorem nt98 : intTy Tryz.prog 98 = true := by kernel_rfl
theorem fi85_0 : fieldTy Tryz.prog 85 0 = some 0 := by kernel_rfl
/-- What the tables of Go's library hold. -/
structure Tab (W : World) : Prop where
 u8 : Lib.Utf8Tabs (Tryz.laysValid_ren.g 3) (Tryz.laysValid_ren.g 4) W
 pr : Lib.TabIs Tryz.prog W "unicode.properties" .u8 Lib.propertiesTab
 le : Go.Lib.RVar 3 Go.Lib.letterT W
 di : Go.Lib.RVar 4 Go.Lib.digitT W
 ca : Go.Lib.CaseVar 5 Go.Lib.caseA W
 po : Lib.TabIs Tryz.prog W "internal/strconv.uint64pow10" .u64 Lib.pow10Tab
theorem Tab.below {W W' : World} (h : Tab W) (hb : RowKit.Below W.heap.size W W') : Tab W' :=
 ⟨Utf8Tabs_below h.u8 hb, TabIs_below (P := Tryz.prog) (g := Tryz.lays200_ren.g 7) (by kernel_rfl) h.pr hb, RVar_below h.le hb, RVar_below h.di hb, Go.Lib.CaseVar_below h.ca hb, TabIs_below (P := Tryz.prog) (g := Tryz.laysM171_ren.g 17) (by kernel_rfl) h.po hb⟩
def Tabs (B : World) (G : GMap) : Prop := Knows Tab B G
theorem Tabs.mono {B : World} {G G1 : GMap} (h : Tabs B G) (hG : G.le G1) : Tabs B G1 := Knows.mono h hG
theorem Tabs.start {W : World} (h : Tab W) : Tabs W (heapG W) := Knows.start fun _ hb => h.below hb
section
variable {B : World} {G : GMap} {Γ : List Chunk} {W : World}
theorem Tabs.all (h : Tabs B G) (hI : Inv B G Γ W) : Tab W := h _ _ hI
theorem Tabs.u8 (h : Tabs B G) (hI : Inv B G Γ W) : Lib.Utf8Tabs (Tryz.laysValid_ren.g 3) (Tryz.laysValid_ren.g 4) W := (h.all hI).u8
theorem Tabs.pr (h : Tabs B G) (hI : Inv B G Γ W) : Lib.TabIs Tryz.prog W "unicode.properties" .u8 Lib.propertiesTab := (h.all hI).pr
theorem Tabs.le (h : Tabs B G) (hI : Inv B G Γ W) : Go.Lib.RVar 3 Go.Lib.letterT W := (h.all hI).le
theorem Tabs.di (h : Tabs B G) (hI : Inv B G Γ W) : Go.Lib.RVar 4 Go.Lib.digitT W := (h.all hI).di
theorem Tabs.ca (h : Tabs B G) (hI : Inv B G Γ W) : Go.Lib.CaseVar 5 Go.Lib.caseA W := (h.all hI).ca
theorem Tabs.po (h : Tabs B G) (hI : Inv B G Γ W) : Lib.TabIs Tryz.prog W "internal/strconv.uint64pow10" .u64 Lib.pow10Tab := (h.all hI).po
end
abbrev v25 (x : T25) (A2 : Option Addr) (c2 : Nat) (A3 : Option Addr) (c3 : Nat) : Array Value := #[.int .i64 x.f0, .int .i64 x.f1, .slice A2 x.f2.length c2, .slice A3 x.f3.length c3]
abbrev v31 (x : T31) : Array Value := #[.int .i64 x.f0, .int .i64 x.f1, .int .i64 x.f2, .int .i64 x.f3, .string x.f4]
abbrev v33 (x : T33) (A2 : Option Addr) (c2 : Nat) (A3 : Option Addr) (c3 : Nat) : Array Value := #[.int .i64 x.f0, .int .i64 x.f1, .slice A2 x.f2.length c2, .slice A3 x.f3.length c3, .int .i64 x.f4, .int .i64 x.f5, .int .i64 x.f6, .int .i64 x.f7, .int .i64 x.f8, .string x.f9]
abbrev v71 (x : T71) (A5 : Option Addr) (c5 : Nat) : Array Value := #[.int .i64 x.f0, .int .i64 x.f1, .int .i64 x.f2, .int .i64 x.f3, .string x.f4, .slice A5 x.f5.length c5]
end Go.Proofs.YtbphlohiealbeaaGreatDoor.Gf
