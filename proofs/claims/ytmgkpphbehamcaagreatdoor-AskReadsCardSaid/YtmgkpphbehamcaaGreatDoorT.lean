/- Types of this program as plain Lean types, and closed facts of its types. Written by gg.py of this repo. -/
import Derived.Test.YtmgkpphbehamcaaGreatDoorV0
import Derived.Test.YtmgkpphbehamcaaGreatDoorGgU
import Derived.Test.YtmgkpphbehamcaaGreatDoorGgR
import Derived.Test.YtmgkpphbehamcaaGreatDoorV1
import Derived.Test.YtmgkpphbehamcaaGreatDoorGgV
import Derived.Test.YtmgkpphbehamcaaGreatDoorV2
import Derived.Test.YtmgkpphbehamcaaGreatDoorGgX
namespace Go.Proofs.YtmgkpphbehamcaaGreatDoor.Gf
open Go Go.Gg
set_option linter.unusedSimpArgs false
set_option linter.unusedVariables false
structure T26 where
 f0 : Int
 f1 : Int
 f2 : List ByteArray
 f3 : List T26
def z26 : T26 := ⟨0, 0, [], []⟩
def k26 : Kd T26 := (Fk.iso (fun x => (x.f0, x.f1, x.f2, x.f3)) (Fk.pair (kInt .i64) (Fk.pair (kInt .i64) (Fk.pair (kSlice kStr) Fk.slice)))).fix
theorem k26_out {G : GMap} {x : T26} {cs : List Value} (h : k26.rel G x cs) : (kIso (fun x => (x.f0, x.f1, x.f2, x.f3)) (kPair (kInt .i64) (kPair (kInt .i64) (kPair (kSlice kStr) (kSlice k26)))) : Kd T26).rel G x cs := Fk.fix_out h
theorem k26_in {G : GMap} {x : T26} {cs : List Value} (h : (kIso (fun x => (x.f0, x.f1, x.f2, x.f3)) (kPair (kInt .i64) (kPair (kInt .i64) (kPair (kSlice kStr) (kSlice k26)))) : Kd T26).rel G x cs) : k26.rel G x cs := Fk.fix_in h
def F26 : DF k26 where
 F r := (dIso (fun x => (x.f0, x.f1, x.f2, x.f3)) (dPair (dFlat (kInt .i64)) (dPair (dFlat (kInt .i64)) (dPair (dSlice kStr) (dDeep r.dk)))))
 hz := fun _ => rfl
 hin := fun r G x cs h => k26_in h
 hm := fun r r' h x cs C hr => dPair_imp (dPair_imp (dPair_imp (dDeep_imp h))) _ _ _ hr
 hc := fun K U hm h x cs C hr => dPair_ex (dPair_ex (dPair_ex (dDeep_ex hm h))) _ _ _ hr
def d26 : Dk T26 := F26.fix.dk
theorem d26_out {x : T26} {cs : List Value} {C : Chunk} (h : d26.rel x cs C) : (dIso (fun x => (x.f0, x.f1, x.f2, x.f3)) (dPair (dFlat (kInt .i64)) (dPair (dFlat (kInt .i64)) (dPair (dSlice kStr) (dDeep d26))))).rel x cs C := DF.out (φ := F26) h
theorem d26_in {x : T26} {cs : List Value} {C : Chunk} (h : (dIso (fun x => (x.f0, x.f1, x.f2, x.f3)) (dPair (dFlat (kInt .i64)) (dPair (dFlat (kInt .i64)) (dPair (dSlice kStr) (dDeep d26))))).rel x cs C) : d26.rel x cs C := DF.in_ (φ := F26) h
structure T34 where
 f0 : Int
 f1 : Int
 f2 : List ByteArray
 f3 : List T26
 f4 : Int
 f5 : Int
 f6 : Int
 f7 : Int
 f8 : Int
 f9 : ByteArray
structure T60 where
 f0 : ByteArray
 f1 : Int
 f2 : Bool
 f3 : Bool
 deriving DecidableEq
structure T32 where
 f0 : Int
 f1 : Int
 f2 : Int
 f3 : Int
 f4 : ByteArray
 deriving DecidableEq
theorem eqT32 (x y : T32) : [Lf.int x.f0 y.f0, Lf.int x.f1 y.f1, Lf.int x.f2 y.f2, Lf.int x.f3 y.f3, Lf.str x.f4 y.f4].all Lf.ok = decide (x = y) := by
 obtain ⟨x0, x1, x2, x3, x4⟩ := x; obtain ⟨y0, y1, y2, y3, y4⟩ := y; rw [Bool.eq_iff_iff]; simp [Lf.ok, toList_inj]
structure T30 where
 f0 : Int
 f1 : Int
 deriving DecidableEq
structure T102 where
 f0 : Int
 f1 : Int
 f2 : Int
 f3 : Int
 f4 : Int
 deriving DecidableEq
structure T69 where
 f0 : List ByteArray
 f1 : Int
 f2 : Bool
 deriving DecidableEq
structure T28 where
 f0 : Int
 f1 : Int
 deriving DecidableEq
theorem sz34 : (Tryz.prog.info? 34).map (·.size) = some 10 := by kernel_rfl
theorem ag34 : aggTy Tryz.prog 34 = some (true, 10) := by kernel_rfl
theorem ag4 : aggTy Tryz.prog 4 = some (false, 1) := by kernel_rfl
theorem mo : Tryz.prog.follows .mixedOrders = true := by kernel_rfl
theorem ag9 : aggTy Tryz.prog 9 = some (false, 1) := by kernel_rfl
theorem ag3 : aggTy Tryz.prog 3 = some (false, 1) := by kernel_rfl
theorem st9 : Tryz.prog.underlying 9 = some .string := by kernel_rfl
theorem sz4 : (Tryz.prog.info? 4).map (·.size) = some 1 := by kernel_rfl
theorem sz26 : (Tryz.prog.info? 26).map (·.size) = some 4 := by kernel_rfl
theorem ag26 : aggTy Tryz.prog 26 = some (true, 4) := by kernel_rfl
theorem sz3 : (Tryz.prog.info? 3).map (·.size) = some 1 := by kernel_rfl
theorem sl23 : sliceTy Tryz.prog 23 = some (9, 1, 16) := by kernel_rfl
theorem ag23 : aggTy Tryz.prog 23 = some (false, 1) := by kernel_rfl
theorem ze9 : zeroTy Tryz.prog 9 1 = true := by kernel_rfl
theorem nt23 : intTy Tryz.prog 23 = true := by kernel_rfl
theorem sz23 : (Tryz.prog.info? 23).map (·.size) = some 1 := by kernel_rfl
theorem sl24 : sliceTy Tryz.prog 24 = some (26, 4, 64) := by kernel_rfl
theorem ze26 : zeroTy Tryz.prog 26 4 = true := by kernel_rfl
theorem nt24 : intTy Tryz.prog 24 = true := by kernel_rfl
theorem sl74 : sliceTy Tryz.prog 74 = some (3, 1, 8) := by kernel_rfl
theorem ze3 : zeroTy Tryz.prog 3 1 = true := by kernel_rfl
theorem nt74 : intTy Tryz.prog 74 = true := by kernel_rfl
theorem ag32 : aggTy Tryz.prog 32 = some (true, 5) := by kernel_rfl
theorem eg32 : Tryz.prog.eqGuardType Tryz.prog.depth 32 = false := by kernel_rfl
theorem ag30 : aggTy Tryz.prog 30 = some (true, 2) := by kernel_rfl
theorem ag24 : aggTy Tryz.prog 24 = some (false, 1) := by kernel_rfl
theorem sz102 : (Tryz.prog.info? 102).map (·.size) = some 5 := by kernel_rfl
theorem ag102 : aggTy Tryz.prog 102 = some (true, 5) := by kernel_rfl
theorem sz32 : (Tryz.prog.info? 32).map (·.size) = some 5 := by kernel_rfl
theorem ru189 : runesTy Tryz.prog 189 = true := by kernel_rfl
theorem sl189 : sliceTy Tryz.prog 189 = some (21, 1, 4) := by kernel_rfl
theorem ag21 : aggTy Tryz.prog 21 = some (false, 1) := by kernel_rfl
theorem sz21 : (Tryz.prog.info? 21).map (·.size) = some 1 := by kernel_rfl
theorem sz30 : (Tryz.prog.info? 30).map (·.size) = some 2 := by kernel_rfl
theorem sz28 : (Tryz.prog.info? 28).map (·.size) = some 2 := by kernel_rfl
theorem ag28 : aggTy Tryz.prog 28 = some (true, 2) := by kernel_rfl
theorem sz9 : (Tryz.prog.info? 9).map (·.size) = some 1 := by kernel_rfl
/-- What the tables of Go's library hold. -/
structure Tab (W : World) : Prop where
 u8 : Lib.Utf8Tabs (Tryz.laysValid_ren.g 3) (Tryz.laysValid_ren.g 4) W
 pr : Lib.TabIs Tryz.prog W "unicode.properties" .u8 Lib.propertiesTab
 le : Go.Lib.RVar 10 Go.Lib.letterT W
 di : Go.Lib.RVar 11 Go.Lib.digitT W
 ca : Go.Lib.CaseVar 6 Go.Lib.caseA W
 po : Lib.TabIs Tryz.prog W "internal/strconv.uint64pow10" .u64 Lib.pow10Tab
 ml : ∃ m, W.cell? ⟨3, 0, none⟩ = some (.int .i64 m)
theorem Tab.below {W W' : World} (h : Tab W) (hb : RowKit.Below W.heap.size W W') : Tab W' :=
 ⟨Utf8Tabs_below h.u8 hb, TabIs_below (P := Tryz.prog) (g := Tryz.lays200_ren.g 7) (by kernel_rfl) h.pr hb, RVar_below h.le hb, RVar_below h.di hb, Go.Lib.CaseVar_below h.ca hb, TabIs_below (P := Tryz.prog) (g := Tryz.laysM171_ren.g 17) (by kernel_rfl) h.po hb, (by obtain ⟨m, hm⟩ := h.ml; exact ⟨m, (hb.cell (World.block_lt_of_cell? _ _ hm)).trans hm⟩)⟩
def Tabs (B : World) (G : GMap) : Prop := Knows Tab B G
theorem Tabs.mono {B : World} {G G1 : GMap} (h : Tabs B G) (hG : G.le G1) : Tabs B G1 := Knows.mono h hG
theorem Tabs.start {W : World} (h : Tab W) : Tabs W (heapG W) := Knows.start fun _ hb => h.below hb
section
variable {B : World} {G : GMap} {Γ : List Chunk} {W : World}
theorem Tabs.all (h : Tabs B G) (hI : Inv B G Γ W) : Tab W := h _ _ hI
theorem Tabs.u8 (h : Tabs B G) (hI : Inv B G Γ W) : Lib.Utf8Tabs (Tryz.laysValid_ren.g 3) (Tryz.laysValid_ren.g 4) W := (h.all hI).u8
theorem Tabs.pr (h : Tabs B G) (hI : Inv B G Γ W) : Lib.TabIs Tryz.prog W "unicode.properties" .u8 Lib.propertiesTab := (h.all hI).pr
theorem Tabs.le (h : Tabs B G) (hI : Inv B G Γ W) : Go.Lib.RVar 10 Go.Lib.letterT W := (h.all hI).le
theorem Tabs.di (h : Tabs B G) (hI : Inv B G Γ W) : Go.Lib.RVar 11 Go.Lib.digitT W := (h.all hI).di
theorem Tabs.ca (h : Tabs B G) (hI : Inv B G Γ W) : Go.Lib.CaseVar 6 Go.Lib.caseA W := (h.all hI).ca
theorem Tabs.po (h : Tabs B G) (hI : Inv B G Γ W) : Lib.TabIs Tryz.prog W "internal/strconv.uint64pow10" .u64 Lib.pow10Tab := (h.all hI).po
theorem Tabs.ml (h : Tabs B G) (hI : Inv B G Γ W) : ∃ m, W.cell? ⟨3, 0, none⟩ = some (.int .i64 m) := (h.all hI).ml
end
abbrev v26 (x : T26) (A2 : Option Addr) (c2 : Nat) (A3 : Option Addr) (c3 : Nat) : Array Value := #[.int .i64 x.f0, .int .i64 x.f1, .slice A2 x.f2.length c2, .slice A3 x.f3.length c3]
abbrev v34 (x : T34) (A2 : Option Addr) (c2 : Nat) (A3 : Option Addr) (c3 : Nat) : Array Value := #[.int .i64 x.f0, .int .i64 x.f1, .slice A2 x.f2.length c2, .slice A3 x.f3.length c3, .int .i64 x.f4, .int .i64 x.f5, .int .i64 x.f6, .int .i64 x.f7, .int .i64 x.f8, .string x.f9]
abbrev v60 (x : T60) : Array Value := #[.string x.f0, .int .i64 x.f1, .bool x.f2, .bool x.f3]
end Go.Proofs.YtmgkpphbehamcaaGreatDoor.Gf
