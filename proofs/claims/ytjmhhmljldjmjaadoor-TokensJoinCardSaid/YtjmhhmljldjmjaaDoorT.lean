/- Types of this program as plain Lean types, and closed facts of its types. Written by gg.py of this repo. -/
import Derived.Test.YtjmhhmljldjmjaaDoorV0
import Derived.Test.YtjmhhmljldjmjaaDoorGgU
import Derived.Test.YtjmhhmljldjmjaaDoorGgR
import Derived.Test.YtjmhhmljldjmjaaDoorV1
import Derived.Test.YtjmhhmljldjmjaaDoorGgV
import Derived.Test.YtjmhhmljldjmjaaDoorV2
namespace Go.Proofs.YtjmhhmljldjmjaaDoor.Gf
open Go Go.Gg
set_option linter.unusedSimpArgs false
set_option linter.unusedVariables false
structure T64 where
  f0 : ByteArray
  f1 : Int
  deriving DecidableEq
def z64 : T64 := ⟨(⟨#[]⟩ : ByteArray), 0⟩
def k64 : Kd T64 := kFlat 2 (fun x => [.string x.f0, .int .i64 x.f1]) (fun _ => rfl) (fun _ => rfl)
theorem eqT64 (x y : T64) : [Lf.str x.f0 y.f0, Lf.int x.f1 y.f1].all Lf.ok = decide (x = y) := by
  obtain ⟨x0, x1⟩ := x
  obtain ⟨y0, y1⟩ := y
  rw [Bool.eq_iff_iff]
  simp [Lf.ok, toList_inj]
theorem sl62 : sliceTy Tryd.prog 62 = some (9, 1, 16) := by kernel_rfl
theorem ag9 : aggTy Tryd.prog 9 = some (false, 1) := by kernel_rfl
theorem sl56 : sliceTy Tryd.prog 56 = some (64, 2, 24) := by kernel_rfl
theorem ze64 : zeroTy Tryd.prog 64 2 = true := by kernel_rfl
theorem nt56 : intTy Tryd.prog 56 = true := by kernel_rfl
theorem mo : Tryd.prog.follows .mixedOrders = true := by kernel_rfl
theorem ag64 : aggTy Tryd.prog 64 = some (true, 2) := by kernel_rfl
theorem eg64 : Tryd.prog.eqGuardType Tryd.prog.depth 64 = false := by kernel_rfl
theorem ru79 : runesTy Tryd.prog 79 = true := by kernel_rfl
theorem st9 : Tryd.prog.underlying 9 = some .string := by kernel_rfl
theorem sl79 : sliceTy Tryd.prog 79 = some (21, 1, 4) := by kernel_rfl
theorem ze21 : zeroTy Tryd.prog 21 1 = true := by kernel_rfl
theorem nt79 : intTy Tryd.prog 79 = true := by kernel_rfl
theorem ag21 : aggTy Tryd.prog 21 = some (false, 1) := by kernel_rfl
theorem sz21 : (Tryd.prog.info? 21).map (·.size) = some 1 := by kernel_rfl
theorem sz64 : (Tryd.prog.info? 64).map (·.size) = some 2 := by kernel_rfl
theorem fi64_0 : fieldTy Tryd.prog 64 0 = some 0 := by kernel_rfl
theorem fi64_1 : fieldTy Tryd.prog 64 1 = some 1 := by kernel_rfl
theorem ag3 : aggTy Tryd.prog 3 = some (false, 1) := by kernel_rfl
/-- What the tables of Go's library hold. -/
structure Tab (W : World) : Prop where
  u8 : Lib.Utf8Tabs (Tryd.laysValid_ren.g 3) (Tryd.laysValid_ren.g 4) W
  pr : Lib.TabIs Tryd.prog W "unicode.properties" .u8 Lib.propertiesTab
  le : Go.Lib.RVar 3 Go.Lib.letterT W
  di : Go.Lib.RVar 4 Go.Lib.digitT W
  ca : Go.Lib.CaseVar 5 Go.Lib.caseA W
theorem Tab.below {W W' : World} (h : Tab W) (hb : RowKit.Below W.heap.size W W') : Tab W' :=
  ⟨Utf8Tabs_below h.u8 hb, TabIs_below (P := Tryd.prog) (g := Tryd.lays200_ren.g 7) (by kernel_rfl) h.pr hb, RVar_below h.le hb, RVar_below h.di hb, Go.Lib.CaseVar_below h.ca hb⟩
def Tabs (B : World) (G : GMap) : Prop := Knows Tab B G
theorem Tabs.mono {B : World} {G G1 : GMap} (h : Tabs B G) (hG : G.le G1) : Tabs B G1 := Knows.mono h hG
theorem Tabs.start {W : World} (h : Tab W) : Tabs W (heapG W) := Knows.start fun _ hb => h.below hb
section
variable {B : World} {G : GMap} {Γ : List Chunk} {W : World}
theorem Tabs.all (h : Tabs B G) (hI : Inv B G Γ W) : Tab W := h _ _ hI
theorem Tabs.u8 (h : Tabs B G) (hI : Inv B G Γ W) : Lib.Utf8Tabs (Tryd.laysValid_ren.g 3) (Tryd.laysValid_ren.g 4) W := (h.all hI).u8
theorem Tabs.pr (h : Tabs B G) (hI : Inv B G Γ W) : Lib.TabIs Tryd.prog W "unicode.properties" .u8 Lib.propertiesTab := (h.all hI).pr
theorem Tabs.le (h : Tabs B G) (hI : Inv B G Γ W) : Go.Lib.RVar 3 Go.Lib.letterT W := (h.all hI).le
theorem Tabs.di (h : Tabs B G) (hI : Inv B G Γ W) : Go.Lib.RVar 4 Go.Lib.digitT W := (h.all hI).di
theorem Tabs.ca (h : Tabs B G) (hI : Inv B G Γ W) : Go.Lib.CaseVar 5 Go.Lib.caseA W := (h.all hI).ca
end
end Go.Proofs.YtjmhhmljldjmjaaDoor.Gf
