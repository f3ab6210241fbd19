/- Tables of Go's library that lie in memory as their text lays them; calls that leave all that was there. -/
import Derived.Test.YtmgkpphbehamcaaGreatDoorGgJ
import Derived.Test.YtmgkpphbehamcaaGreatDoorGgM
import Derived.Shelf.Unicode.ValidAny
namespace Go.Gg
set_option linter.unusedVariables false
open Go Go.Proofs
variable {P : Program} {B : World} {G G' : GMap} {Γ : List Chunk} {W : World}
theorem Inv.kept {W' : World} (hI : Inv B G Γ W) (h : RowKit.Below W.heap.size W W') : Inv B G Γ W' := by
 have same : ∀ k, k < W.heap.size → W'.heap[k]? = W.heap[k]? := fun k hk => h.block k hk
 exact ⟨h.os.trans hI.os, h.output.trans hI.out, h.tape.trans hI.tape, fun b o e => by rw [same b (hI.ltG e)]; exact hI.fro b o e, fun p hp => by rw [same p.1 (hI.lt hp)]; exact hI.own p hp, hI.nd, hI.ap⟩
theorem Calls.kept {f : FuncId} {args : Array Value} {v : Value} (hc : Calls P f args W fun e w' => e = .returned v ∧ RowKit.Below W.heap.size W w') (hI : Inv B G Γ W) :
  Calls P f args W (Ret B fun v' G' Γ' => v' = v ∧ G = G' ∧ Γ = Γ') :=
 hc.mono fun e w' ⟨he, hb⟩ => ⟨_, _, _, he, ⟨rfl, rfl, rfl⟩, hI.kept hb⟩
def U8 (a b : Nat) (B : World) (G : GMap) : Prop := ∀ Γ w, Inv B G Γ w → Lib.Utf8Tabs a b w
theorem U8.mono {a b : Nat} (h : U8 a b B G) (hG : G.le G') : U8 a b B G' := fun Γ w hI => h Γ w (hI.lower hG)
theorem U8.start {a b : Nat} (h : Lib.Utf8Tabs a b W) : U8 a b W (heapG W) := fun Γ w hI => Utf8Tabs_below h hI.below
end Go.Gg
