/-
  No cell of these rows narrows 'for every input' (looked for: loops, veiled, ifaces, maps, wideKeys, modest, calm, conditions, laid).
  DERIVED. THE GIVEN ROWS OF THIS SEAT. 14 by the template 'for every input the law returns true; each argument reads behind the call as it read before'; 0 by the template 'total and deterministic' (their statements: YtmphcmgbognmnaaTotals.lean).
  GIVEN WITH THE SEED: the statements are not yours to turn. If you find one false, say at which input.
  Laid BY PROGRAM, IN A SANDBOX (cutbox-rows.mjs): the forced cells as the released guide's own fill.sh prints them over the translation 807107211eec6b1b… (all of the seat's roots in one cut). By AI agents, Wed Nov 11 2026. No macro, syntax, notation, axiom, sorry.
-/
import Derived.Test.YtmphcmgbognmnaaChecked
import GoSem.Claim
import GoSem.ClaimJoined
import GoSem.ClaimMapViews
import Derived.JoinedTies
import Derived.KernelRfl
namespace Go.Proofs.Ytmphcmgbognmnaa
/- THE CELL 'sum', in the pinned program and in every row, IS THE sha256 OF THE DUMP (.gsa) THAT YtmphcmgbognmnaaProg.lean LOADS. Nothing in Lean hashes anything: it is a label: what it is worth is what the hold of that sum in a sandbox is worth. -/
noncomputable def Try.pinned : Pinned := { name := "ytmphcmgbognmnaa", sum := "807107211eec6b1b54c1b3abe15319c1cbb69d0058198ea51dfa8311e8f9cf55", checked := Try.checked }
namespace Rows
def none {H : Type} : Left H := { results := [], args := [] }

/-- 'grapevinelaw2.StampTells': WHATEVER THE INPUT: true; the input reads as it did. -/
def stampTellsSpec : ChangeSpec := { name := "stampTells", fn := fun _ => fun
  | [d1, d2, d3] => { results := [.lit (.bool true)], args := [d1, d2, d3] }
  | _ => none }
def stampTellsRow : OpenClaim := { program := "ytmphcmgbognmnaa", sum := "807107211eec6b1b54c1b3abe15319c1cbb69d0058198ea51dfa8311e8f9cf55", func := "grapevine/grapevinelaw2.StampTells", spec := "stampTells", apart := false }
def StampTellsSaid : Prop := stampTellsRow.holds Try.pinned (OpenSpec.ofChange stampTellsSpec)

/-- ITS FALSE NEIGHBOUR: 'it returns false'. Refute it at one input. -/
def stampTellsWrong : ChangeSpec := { name := "stampTells", fn := fun _ => fun
  | [d1, d2, d3] => { results := [.lit (.bool false)], args := [d1, d2, d3] }
  | _ => none }
def StampTellsWrongFalsely : Prop := stampTellsRow.holds Try.pinned (OpenSpec.ofChange stampTellsWrong)

/-- 'grapevinelaw2.StampScript': WHATEVER THE INPUT: true; the input reads as it did. -/
def stampScriptSpec : ChangeSpec := { name := "stampScript", fn := fun _ => fun
  | [d1, d2] => { results := [.lit (.bool true)], args := [d1, d2] }
  | _ => none }
def stampScriptRow : OpenClaim := { program := "ytmphcmgbognmnaa", sum := "807107211eec6b1b54c1b3abe15319c1cbb69d0058198ea51dfa8311e8f9cf55", func := "grapevine/grapevinelaw2.StampScript", spec := "stampScript", apart := false }
def StampScriptSaid : Prop := stampScriptRow.holds Try.pinned (OpenSpec.ofChange stampScriptSpec)

/-- ITS FALSE NEIGHBOUR: 'it returns false'. Refute it at one input. -/
def stampScriptWrong : ChangeSpec := { name := "stampScript", fn := fun _ => fun
  | [d1, d2] => { results := [.lit (.bool false)], args := [d1, d2] }
  | _ => none }
def StampScriptWrongFalsely : Prop := stampScriptRow.holds Try.pinned (OpenSpec.ofChange stampScriptWrong)

/-- 'grapevinelaw2.StampRises': WHATEVER THE INPUT: true; the input reads as it did. -/
def stampRisesSpec : ChangeSpec := { name := "stampRises", fn := fun _ => fun
  | [d1, d2] => { results := [.lit (.bool true)], args := [d1, d2] }
  | _ => none }
def stampRisesRow : OpenClaim := { program := "ytmphcmgbognmnaa", sum := "807107211eec6b1b54c1b3abe15319c1cbb69d0058198ea51dfa8311e8f9cf55", func := "grapevine/grapevinelaw2.StampRises", spec := "stampRises", apart := false }
def StampRisesSaid : Prop := stampRisesRow.holds Try.pinned (OpenSpec.ofChange stampRisesSpec)

/-- ITS FALSE NEIGHBOUR: 'it returns false'. Refute it at one input. -/
def stampRisesWrong : ChangeSpec := { name := "stampRises", fn := fun _ => fun
  | [d1, d2] => { results := [.lit (.bool false)], args := [d1, d2] }
  | _ => none }
def StampRisesWrongFalsely : Prop := stampRisesRow.holds Try.pinned (OpenSpec.ofChange stampRisesWrong)

/-- 'grapevinelaw2.StampNone': WHATEVER THE INPUT: true; the input reads as it did. -/
def stampNoneSpec : ChangeSpec := { name := "stampNone", fn := fun _ => fun
  | [d] => { results := [.lit (.bool true)], args := [d] }
  | _ => none }
def stampNoneRow : OpenClaim := { program := "ytmphcmgbognmnaa", sum := "807107211eec6b1b54c1b3abe15319c1cbb69d0058198ea51dfa8311e8f9cf55", func := "grapevine/grapevinelaw2.StampNone", spec := "stampNone", apart := false }
def StampNoneSaid : Prop := stampNoneRow.holds Try.pinned (OpenSpec.ofChange stampNoneSpec)

/-- ITS FALSE NEIGHBOUR: 'it returns false'. Refute it at one input. -/
def stampNoneWrong : ChangeSpec := { name := "stampNone", fn := fun _ => fun
  | [d] => { results := [.lit (.bool false)], args := [d] }
  | _ => none }
def StampNoneWrongFalsely : Prop := stampNoneRow.holds Try.pinned (OpenSpec.ofChange stampNoneWrong)

/-- 'grapevinelaw2.StampMost': WHATEVER THE INPUT: true; the input reads as it did. -/
def stampMostSpec : ChangeSpec := { name := "stampMost", fn := fun _ => fun
  | [d1, d2] => { results := [.lit (.bool true)], args := [d1, d2] }
  | _ => none }
def stampMostRow : OpenClaim := { program := "ytmphcmgbognmnaa", sum := "807107211eec6b1b54c1b3abe15319c1cbb69d0058198ea51dfa8311e8f9cf55", func := "grapevine/grapevinelaw2.StampMost", spec := "stampMost", apart := false }
def StampMostSaid : Prop := stampMostRow.holds Try.pinned (OpenSpec.ofChange stampMostSpec)

/-- ITS FALSE NEIGHBOUR: 'it returns false'. Refute it at one input. -/
def stampMostWrong : ChangeSpec := { name := "stampMost", fn := fun _ => fun
  | [d1, d2] => { results := [.lit (.bool false)], args := [d1, d2] }
  | _ => none }
def StampMostWrongFalsely : Prop := stampMostRow.holds Try.pinned (OpenSpec.ofChange stampMostWrong)

/-- 'grapevinelaw2.StampTwo': WHATEVER THE INPUT: true; the input reads as it did. -/
def stampTwoSpec : ChangeSpec := { name := "stampTwo", fn := fun _ => fun
  | [d1, d2] => { results := [.lit (.bool true)], args := [d1, d2] }
  | _ => none }
def stampTwoRow : OpenClaim := { program := "ytmphcmgbognmnaa", sum := "807107211eec6b1b54c1b3abe15319c1cbb69d0058198ea51dfa8311e8f9cf55", func := "grapevine/grapevinelaw2.StampTwo", spec := "stampTwo", apart := false }
def StampTwoSaid : Prop := stampTwoRow.holds Try.pinned (OpenSpec.ofChange stampTwoSpec)

/-- ITS FALSE NEIGHBOUR: 'it returns false'. Refute it at one input. -/
def stampTwoWrong : ChangeSpec := { name := "stampTwo", fn := fun _ => fun
  | [d1, d2] => { results := [.lit (.bool false)], args := [d1, d2] }
  | _ => none }
def StampTwoWrongFalsely : Prop := stampTwoRow.holds Try.pinned (OpenSpec.ofChange stampTwoWrong)

/-- 'grapevinelaw2.StampOld': WHATEVER THE INPUT: true; the input reads as it did. -/
def stampOldSpec : ChangeSpec := { name := "stampOld", fn := fun _ => fun
  | [d1, d2, d3] => { results := [.lit (.bool true)], args := [d1, d2, d3] }
  | _ => none }
def stampOldRow : OpenClaim := { program := "ytmphcmgbognmnaa", sum := "807107211eec6b1b54c1b3abe15319c1cbb69d0058198ea51dfa8311e8f9cf55", func := "grapevine/grapevinelaw2.StampOld", spec := "stampOld", apart := false }
def StampOldSaid : Prop := stampOldRow.holds Try.pinned (OpenSpec.ofChange stampOldSpec)

/-- ITS FALSE NEIGHBOUR: 'it returns false'. Refute it at one input. -/
def stampOldWrong : ChangeSpec := { name := "stampOld", fn := fun _ => fun
  | [d1, d2, d3] => { results := [.lit (.bool false)], args := [d1, d2, d3] }
  | _ => none }
def StampOldWrongFalsely : Prop := stampOldRow.holds Try.pinned (OpenSpec.ofChange stampOldWrong)

/-- 'grapevinelaw3.VectorLattice': WHATEVER THE INPUT: true; the input reads as it did. -/
def vectorLatticeSpec : ChangeSpec := { name := "vectorLattice", fn := fun _ => fun
  | [d1, d2, d3, d4] => { results := [.lit (.bool true)], args := [d1, d2, d3, d4] }
  | _ => none }
def vectorLatticeRow : OpenClaim := { program := "ytmphcmgbognmnaa", sum := "807107211eec6b1b54c1b3abe15319c1cbb69d0058198ea51dfa8311e8f9cf55", func := "grapevine/grapevinelaw3.VectorLattice", spec := "vectorLattice", unfollowed := true, recurses := true, apart := false }
def VectorLatticeSaid : Prop := vectorLatticeRow.holds Try.pinned (OpenSpec.ofChange vectorLatticeSpec)

/-- ITS FALSE NEIGHBOUR: 'it returns false'. Refute it at one input. -/
def vectorLatticeWrong : ChangeSpec := { name := "vectorLattice", fn := fun _ => fun
  | [d1, d2, d3, d4] => { results := [.lit (.bool false)], args := [d1, d2, d3, d4] }
  | _ => none }
def VectorLatticeWrongFalsely : Prop := vectorLatticeRow.holds Try.pinned (OpenSpec.ofChange vectorLatticeWrong)

/-- 'grapevinelaw3.VectorLacks': WHATEVER THE INPUT: true; the input reads as it did. -/
def vectorLacksSpec : ChangeSpec := { name := "vectorLacks", fn := fun _ => fun
  | [d1, d2, d3, d4] => { results := [.lit (.bool true)], args := [d1, d2, d3, d4] }
  | _ => none }
def vectorLacksRow : OpenClaim := { program := "ytmphcmgbognmnaa", sum := "807107211eec6b1b54c1b3abe15319c1cbb69d0058198ea51dfa8311e8f9cf55", func := "grapevine/grapevinelaw3.VectorLacks", spec := "vectorLacks", unfollowed := true, recurses := true, apart := false }
def VectorLacksSaid : Prop := vectorLacksRow.holds Try.pinned (OpenSpec.ofChange vectorLacksSpec)

/-- ITS FALSE NEIGHBOUR: 'it returns false'. Refute it at one input. -/
def vectorLacksWrong : ChangeSpec := { name := "vectorLacks", fn := fun _ => fun
  | [d1, d2, d3, d4] => { results := [.lit (.bool false)], args := [d1, d2, d3, d4] }
  | _ => none }
def VectorLacksWrongFalsely : Prop := vectorLacksRow.holds Try.pinned (OpenSpec.ofChange vectorLacksWrong)

/-- 'grapevinelaw3.VectorZeros': WHATEVER THE INPUT: true; the input reads as it did. -/
def vectorZerosSpec : ChangeSpec := { name := "vectorZeros", fn := fun _ => fun
  | [d1, d2, d3] => { results := [.lit (.bool true)], args := [d1, d2, d3] }
  | _ => none }
def vectorZerosRow : OpenClaim := { program := "ytmphcmgbognmnaa", sum := "807107211eec6b1b54c1b3abe15319c1cbb69d0058198ea51dfa8311e8f9cf55", func := "grapevine/grapevinelaw3.VectorZeros", spec := "vectorZeros", unfollowed := true, recurses := true, apart := false }
def VectorZerosSaid : Prop := vectorZerosRow.holds Try.pinned (OpenSpec.ofChange vectorZerosSpec)

/-- ITS FALSE NEIGHBOUR: 'it returns false'. Refute it at one input. -/
def vectorZerosWrong : ChangeSpec := { name := "vectorZeros", fn := fun _ => fun
  | [d1, d2, d3] => { results := [.lit (.bool false)], args := [d1, d2, d3] }
  | _ => none }
def VectorZerosWrongFalsely : Prop := vectorZerosRow.holds Try.pinned (OpenSpec.ofChange vectorZerosWrong)

/-- 'grapevinelaw3.VectorSpans': WHATEVER THE INPUT: true; the input reads as it did. -/
def vectorSpansSpec : ChangeSpec := { name := "vectorSpans", fn := fun _ => fun
  | [d1, d2, d3] => { results := [.lit (.bool true)], args := [d1, d2, d3] }
  | _ => none }
def vectorSpansRow : OpenClaim := { program := "ytmphcmgbognmnaa", sum := "807107211eec6b1b54c1b3abe15319c1cbb69d0058198ea51dfa8311e8f9cf55", func := "grapevine/grapevinelaw3.VectorSpans", spec := "vectorSpans", unfollowed := true, recurses := true, apart := false }
def VectorSpansSaid : Prop := vectorSpansRow.holds Try.pinned (OpenSpec.ofChange vectorSpansSpec)

/-- ITS FALSE NEIGHBOUR: 'it returns false'. Refute it at one input. -/
def vectorSpansWrong : ChangeSpec := { name := "vectorSpans", fn := fun _ => fun
  | [d1, d2, d3] => { results := [.lit (.bool false)], args := [d1, d2, d3] }
  | _ => none }
def VectorSpansWrongFalsely : Prop := vectorSpansRow.holds Try.pinned (OpenSpec.ofChange vectorSpansWrong)

/-- 'grapevinelaw22.BagRows': WHATEVER THE INPUT: true; the input reads as it did. -/
def bagRowsSpec : ChangeSpec := { name := "bagRows", fn := fun _ => fun
  | [d1, d2, d3] => { results := [.lit (.bool true)], args := [d1, d2, d3] }
  | _ => none }
def bagRowsRow : OpenClaim := { program := "ytmphcmgbognmnaa", sum := "807107211eec6b1b54c1b3abe15319c1cbb69d0058198ea51dfa8311e8f9cf55", func := "grapevine/grapevinelaw22.BagRows", spec := "bagRows", apart := false }
def BagRowsSaid : Prop := bagRowsRow.holds Try.pinned (OpenSpec.ofChange bagRowsSpec)

/-- ITS FALSE NEIGHBOUR: 'it returns false'. Refute it at one input. -/
def bagRowsWrong : ChangeSpec := { name := "bagRows", fn := fun _ => fun
  | [d1, d2, d3] => { results := [.lit (.bool false)], args := [d1, d2, d3] }
  | _ => none }
def BagRowsWrongFalsely : Prop := bagRowsRow.holds Try.pinned (OpenSpec.ofChange bagRowsWrong)

/-- 'grapevinelaw22.BagOnce': WHATEVER THE INPUT: true; the input reads as it did. -/
def bagOnceSpec : ChangeSpec := { name := "bagOnce", fn := fun _ => fun
  | [d1, d2, d3, d4] => { results := [.lit (.bool true)], args := [d1, d2, d3, d4] }
  | _ => none }
def bagOnceRow : OpenClaim := { program := "ytmphcmgbognmnaa", sum := "807107211eec6b1b54c1b3abe15319c1cbb69d0058198ea51dfa8311e8f9cf55", func := "grapevine/grapevinelaw22.BagOnce", spec := "bagOnce", apart := false }
def BagOnceSaid : Prop := bagOnceRow.holds Try.pinned (OpenSpec.ofChange bagOnceSpec)

/-- ITS FALSE NEIGHBOUR: 'it returns false'. Refute it at one input. -/
def bagOnceWrong : ChangeSpec := { name := "bagOnce", fn := fun _ => fun
  | [d1, d2, d3, d4] => { results := [.lit (.bool false)], args := [d1, d2, d3, d4] }
  | _ => none }
def BagOnceWrongFalsely : Prop := bagOnceRow.holds Try.pinned (OpenSpec.ofChange bagOnceWrong)

/-- 'grapevinelaw22.BagNone': WHATEVER THE INPUT: true; the input reads as it did. -/
def bagNoneSpec : ChangeSpec := { name := "bagNone", fn := fun _ => fun
  | [d] => { results := [.lit (.bool true)], args := [d] }
  | _ => none }
def bagNoneRow : OpenClaim := { program := "ytmphcmgbognmnaa", sum := "807107211eec6b1b54c1b3abe15319c1cbb69d0058198ea51dfa8311e8f9cf55", func := "grapevine/grapevinelaw22.BagNone", spec := "bagNone", apart := false }
def BagNoneSaid : Prop := bagNoneRow.holds Try.pinned (OpenSpec.ofChange bagNoneSpec)

/-- ITS FALSE NEIGHBOUR: 'it returns false'. Refute it at one input. -/
def bagNoneWrong : ChangeSpec := { name := "bagNone", fn := fun _ => fun
  | [d] => { results := [.lit (.bool false)], args := [d] }
  | _ => none }
def BagNoneWrongFalsely : Prop := bagNoneRow.holds Try.pinned (OpenSpec.ofChange bagNoneWrong)

/- THE SECOND FORM. 'bulk': how many values and letters a reading holds, each counted each time it is reached (what is shared counts as often as it is met; a slice's spare places count too). A statement '..UptoSaid' is the law's where the arguments, and the package variables that the reading takes, are together of bulk at most 1048576: NARROWER than '..Said'. Prove '..Said' where nothing that the law and all that it calls make is longer than what came in: it says more and counts as full. Else prove '..UptoSaid'. A law counts once. -/
mutual
def uptoBulk {H : Type} : DataW H → Nat
  | .lit (.string bytes) => bytes.length + 1
  | .lit _ => 1
  | .nil => 1
  | .ptr d => uptoBulk d + 1
  | .slice elems spare => uptoBulkAll elems + uptoBulkAll spare + 1
  | .agg parts => uptoBulkAll parts + 1
  | .iface _ d => uptoBulk d + 1
  | .map entries => uptoBulkEntries entries + 1
  | .held _ => 1
def uptoBulkAll {H : Type} : List (DataW H) → Nat
  | [] => 0
  | d :: r => uptoBulk d + uptoBulkAll r
def uptoBulkEntries {H : Type} : List (Lit × DataW H) → Nat
  | [] => 0
  | x :: r => uptoBulkEntry x + uptoBulkEntries r
def uptoBulkEntry {H : Type} : Lit × DataW H → Nat
  | (.string bytes, d) => bytes.length + uptoBulk d + 1
  | (_, d) => uptoBulk d + 1
 end
def uptoSmall : (H : Type) → List (DataW H) → Bool := fun _ ds => decide (uptoBulkAll ds ≤ 1048576)
def OpenSpec.upto (s : _root_.Go.ChangeSpec) : _root_.Go.OpenSpec := { _root_.Go.OpenSpec.ofChange s with cond := some uptoSmall }

/-- 'grapevinelaw2.StampTells', WHERE WHAT IT READS IS OF BULK AT MOST 1048576: true; the input reads as it did. -/
def stampTellsUptoRow : OpenClaim := { program := "ytmphcmgbognmnaa", sum := "807107211eec6b1b54c1b3abe15319c1cbb69d0058198ea51dfa8311e8f9cf55", func := "grapevine/grapevinelaw2.StampTells", spec := "stampTells", apart := false, narrowed := true }
def StampTellsUptoSaid : Prop := stampTellsUptoRow.holds Try.pinned (OpenSpec.upto stampTellsSpec)

/-- 'grapevinelaw2.StampScript', WHERE WHAT IT READS IS OF BULK AT MOST 1048576: true; the input reads as it did. -/
def stampScriptUptoRow : OpenClaim := { program := "ytmphcmgbognmnaa", sum := "807107211eec6b1b54c1b3abe15319c1cbb69d0058198ea51dfa8311e8f9cf55", func := "grapevine/grapevinelaw2.StampScript", spec := "stampScript", apart := false, narrowed := true }
def StampScriptUptoSaid : Prop := stampScriptUptoRow.holds Try.pinned (OpenSpec.upto stampScriptSpec)

/-- 'grapevinelaw2.StampRises', WHERE WHAT IT READS IS OF BULK AT MOST 1048576: true; the input reads as it did. -/
def stampRisesUptoRow : OpenClaim := { program := "ytmphcmgbognmnaa", sum := "807107211eec6b1b54c1b3abe15319c1cbb69d0058198ea51dfa8311e8f9cf55", func := "grapevine/grapevinelaw2.StampRises", spec := "stampRises", apart := false, narrowed := true }
def StampRisesUptoSaid : Prop := stampRisesUptoRow.holds Try.pinned (OpenSpec.upto stampRisesSpec)

/-- 'grapevinelaw2.StampNone', WHERE WHAT IT READS IS OF BULK AT MOST 1048576: true; the input reads as it did. -/
def stampNoneUptoRow : OpenClaim := { program := "ytmphcmgbognmnaa", sum := "807107211eec6b1b54c1b3abe15319c1cbb69d0058198ea51dfa8311e8f9cf55", func := "grapevine/grapevinelaw2.StampNone", spec := "stampNone", apart := false, narrowed := true }
def StampNoneUptoSaid : Prop := stampNoneUptoRow.holds Try.pinned (OpenSpec.upto stampNoneSpec)

/-- 'grapevinelaw2.StampMost', WHERE WHAT IT READS IS OF BULK AT MOST 1048576: true; the input reads as it did. -/
def stampMostUptoRow : OpenClaim := { program := "ytmphcmgbognmnaa", sum := "807107211eec6b1b54c1b3abe15319c1cbb69d0058198ea51dfa8311e8f9cf55", func := "grapevine/grapevinelaw2.StampMost", spec := "stampMost", apart := false, narrowed := true }
def StampMostUptoSaid : Prop := stampMostUptoRow.holds Try.pinned (OpenSpec.upto stampMostSpec)

/-- 'grapevinelaw2.StampTwo', WHERE WHAT IT READS IS OF BULK AT MOST 1048576: true; the input reads as it did. -/
def stampTwoUptoRow : OpenClaim := { program := "ytmphcmgbognmnaa", sum := "807107211eec6b1b54c1b3abe15319c1cbb69d0058198ea51dfa8311e8f9cf55", func := "grapevine/grapevinelaw2.StampTwo", spec := "stampTwo", apart := false, narrowed := true }
def StampTwoUptoSaid : Prop := stampTwoUptoRow.holds Try.pinned (OpenSpec.upto stampTwoSpec)

/-- 'grapevinelaw2.StampOld', WHERE WHAT IT READS IS OF BULK AT MOST 1048576: true; the input reads as it did. -/
def stampOldUptoRow : OpenClaim := { program := "ytmphcmgbognmnaa", sum := "807107211eec6b1b54c1b3abe15319c1cbb69d0058198ea51dfa8311e8f9cf55", func := "grapevine/grapevinelaw2.StampOld", spec := "stampOld", apart := false, narrowed := true }
def StampOldUptoSaid : Prop := stampOldUptoRow.holds Try.pinned (OpenSpec.upto stampOldSpec)

/-- 'grapevinelaw3.VectorLattice', WHERE WHAT IT READS IS OF BULK AT MOST 1048576: true; the input reads as it did. -/
def vectorLatticeUptoRow : OpenClaim := { program := "ytmphcmgbognmnaa", sum := "807107211eec6b1b54c1b3abe15319c1cbb69d0058198ea51dfa8311e8f9cf55", func := "grapevine/grapevinelaw3.VectorLattice", spec := "vectorLattice", unfollowed := true, recurses := true, apart := false, narrowed := true }
def VectorLatticeUptoSaid : Prop := vectorLatticeUptoRow.holds Try.pinned (OpenSpec.upto vectorLatticeSpec)

/-- 'grapevinelaw3.VectorLacks', WHERE WHAT IT READS IS OF BULK AT MOST 1048576: true; the input reads as it did. -/
def vectorLacksUptoRow : OpenClaim := { program := "ytmphcmgbognmnaa", sum := "807107211eec6b1b54c1b3abe15319c1cbb69d0058198ea51dfa8311e8f9cf55", func := "grapevine/grapevinelaw3.VectorLacks", spec := "vectorLacks", unfollowed := true, recurses := true, apart := false, narrowed := true }
def VectorLacksUptoSaid : Prop := vectorLacksUptoRow.holds Try.pinned (OpenSpec.upto vectorLacksSpec)

/-- 'grapevinelaw3.VectorZeros', WHERE WHAT IT READS IS OF BULK AT MOST 1048576: true; the input reads as it did. -/
def vectorZerosUptoRow : OpenClaim := { program := "ytmphcmgbognmnaa", sum := "807107211eec6b1b54c1b3abe15319c1cbb69d0058198ea51dfa8311e8f9cf55", func := "grapevine/grapevinelaw3.VectorZeros", spec := "vectorZeros", unfollowed := true, recurses := true, apart := false, narrowed := true }
def VectorZerosUptoSaid : Prop := vectorZerosUptoRow.holds Try.pinned (OpenSpec.upto vectorZerosSpec)

/-- 'grapevinelaw3.VectorSpans', WHERE WHAT IT READS IS OF BULK AT MOST 1048576: true; the input reads as it did. -/
def vectorSpansUptoRow : OpenClaim := { program := "ytmphcmgbognmnaa", sum := "807107211eec6b1b54c1b3abe15319c1cbb69d0058198ea51dfa8311e8f9cf55", func := "grapevine/grapevinelaw3.VectorSpans", spec := "vectorSpans", unfollowed := true, recurses := true, apart := false, narrowed := true }
def VectorSpansUptoSaid : Prop := vectorSpansUptoRow.holds Try.pinned (OpenSpec.upto vectorSpansSpec)

/-- 'grapevinelaw22.BagRows', WHERE WHAT IT READS IS OF BULK AT MOST 1048576: true; the input reads as it did. -/
def bagRowsUptoRow : OpenClaim := { program := "ytmphcmgbognmnaa", sum := "807107211eec6b1b54c1b3abe15319c1cbb69d0058198ea51dfa8311e8f9cf55", func := "grapevine/grapevinelaw22.BagRows", spec := "bagRows", apart := false, narrowed := true }
def BagRowsUptoSaid : Prop := bagRowsUptoRow.holds Try.pinned (OpenSpec.upto bagRowsSpec)

/-- 'grapevinelaw22.BagOnce', WHERE WHAT IT READS IS OF BULK AT MOST 1048576: true; the input reads as it did. -/
def bagOnceUptoRow : OpenClaim := { program := "ytmphcmgbognmnaa", sum := "807107211eec6b1b54c1b3abe15319c1cbb69d0058198ea51dfa8311e8f9cf55", func := "grapevine/grapevinelaw22.BagOnce", spec := "bagOnce", apart := false, narrowed := true }
def BagOnceUptoSaid : Prop := bagOnceUptoRow.holds Try.pinned (OpenSpec.upto bagOnceSpec)

/-- 'grapevinelaw22.BagNone', WHERE WHAT IT READS IS OF BULK AT MOST 1048576: true; the input reads as it did. -/
def bagNoneUptoRow : OpenClaim := { program := "ytmphcmgbognmnaa", sum := "807107211eec6b1b54c1b3abe15319c1cbb69d0058198ea51dfa8311e8f9cf55", func := "grapevine/grapevinelaw22.BagNone", spec := "bagNone", apart := false, narrowed := true }
def BagNoneUptoSaid : Prop := bagNoneUptoRow.holds Try.pinned (OpenSpec.upto bagNoneSpec)

end Rows
end Go.Proofs.Ytmphcmgbognmnaa
