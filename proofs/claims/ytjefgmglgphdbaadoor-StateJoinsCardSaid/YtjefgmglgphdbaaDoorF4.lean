/- Walks of Go functions: what each tells, as a plain Lean function, and that the Go code comes to it. Written by gg.py of this repo. -/
import Derived.Test.YtjefgmglgphdbaaDoorT
import Derived.Test.YtjefgmglgphdbaaDoorF1
namespace Go.Proofs.YtjefgmglgphdbaaDoor.Gf
open Go Go.Gg
set_option maxRecDepth 100000
set_option linter.unusedVariables false
set_option linter.unusedSimpArgs false

/-! ### grapevine/state.Join: function 24 -/
def state_Join_42 (a0e0 : T63) : Option Unit := ((state_State_Copy a0e0).bind fun t1 => some ())
set_option maxHeartbeats 4000000 in
theorem state_Join_42_calls {B : World} {G : GMap} {Γ : List Chunk} {W : World} (a0e0 : T63) (bp0 : Nat) (bp0e0 : Nat) (Aa0e0_f0 : Option Addr) (ca0e0_f0 : Nat) (Ca0e0_f0 : Chunk) (Ha0e0_f0 : Ow (kInt .i64) G Aa0e0_f0 ca0e0_f0 a0e0.f0 Ca0e0_f0) (Aa0e0_f1 : Option Addr) (ca0e0_f1 : Nat) (Ca0e0_f1 : Chunk) (Ha0e0_f1 : Ow (kInt .i64) G Aa0e0_f1 ca0e0_f1 a0e0.f1 Ca0e0_f1) (Aa0e0_f2 : Option Addr) (ca0e0_f2 : Nat) (Ca0e0_f2 : Chunk) (Ha0e0_f2 : MpF m61 G Aa0e0_f2 ca0e0_f2 a0e0.f2 Ca0e0_f2) (r : Unit) (h : state_Join_42 a0e0 = some r) (hI : Inv B G ([(bp0, .cells #[.pointer (some ⟨bp0e0, 0, none⟩), .pointer none] 23 (0, 0))] :: [(bp0e0, .cells #[.slice Aa0e0_f0 a0e0.f0.length ca0e0_f0, .slice Aa0e0_f1 a0e0.f1.length ca0e0_f1, mpv Aa0e0_f2] 63 (0, 0))] :: Ca0e0_f0 :: Ca0e0_f1 :: Ca0e0_f2 :: Γ) W) :
    Calls Tryd.prog 24 [.slice (some ⟨bp0, 0, none⟩) 2 2].toArray W (Ret B (fun v G' Γ' => v = .pointer none ∧ G = G' ∧ [(bp0, .cells #[.pointer (some ⟨bp0e0, 0, none⟩), .pointer none] 23 (0, 0))] :: [(bp0e0, .cells #[.slice Aa0e0_f0 a0e0.f0.length ca0e0_f0, .slice Aa0e0_f1 a0e0.f1.length ca0e0_f1, mpv Aa0e0_f2] 63 (0, 0))] :: Ca0e0_f0 :: Ca0e0_f1 :: Ca0e0_f2 :: Γ = Γ')) := by
  refine calls_WP (Γ := [(bp0, .cells #[.pointer (some ⟨bp0e0, 0, none⟩), .pointer none] 23 (0, 0))] :: [(bp0e0, .cells #[.slice Aa0e0_f0 a0e0.f0.length ca0e0_f0, .slice Aa0e0_f1 a0e0.f1.length ca0e0_f1, mpv Aa0e0_f2] 63 (0, 0))] :: Ca0e0_f0 :: Ca0e0_f1 :: Ca0e0_f2 :: Γ) (G := G) (B := B) Tryd.func24 rfl (by kernel_rfl) ?_ hI
  clear hI
  unfold state_Join_42 at h
  refine WP.seqP [0] (L' := [(0, .slice (some ⟨bp0, 0, none⟩) 2 2)]) (by kernel_rfl) ?_
  refine WP.seqP [0, 3] (L' := [(0, .slice (some ⟨bp0, 0, none⟩) 2 2), (3, .pointer none)]) (by kernel_rfl) ?_
  refine WP.seq ?_
  refine WP.seqP [3, 10, 11, 12] (L' := [(3, .pointer none), (10, .slice (some ⟨bp0, 0, none⟩) 2 2), (11, .int .i64 2), (12, .int .i64 0)]) (by kernel_rfl) ?_
  refine WP.block ?_
  refine WP.pick [3, 10, 11, 12] ?_
  refine WP.around ?_
  refine WP.seqP [3, 10, 11, 12, 13] (L' := [(3, .pointer none), (10, .slice (some ⟨bp0, 0, none⟩) 2 2), (11, .int .i64 2), (12, .int .i64 0), (13, .bool true)]) (by kernel_rfl) ?_
  refine WP.seq ?_
  refine WP.yes (by kernel_rfl) ?_
  refine WP.skip ?_
  refine QP.next ?_
  refine WP.pick [3, 10, 11, 12] ?_
  refine WP.seq ?_
  refine WP.block ?_
  refine WP.seqR ?_
  refine WL.pure 0 1 [3, 10, 11, 12, 14] (L' := [(3, .pointer none), (10, .slice (some ⟨bp0, 0, none⟩) 2 2), (11, .int .i64 2), (12, .int .i64 0), (14, .int .i64 0)]) (by kernel_rfl) (by decide) ?_
  refine WL.tell (op := .indexAddr 52 (.tmp 10) (.tmp 12)) (ty := 0) (d := some 15) (g := none) (by kernel_rfl) (by kernel_rfl) (by kernel_rfl) (Tells.indexAddr (A := some ⟨bp0, 0, none⟩) (n := 2) (c := 2) (k := .i64) (j := 0) (by kernel_rfl) (by kernel_rfl) rfl (by decide) (by decide) sl52) ?_
  refine WL.tell (op := .load 23 (.tmp 15)) (ty := 23) (d := some 16) (g := none) (by kernel_rfl) (by kernel_rfl) (by kernel_rfl) (Tells.load_box (i := 0) (b := bp0) (o := 0) (agg := false) (by rfl) ag23 (by kernel_rfl) (fun _ => rfl) (Nat.le_of_ble_eq_true rfl) (v := .pointer (some ⟨bp0e0, 0, none⟩)) (by kernel_rfl)) ?_
  refine WL.restQ 3 [3, 4, 5, 10, 11, 12] (L' := [(3, .pointer none), (4, .int .i64 0), (5, .pointer (some ⟨bp0e0, 0, none⟩)), (10, .slice (some ⟨bp0, 0, none⟩) 2 2), (11, .int .i64 2), (12, .int .i64 0)]) (by kernel_rfl) ?_
  refine WP.seq ?_
  refine WP.seq ?_
  refine WP.any (N := 19) (S := [⟨some 17, [5], []⟩, ⟨some 18, [17], [0]⟩, ⟨some 19, [18], [1]⟩, ⟨some 20, [4, 19], [2]⟩, ⟨some 21, [19, 20], [2, 3]⟩, ⟨some 22, [19, 21], [2, 4]⟩, ⟨some 23, [5, 22], [5]⟩, ⟨some 24, [22, 23], [5, 6]⟩, ⟨some 25, [22, 24], [5, 7]⟩, ⟨some 26, [22, 25], [5, 8]⟩, ⟨some 27, [22, 26], [5, 9]⟩, ⟨some 28, [3, 22], [5]⟩, ⟨some 29, [22, 28], [5, 11]⟩, ⟨some 30, [22, 29], [5, 12]⟩, ⟨some 31, [22, 30], [5, 13]⟩, ⟨some 32, [22, 31], [5, 14]⟩, ⟨some 33, [22, 27, 32], [5, 10, 15]⟩, ⟨some 34, [19, 22, 33], [2, 5, 16]⟩, ⟨some 35, [19, 34], [2, 17]⟩]) (kw := 19) (G0 := G) (Γ0 := [(bp0, .cells #[.pointer (some ⟨bp0e0, 0, none⟩), .pointer none] 23 (0, 0))] :: [(bp0e0, .cells #[.slice Aa0e0_f0 a0e0.f0.length ca0e0_f0, .slice Aa0e0_f1 a0e0.f1.length ca0e0_f1, mpv Aa0e0_f2] 63 (0, 0))] :: Ca0e0_f0 :: Ca0e0_f1 :: Ca0e0_f2 :: Γ) mo (by kernel_rfl) (fun hS => ?_)
  refine WA.pure [0, 1, 2, 3, 4, 5, 6, 7, 8, 9, 10, 11, 12, 13, 14, 15, 16, 17, 18] [3, 4, 5, 10, 11, 12, 20, 21, 22, 23, 24, 25, 26, 27, 28, 29, 30, 31, 32, 33, 34, 35] (m := 0) (b' := 524287) (L' := [(3, .pointer none), (4, .int .i64 0), (5, .pointer (some ⟨bp0e0, 0, none⟩)), (10, .slice (some ⟨bp0, 0, none⟩) 2 2), (11, .int .i64 2), (12, .int .i64 0), (20, .int .i64 0), (21, .bool false), (22, .bool false), (23, undef), (24, undef), (25, undef), (26, undef), (27, undef), (28, undef), (29, undef), (30, undef), (31, undef), (32, undef), (33, undef), (34, .bool false), (35, .bool false)]) (by kernel_rfl) (NoPanic.then (NoPanic.then (NoPanic.block (NoPanic.then (NoPanic.then (NoPanic.block (NoPanic.then (NoPanic.body)))))))) Under.refl hS (by kernel_rfl) ?_
  refine WA.done hS (by kernel_rfl) ?_
  refine QP.pick [3, 4, 5, 10, 11, 12, 20, 21, 22, 23, 24, 25, 26, 27, 28, 29, 30, 31, 32, 33, 34, 35] ?_
  refine QP.next ?_
  refine WP.no (by kernel_rfl) ?_
  refine WP.skip ?_
  refine QP.next ?_
  refine WP.pick [3, 4, 5, 10, 11, 12, 20, 21, 22, 23, 24, 25, 26, 27, 28, 29, 30, 31, 32, 33, 34] ?_
  refine WP.seq ?_
  refine WP.seqP [3, 5, 10, 11, 12, 20, 21, 22, 23, 24, 25, 26, 27, 28, 29, 30, 31, 32, 33, 34, 37] (L' := [(3, .pointer none), (5, .pointer (some ⟨bp0e0, 0, none⟩)), (10, .slice (some ⟨bp0, 0, none⟩) 2 2), (11, .int .i64 2), (12, .int .i64 0), (20, .int .i64 0), (21, .bool false), (22, .bool false), (23, undef), (24, undef), (25, undef), (26, undef), (27, undef), (28, undef), (29, undef), (30, undef), (31, undef), (32, undef), (33, undef), (34, .bool false), (37, .bool true)]) (by kernel_rfl) ?_
  refine WP.yes (by kernel_rfl) ?_
  refine WP.seqR ?_
  refine WL.pure 0 1 [3, 10, 11, 12, 20, 21, 22, 23, 24, 25, 26, 27, 28, 29, 30, 31, 32, 33, 34, 38] (L' := [(3, .pointer none), (10, .slice (some ⟨bp0, 0, none⟩) 2 2), (11, .int .i64 2), (12, .int .i64 0), (20, .int .i64 0), (21, .bool false), (22, .bool false), (23, undef), (24, undef), (25, undef), (26, undef), (27, undef), (28, undef), (29, undef), (30, undef), (31, undef), (32, undef), (33, undef), (34, .bool false), (38, .pointer (some ⟨bp0e0, 0, none⟩))]) (by kernel_rfl) (by decide) ?_
  refine WL.reperm (Γ' := [(bp0e0, .cells #[.slice Aa0e0_f0 a0e0.f0.length ca0e0_f0, .slice Aa0e0_f1 a0e0.f1.length ca0e0_f1, mpv Aa0e0_f2] 63 (0, 0))] :: Ca0e0_f0 :: Ca0e0_f1 :: Ca0e0_f2 :: [(bp0, .cells #[.pointer (some ⟨bp0e0, 0, none⟩), .pointer none] 23 (0, 0))] :: Γ) (perm_sel [1, 2, 3, 4, 0] (by kernel_rfl) rfl) ?_
  rw [Option.bind_eq_some_iff] at h
  obtain ⟨t1, ht2, h⟩ := h
  refine WL.op (op := .call { callee := (.value (.func 26)), args := #[(.tmp 38)], argTypes := #[23] }) (ty := 23) (d := some 39) (g := none) (by kernel_rfl) (by kernel_rfl) (by kernel_rfl) (Does.call (f := 26) (args := [.pointer (some ⟨bp0e0, 0, none⟩)]) (by kernel_rfl) (fun W hI => (state_State_Copy_calls a0e0 bp0e0 Aa0e0_f0 ca0e0_f0 Ca0e0_f0 Ha0e0_f0 Aa0e0_f1 ca0e0_f1 Ca0e0_f1 Ha0e0_f1 Aa0e0_f2 ca0e0_f2 Ca0e0_f2 Ha0e0_f2 t1 ht2 hI))) ?_
  rintro _ _ _ ⟨bR3, AR3_0, cR3_0, CR3_0, AR3_1, cR3_1, CR3_1, AR3_2, cR3_2, CR3_2, rfl, HR3_0, HR3_1, HR3_2, rfl, rfl⟩
  refine WL.restQ 2 [3, 10, 11, 12, 20, 21, 22, 23, 24, 25, 26, 27, 28, 29, 30, 31, 32, 33, 34] (L' := [(3, .pointer (some ⟨bR3, 0, none⟩)), (10, .slice (some ⟨bp0, 0, none⟩) 2 2), (11, .int .i64 2), (12, .int .i64 0), (20, .int .i64 0), (21, .bool false), (22, .bool false), (23, undef), (24, undef), (25, undef), (26, undef), (27, undef), (28, undef), (29, undef), (30, undef), (31, undef), (32, undef), (33, undef), (34, .bool false)]) (by kernel_rfl) ?_
  refine WP.exit ?_
  refine QP.thenE ?_
  refine QP.blockE ?_
  refine QP.next ?_
  refine WP.pick [3, 10, 11, 12, 20, 21, 22, 23, 24, 25, 26, 27, 28, 29, 30, 31, 32, 33, 34] ?_
  refine WP.regionP [3, 10, 11, 12, 20, 21, 22, 23, 24, 25, 26, 27, 28, 29, 30, 31, 32, 33, 34] (L' := [(3, .pointer (some ⟨bR3, 0, none⟩)), (10, .slice (some ⟨bp0, 0, none⟩) 2 2), (11, .int .i64 2), (12, .int .i64 1), (20, .int .i64 0), (21, .bool false), (22, .bool false), (23, undef), (24, undef), (25, undef), (26, undef), (27, undef), (28, undef), (29, undef), (30, undef), (31, undef), (32, undef), (33, undef), (34, .bool false)]) (by kernel_rfl) ?_
  refine QP.around ?_
  refine WR.pick [3, 10, 11, 12, 20, 21, 22, 23, 24, 25, 26, 27, 28, 29, 30, 31, 32, 33, 34] ?_
  refine WR.again ?_
  refine WP.seqP [3, 10, 11, 12, 13, 20, 21, 22, 23, 24, 25, 26, 27, 28, 29, 30, 31, 32, 33, 34] (L' := [(3, .pointer (some ⟨bR3, 0, none⟩)), (10, .slice (some ⟨bp0, 0, none⟩) 2 2), (11, .int .i64 2), (12, .int .i64 1), (13, .bool true), (20, .int .i64 0), (21, .bool false), (22, .bool false), (23, undef), (24, undef), (25, undef), (26, undef), (27, undef), (28, undef), (29, undef), (30, undef), (31, undef), (32, undef), (33, undef), (34, .bool false)]) (by kernel_rfl) ?_
  refine WP.seq ?_
  refine WP.yes (by kernel_rfl) ?_
  refine WP.skip ?_
  refine QP.next ?_
  refine WP.pick [3, 10, 11, 12, 20, 21, 22, 23, 24, 25, 26, 27, 28, 29, 30, 31, 32, 33, 34] ?_
  refine WP.seq ?_
  refine WP.block ?_
  refine WP.seqR ?_
  refine WL.pure 0 1 [3, 10, 11, 12, 14, 20, 21, 22, 23, 24, 25, 26, 27, 28, 29, 30, 31, 32, 33, 34] (L' := [(3, .pointer (some ⟨bR3, 0, none⟩)), (10, .slice (some ⟨bp0, 0, none⟩) 2 2), (11, .int .i64 2), (12, .int .i64 1), (14, .int .i64 1), (20, .int .i64 0), (21, .bool false), (22, .bool false), (23, undef), (24, undef), (25, undef), (26, undef), (27, undef), (28, undef), (29, undef), (30, undef), (31, undef), (32, undef), (33, undef), (34, .bool false)]) (by kernel_rfl) (by decide) ?_
  refine WL.tell (op := .indexAddr 52 (.tmp 10) (.tmp 12)) (ty := 0) (d := some 15) (g := none) (by kernel_rfl) (by kernel_rfl) (by kernel_rfl) (Tells.indexAddr (A := some ⟨bp0, 0, none⟩) (n := 2) (c := 2) (k := .i64) (j := 1) (by kernel_rfl) (by kernel_rfl) rfl (by decide) (by decide) sl52) ?_
  refine WL.tell (op := .load 23 (.tmp 15)) (ty := 23) (d := some 16) (g := none) (by kernel_rfl) (by kernel_rfl) (by kernel_rfl) (Tells.load_box (i := 8) (b := bp0) (o := 1) (agg := false) (by rfl) ag23 (by kernel_rfl) (fun _ => rfl) (Nat.le_of_ble_eq_true rfl) (v := .pointer none) (by kernel_rfl)) ?_
  refine WL.restQ 3 [3, 4, 5, 10, 11, 12, 20, 21, 22, 23, 24, 25, 26, 27, 28, 29, 30, 31, 32, 33, 34] (L' := [(3, .pointer (some ⟨bR3, 0, none⟩)), (4, .int .i64 1), (5, .pointer none), (10, .slice (some ⟨bp0, 0, none⟩) 2 2), (11, .int .i64 2), (12, .int .i64 1), (20, .int .i64 0), (21, .bool false), (22, .bool false), (23, undef), (24, undef), (25, undef), (26, undef), (27, undef), (28, undef), (29, undef), (30, undef), (31, undef), (32, undef), (33, undef), (34, .bool false)]) (by kernel_rfl) ?_
  refine WP.seq ?_
  refine WP.seq ?_
  refine WP.any (N := 19) (S := [⟨some 17, [5], []⟩, ⟨some 18, [17], [0]⟩, ⟨some 19, [18], [1]⟩, ⟨some 20, [4, 19], [2]⟩, ⟨some 21, [19, 20], [2, 3]⟩, ⟨some 22, [19, 21], [2, 4]⟩, ⟨some 23, [5, 22], [5]⟩, ⟨some 24, [22, 23], [5, 6]⟩, ⟨some 25, [22, 24], [5, 7]⟩, ⟨some 26, [22, 25], [5, 8]⟩, ⟨some 27, [22, 26], [5, 9]⟩, ⟨some 28, [3, 22], [5]⟩, ⟨some 29, [22, 28], [5, 11]⟩, ⟨some 30, [22, 29], [5, 12]⟩, ⟨some 31, [22, 30], [5, 13]⟩, ⟨some 32, [22, 31], [5, 14]⟩, ⟨some 33, [22, 27, 32], [5, 10, 15]⟩, ⟨some 34, [19, 22, 33], [2, 5, 16]⟩, ⟨some 35, [19, 34], [2, 17]⟩]) (kw := 19) (G0 := G) (Γ0 := [(bR3, .cells #[.slice AR3_0 t1.f0.length cR3_0, .slice AR3_1 t1.f1.length cR3_1, mpv AR3_2] 63 (0, 0))] :: CR3_0 :: CR3_1 :: CR3_2 :: [(bp0e0, .cells #[.slice Aa0e0_f0 a0e0.f0.length ca0e0_f0, .slice Aa0e0_f1 a0e0.f1.length ca0e0_f1, mpv Aa0e0_f2] 63 (0, 0))] :: Ca0e0_f0 :: Ca0e0_f1 :: Ca0e0_f2 :: [(bp0, .cells #[.pointer (some ⟨bp0e0, 0, none⟩), .pointer none] 23 (0, 0))] :: Γ) mo (by kernel_rfl) (fun hS => ?_)
  refine WA.pure [0, 1, 2, 3, 4, 5, 6, 7, 8, 9, 10, 11, 12, 13, 14, 15, 16, 17, 18] [3, 4, 5, 10, 11, 12, 20, 21, 22, 23, 24, 25, 26, 27, 28, 29, 30, 31, 32, 33, 34, 35] (m := 0) (b' := 524287) (L' := [(3, .pointer (some ⟨bR3, 0, none⟩)), (4, .int .i64 1), (5, .pointer none), (10, .slice (some ⟨bp0, 0, none⟩) 2 2), (11, .int .i64 2), (12, .int .i64 1), (20, undef), (21, undef), (22, undef), (23, undef), (24, undef), (25, undef), (26, undef), (27, undef), (28, undef), (29, undef), (30, undef), (31, undef), (32, undef), (33, undef), (34, undef), (35, .bool true)]) (by kernel_rfl) (NoPanic.then (NoPanic.then (NoPanic.block (NoPanic.then (NoPanic.then (NoPanic.block (NoPanic.then (NoPanic.body)))))))) Under.refl hS (by kernel_rfl) ?_
  refine WA.done hS (by kernel_rfl) ?_
  refine QP.pick [3, 4, 5, 10, 11, 12, 20, 21, 22, 23, 24, 25, 26, 27, 28, 29, 30, 31, 32, 33, 34, 35] ?_
  refine QP.next ?_
  refine WP.yes (by kernel_rfl) ?_
  refine WP.seqP [2] (L' := [(2, .pointer none)]) (by kernel_rfl) ?_
  refine WP.dropAt 3 ?_
  refine WP.dropAt 2 ?_
  refine WP.dropAt 1 ?_
  refine WP.dropAt 0 ?_
  refine WP.ret ?_
  refine QP.thenR ?_
  refine QP.blockR ?_
  refine QP.thenR ?_
  refine QP.thenR ?_
  refine QP.blockR ?_
  refine QP.thenR ?_
  obtain rfl := Option.some.inj h
  refine QP.reperm (Γ' := [(bp0, .cells #[.pointer (some ⟨bp0e0, 0, none⟩), .pointer none] 23 (0, 0))] :: [(bp0e0, .cells #[.slice Aa0e0_f0 a0e0.f0.length ca0e0_f0, .slice Aa0e0_f1 a0e0.f1.length ca0e0_f1, mpv Aa0e0_f2] 63 (0, 0))] :: Ca0e0_f0 :: Ca0e0_f1 :: Ca0e0_f2 :: Γ) (perm_sel [4, 0, 1, 2, 3] (by kernel_rfl) rfl) ?_
  exact QP.returned [2] [.pointer none] _ (by kernel_rfl) (by kernel_rfl) (by kernel_rfl) (fun W hI => ⟨_, _, _, rfl, ⟨rfl, rfl, rfl⟩, hI⟩)
end Go.Proofs.YtjefgmglgphdbaaDoor.Gf
