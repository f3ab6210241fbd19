/- Walks of Go functions: what each tells, as a plain Lean function, and that the Go code comes to it. Written by gg.py of this repo. -/
import Derived.Test.YtajhihpaccggdaaDoorT
import Derived.Test.YtajhihpaccggdaaDoorF0
namespace Go.Proofs.YtajhihpaccggdaaDoor.Gf
open Go Go.Gg
set_option maxRecDepth 100000
set_option linter.unusedVariables false
set_option linter.unusedSimpArgs false

/-! ### grapevine/tree.Same: function 24 -/
noncomputable def tree_Same_l0 (a0 : T97) (a1 : T97) : Nat → (List T32) → Option (Sum Bool Unit)
  | 0, _ => none
  | k + 1, y4 => (pickAll a0.f0 y4 (some (Sum.inr ())) (fun an7 => fun en7 => ((if (!((mget a1.f0 an7).isSome)) = true then some true else ((record_Same (⟨en7.f0, en7.f1, en7.f2, en7.f3, en7.f4⟩ : T36) (⟨((mget a1.f0 an7).getD z103).f0, ((mget a1.f0 an7).getD z103).f1, ((mget a1.f0 an7).getD z103).f2, ((mget a1.f0 an7).getD z103).f3, ((mget a1.f0 an7).getD z103).f4⟩ : T36)).bind fun t14 => some (!t14))).bind fun s11 => (if s11 = true then some (Sum.inl false) else tree_Same_l0 a0 a1 k (an7 :: y4)))))
noncomputable def tree_Same (k : Nat) (a0 : T97) (a1 : T97) : Option Bool := ((tree_Same_l0 a0 a1 k ([] : List T32)).bind fun os2 => match os2 with | Sum.inl r => some r | Sum.inr s2 => ((tree_Tree_Len a0).bind fun t19 => ((tree_Tree_Len a1).bind fun t23 => some (t19 == t23))))
set_option maxHeartbeats 4000000 in
theorem tree_Same_calls {B : World} {G : GMap} {Γ : List Chunk} {W : World} (k : Nat) (a0 : T97) (a1 : T97) (b0 : Nat) (Aa0_f0 : Option Addr) (ca0_f0 : Nat) (Ca0_f0 : Chunk) (Ha0_f0 : MpO m94 G Aa0_f0 ca0_f0 a0.f0 Ca0_f0) (Aa0_f1 : Option Addr) (ca0_f1 : Nat) (Ca0_f1 : Chunk) (Ha0_f1 : MpO m95 G Aa0_f1 ca0_f1 a0.f1 Ca0_f1) (b1 : Nat) (Aa1_f0 : Option Addr) (ca1_f0 : Nat) (Ca1_f0 : Chunk) (Ha1_f0 : MpO m94 G Aa1_f0 ca1_f0 a1.f0 Ca1_f0) (Aa1_f1 : Option Addr) (ca1_f1 : Nat) (Ca1_f1 : Chunk) (Ha1_f1 : MpO m95 G Aa1_f1 ca1_f1 a1.f1 Ca1_f1) (r : Bool) (h : tree_Same k a0 a1 = some r) (hI : Inv B G ([(b0, .cells #[mpv Aa0_f0, mpv Aa0_f1] 97 (0, 0))] :: Ca0_f0 :: Ca0_f1 :: [(b1, .cells #[mpv Aa1_f0, mpv Aa1_f1] 97 (0, 0))] :: Ca1_f0 :: Ca1_f1 :: Γ) W) :
    Calls Tryd.prog 24 [.pointer (some ⟨b0, 0, none⟩), .pointer (some ⟨b1, 0, none⟩)].toArray W (Ret B (fun v G' Γ' => v = .bool r ∧ G = G' ∧ [(b0, .cells #[mpv Aa0_f0, mpv Aa0_f1] 97 (0, 0))] :: Ca0_f0 :: Ca0_f1 :: [(b1, .cells #[mpv Aa1_f0, mpv Aa1_f1] 97 (0, 0))] :: Ca1_f0 :: Ca1_f1 :: Γ = Γ')) := by
  refine calls_WP (Γ := [(b0, .cells #[mpv Aa0_f0, mpv Aa0_f1] 97 (0, 0))] :: Ca0_f0 :: Ca0_f1 :: [(b1, .cells #[mpv Aa1_f0, mpv Aa1_f1] 97 (0, 0))] :: Ca1_f0 :: Ca1_f1 :: Γ) (G := G) (B := B) Tryd.func24 rfl (by kernel_rfl) ?_ hI
  clear hI
  unfold tree_Same at h
  refine WP.seqP [0, 1] (L' := [(0, .pointer (some ⟨b0, 0, none⟩)), (1, .pointer (some ⟨b1, 0, none⟩))]) (by kernel_rfl) ?_
  refine WP.seq ?_
  refine WP.seqP [0, 1, 14] (L' := [(0, .pointer (some ⟨b0, 0, none⟩)), (1, .pointer (some ⟨b1, 0, none⟩)), (14, .bool false)]) (by kernel_rfl) ?_
  refine WP.no (by kernel_rfl) ?_
  refine WP.skip ?_
  refine QP.next ?_
  refine WP.pick [0, 1] ?_
  refine WP.seq ?_
  refine WP.seqR ?_
  refine WL.pure 0 3 [0, 1, 20] (L' := [(0, .pointer (some ⟨b0, 0, none⟩)), (1, .pointer (some ⟨b1, 0, none⟩)), (20, .pointer (some ⟨b0, 0, none⟩))]) (by kernel_rfl) (by decide) ?_
  refine WL.tell (op := .load 94 (.tmp 20)) (ty := 94) (d := some 21) (g := none) (by kernel_rfl) (by kernel_rfl) (by kernel_rfl) (Tells.load_box (i := 0) (b := b0) (o := 0) (agg := false) (by rfl) ag94 (by kernel_rfl) (fun _ => rfl) (Nat.le_of_ble_eq_true rfl) (v := mpv Aa0_f0) (by kernel_rfl)) ?_
  refine WL.op (op := .range 94 (.tmp 21)) (ty := 0) (d := some 22) (g := none) (by kernel_rfl) (by kernel_rfl) (by kernel_rfl) (Does.range mt94 Ha0_f0 (i := 1) rfl (by kernel_rfl)) ?_
  rintro _ _ _ ⟨it1, Cit1, rfl, Hit1, rfl, rfl⟩
  refine WL.addNil ?_
  refine WL.restQ 5 [0, 1, 22] (L' := [(0, .pointer (some ⟨b0, 0, none⟩)), (1, .pointer (some ⟨b1, 0, none⟩)), (22, .pointer (some ⟨it1, 0, none⟩))]) (by kernel_rfl) ?_
  rw [Option.bind_eq_some_iff] at h
  obtain ⟨os2, h, hk3⟩ := h
  refine WP.cutQ (fun L' G' Γ' => ∃ s2 : Unit, Sum.inr s2 = os2 ∧ L' = [(0, .pointer (some ⟨b0, 0, none⟩)), (1, .pointer (some ⟨b1, 0, none⟩))] ∧ G = G' ∧ [(b0, .cells #[mpv Aa0_f0, mpv Aa0_f1] 97 (0, 0))] :: Ca0_f0 :: Ca0_f1 :: [(b1, .cells #[mpv Aa1_f0, mpv Aa1_f1] 97 (0, 0))] :: Ca1_f0 :: Ca1_f1 :: Γ = Γ') ?_ ?_
  · skip
    refine WP.block ?_
    refine WP.pick [0, 1, 22] ?_
    refine WP.loopF (fun kn5 L' G' Γ' => ∃ (y4 : List T32), tree_Same_l0 a0 a1 kn5 y4 = some os2 ∧ ∃ (Cy4 : Chunk), L' = [(0, .pointer (some ⟨b0, 0, none⟩)), (1, .pointer (some ⟨b1, 0, none⟩)), (22, .pointer (some ⟨it1, 0, none⟩))] ∧ G = G' ∧ [] :: Cy4 :: [(b0, .cells #[mpv Aa0_f0, mpv Aa0_f1] 97 (0, 0))] :: Ca0_f0 :: Ca0_f1 :: [(b1, .cells #[mpv Aa1_f0, mpv Aa1_f1] 97 (0, 0))] :: Ca1_f0 :: Ca1_f1 :: Γ = Γ' ∧ It m94 a0.f0 Ca0_f0 it1 y4 Cy4) ?_ k ⟨([] : List T32), h, Cit1, rfl, rfl, rfl, Hit1⟩
    clear h
    rintro kn6 _ _ _ ⟨y4, h, Cy4, rfl, rfl, rfl, Hy4⟩
    cases kn6 with
    | zero => exact absurd h (by simp [tree_Same_l0])
    | succ kn6 =>
      simp only [tree_Same_l0] at h
      refine WP.seqR ?_
      refine WL.op (op := .next (.tmp 22) false) (ty := 0) (d := some 23) (g := none) (by kernel_rfl) (by kernel_rfl) (by kernel_rfl) (Does.next Ha0_f0 Hy4 (i := 3) (j := 1) rfl rfl (by kernel_rfl)) ?_
      rintro _ _ _ (⟨rfl, hov, rfl, rfl⟩ | ⟨an7, en7, Cn7, rfl, hinn7, hnsn7, Hitn7, Hcurn7, rfl, rfl⟩)
      · rw [pickAll_over hov] at h
        clear hov
        refine WL.restQ 1 [0, 1, 22, 24] (L' := [(0, .pointer (some ⟨b0, 0, none⟩)), (1, .pointer (some ⟨b1, 0, none⟩)), (22, .pointer (some ⟨it1, 0, none⟩)), (24, .bool false)]) (by kernel_rfl) ?_
        refine WP.seq ?_
        refine WP.no (by kernel_rfl) ?_
        refine WP.exit ?_
        refine QP.thenE ?_
        refine QP.thenE ?_
        refine QP.blockE ?_
        refine QP.dropAt 1 ?_
        refine QP.dropAt 0 ?_
        refine QP.pick [0, 1] ?_
        exact QP.meet ⟨_, Option.some.inj h, rfl, rfl, rfl⟩
      · replace h := pickAll_pick h hinn7 hnsn7
        refine WL.restQ 1 [0, 1, 22, 24] (L' := [(0, .pointer (some ⟨b0, 0, none⟩)), (1, .pointer (some ⟨b1, 0, none⟩)), (22, .pointer (some ⟨it1, 0, none⟩)), (24, .bool true)]) (by kernel_rfl) ?_
        refine WP.seq ?_
        refine WP.yes (by kernel_rfl) ?_
        refine WP.skip ?_
        refine QP.next ?_
        refine WP.pick [0, 1, 22] ?_
        refine WP.block ?_
        refine WP.seqR ?_
        refine WL.tell (op := .entry (.tmp 22)) (ty := 0) (d := some 25) (g := none) (by kernel_rfl) (by kernel_rfl) (by kernel_rfl) (Tells.entry Hitn7 Hcurn7 (i := 3) (j := 1) rfl rfl (by kernel_rfl)) ?_
        refine WL.pure 1 3 [0, 1, 22, 26, 27] (L' := [(0, .pointer (some ⟨b0, 0, none⟩)), (1, .pointer (some ⟨b1, 0, none⟩)), (22, .pointer (some ⟨it1, 0, none⟩)), (26, .agg #[.int .i64 an7.f0, .int .i64 an7.f1]), (27, .agg #[.int .i64 en7.f0, .int .i64 en7.f1, .int .i64 en7.f2, .int .i64 en7.f3, .string en7.f4, .int .u64 en7.f5])]) (by kernel_rfl) (by decide) ?_
        refine WL.op (op := .alloc 32) (ty := 0) (d := some 5) (g := none) (by kernel_rfl) (by kernel_rfl) (by kernel_rfl) (Does.new (o := .cells #[.int .i64 0, .int .i64 0] 32 (0, 0)) (v := fun r => .pointer (some ⟨r, 0, none⟩)) (fun r => by kernel_rfl)) ?_
        rintro _ _ _ ⟨b8, rfl, rfl, rfl⟩
        refine WL.op (op := .alloc 103) (ty := 0) (d := some 6) (g := none) (by kernel_rfl) (by kernel_rfl) (by kernel_rfl) (Does.new (o := .cells #[.int .i64 0, .int .i64 0, .int .i64 0, .int .i64 0, .string (⟨#[]⟩ : ByteArray), .int .u64 0] 103 (0, 0)) (v := fun r => .pointer (some ⟨r, 0, none⟩)) (fun r => by kernel_rfl)) ?_
        rintro _ _ _ ⟨b9, rfl, rfl, rfl⟩
        refine WL.op (op := .store 32 (.tmp 5) (.tmp 26)) (ty := 0) (d := none) (g := none) (by kernel_rfl) (by kernel_rfl) (by kernel_rfl) (Does.store_box (i := 1) (b := b8) (o := 0) (v := .agg #[.int .i64 an7.f0, .int .i64 an7.f1]) (by rfl) sz32 (by kernel_rfl) (by kernel_rfl) (by kernel_rfl) (Free.zero _) (Nat.le_of_ble_eq_true rfl) (cells' := #[.int .i64 an7.f0, .int .i64 an7.f1]) (by kernel_rfl)) ?_
        rintro _ _ _ ⟨rfl, rfl, rfl⟩
        refine WL.op (op := .store 103 (.tmp 6) (.tmp 27)) (ty := 0) (d := none) (g := none) (by kernel_rfl) (by kernel_rfl) (by kernel_rfl) (Does.store_box (i := 0) (b := b9) (o := 0) (v := .agg #[.int .i64 en7.f0, .int .i64 en7.f1, .int .i64 en7.f2, .int .i64 en7.f3, .string en7.f4, .int .u64 en7.f5]) (by rfl) sz103 (by kernel_rfl) (by kernel_rfl) (by kernel_rfl) (Free.zero _) (Nat.le_of_ble_eq_true rfl) (cells' := #[.int .i64 en7.f0, .int .i64 en7.f1, .int .i64 en7.f2, .int .i64 en7.f3, .string en7.f4, .int .u64 en7.f5]) (by kernel_rfl)) ?_
        rintro _ _ _ ⟨rfl, rfl, rfl⟩
        refine WL.restQ 7 [0, 1, 5, 6, 22] (L' := [(0, .pointer (some ⟨b0, 0, none⟩)), (1, .pointer (some ⟨b1, 0, none⟩)), (5, .pointer (some ⟨b8, 0, none⟩)), (6, .pointer (some ⟨b9, 0, none⟩)), (22, .pointer (some ⟨it1, 0, none⟩))]) (by kernel_rfl) ?_
        refine WP.seq ?_
        refine WP.any (N := 12) (S := [⟨some 29, [1], []⟩, ⟨some 30, [29], [0]⟩, ⟨some 31, [30], [1]⟩, ⟨some 32, [31], [2]⟩, ⟨some 33, [5], []⟩, ⟨some 34, [32, 33], [3, 4]⟩, ⟨some 28, [34], [5]⟩, ⟨some 35, [28], [6]⟩, ⟨some 36, [28], [6]⟩, ⟨some 7, [], []⟩, ⟨none, [7, 35], [0, 1, 2, 3, 4, 5, 6, 7, 9]⟩, ⟨some 8, [36], [0, 1, 2, 3, 4, 5, 6, 7, 8, 9, 10]⟩]) (kw := 10) (G0 := G) (Γ0 := [(b9, .cells #[.int .i64 en7.f0, .int .i64 en7.f1, .int .i64 en7.f2, .int .i64 en7.f3, .string en7.f4, .int .u64 en7.f5] 103 (0, 0))] :: [(b8, .cells #[.int .i64 an7.f0, .int .i64 an7.f1] 32 (0, 0))] :: [] :: Cn7 :: [(b0, .cells #[mpv Aa0_f0, mpv Aa0_f1] 97 (0, 0))] :: Ca0_f0 :: Ca0_f1 :: [(b1, .cells #[mpv Aa1_f0, mpv Aa1_f1] 97 (0, 0))] :: Ca1_f0 :: Ca1_f1 :: Γ) mo (by kernel_rfl) (fun hS => ?_)
        refine WA.pure [0, 1, 2] [0, 1, 5, 6, 22, 31] (m := 9) (b' := 7) (L' := [(0, .pointer (some ⟨b0, 0, none⟩)), (1, .pointer (some ⟨b1, 0, none⟩)), (5, .pointer (some ⟨b8, 0, none⟩)), (6, .pointer (some ⟨b9, 0, none⟩)), (22, .pointer (some ⟨it1, 0, none⟩)), (31, .pointer (some ⟨b1, 0, none⟩))]) (by kernel_rfl) (NoPanic.then (NoPanic.block (NoPanic.then (NoPanic.block (NoPanic.then (NoPanic.then (NoPanic.body))))))) Under.refl hS (by kernel_rfl) ?_
        refine WA.tellD [10] (i := 3) (m := 8) (b' := 15) (by kernel_rfl) (NoPanic.then (NoPanic.block (NoPanic.then (NoPanic.block (NoPanic.then (NoPanic.then (NoPanic.body))))))) Under.refl hS (by kernel_rfl) (op := .load 94 (.tmp 31)) (ty := 94) (d := some 32) (g := none) (by kernel_rfl) (by kernel_rfl) (by kernel_rfl) (Tells.load_box (i := 7) (b := b1) (o := 0) (agg := false) (by rfl) ag94 (by kernel_rfl) (fun _ => rfl) (Nat.le_of_ble_eq_true rfl) (v := mpv Aa1_f0) (by kernel_rfl)) ?_
        refine WA.tellD [10] (i := 4) (m := 7) (b' := 31) (by kernel_rfl) (NoPanic.then (NoPanic.block (NoPanic.then (NoPanic.block (NoPanic.then (NoPanic.then (NoPanic.body))))))) Under.refl hS (by kernel_rfl) (op := .load 32 (.tmp 5)) (ty := 32) (d := some 33) (g := none) (by kernel_rfl) (by kernel_rfl) (by kernel_rfl) (Tells.load_box (i := 1) (b := b8) (o := 0) (agg := true) (by rfl) ag32 (by kernel_rfl) (fun h => by cases h) (Nat.le_of_ble_eq_true rfl) (v := .agg #[.int .i64 an7.f0, .int .i64 an7.f1]) (by kernel_rfl)) ?_
        refine WA.tellD [10] (i := 5) (m := 6) (b' := 63) (by kernel_rfl) (NoPanic.then (NoPanic.block (NoPanic.then (NoPanic.block (NoPanic.then (NoPanic.then (NoPanic.body))))))) Under.refl hS (by kernel_rfl) (op := .lookup 94 (.tmp 32) (.tmp 33) true) (ty := 104) (d := some 34) (g := none) (by kernel_rfl) (by kernel_rfl) (by kernel_rfl) (Tells.lookupOk mt94 ko94 Ha1_f0 (i := 8) rfl (a := an7) (z := z103) (by kernel_rfl) (by kernel_rfl) mz94) ?_
        refine WA.pure [6, 7, 8] [0, 1, 6, 22, 35, 36] (m := 3) (b' := 511) (L' := [(0, .pointer (some ⟨b0, 0, none⟩)), (1, .pointer (some ⟨b1, 0, none⟩)), (6, .pointer (some ⟨b9, 0, none⟩)), (22, .pointer (some ⟨it1, 0, none⟩)), (35, .agg #[.int .i64 (((mget a1.f0 an7).getD z103).f0), .int .i64 (((mget a1.f0 an7).getD z103).f1), .int .i64 (((mget a1.f0 an7).getD z103).f2), .int .i64 (((mget a1.f0 an7).getD z103).f3), .string (((mget a1.f0 an7).getD z103).f4), .int .u64 (((mget a1.f0 an7).getD z103).f5)]), (36, .bool ((mget a1.f0 an7).isSome))]) (by kernel_rfl) (NoPanic.then (NoPanic.block (NoPanic.then (NoPanic.block (NoPanic.then (NoPanic.then (NoPanic.body))))))) Under.refl hS (by kernel_rfl) ?_
        refine WA.op (i := 9) (m := 2) (b' := 1023) (by kernel_rfl) hS (by kernel_rfl) (op := .alloc 103) (ty := 0) (d := some 7) (g := none) (by kernel_rfl) (by kernel_rfl) (by kernel_rfl) (Does.new (o := .cells #[.int .i64 0, .int .i64 0, .int .i64 0, .int .i64 0, .string (⟨#[]⟩ : ByteArray), .int .u64 0] 103 (0, 0)) (v := fun r => .pointer (some ⟨r, 0, none⟩)) (fun r => by kernel_rfl)) ?_
        rintro _ _ _ ⟨b10, rfl, rfl, rfl⟩
        refine ⟨_, _, Under.cons Under.refl, Under.refl, ?_⟩
        refine WA.opK (i := 10) (kw' := 12) (m := 1) (b' := 2047) (by kernel_rfl) rfl hS (by kernel_rfl) (op := .store 103 (.tmp 7) (.tmp 35)) (ty := 0) (d := none) (g := none) (by kernel_rfl) (by kernel_rfl) (by kernel_rfl) (Does.store_box (i := 0) (b := b10) (o := 0) (v := .agg #[.int .i64 (((mget a1.f0 an7).getD z103).f0), .int .i64 (((mget a1.f0 an7).getD z103).f1), .int .i64 (((mget a1.f0 an7).getD z103).f2), .int .i64 (((mget a1.f0 an7).getD z103).f3), .string (((mget a1.f0 an7).getD z103).f4), .int .u64 (((mget a1.f0 an7).getD z103).f5)]) (by rfl) sz103 (by kernel_rfl) (by kernel_rfl) (by kernel_rfl) (Free.zero _) (Nat.le_of_ble_eq_true rfl) (cells' := #[.int .i64 (((mget a1.f0 an7).getD z103).f0), .int .i64 (((mget a1.f0 an7).getD z103).f1), .int .i64 (((mget a1.f0 an7).getD z103).f2), .int .i64 (((mget a1.f0 an7).getD z103).f3), .string (((mget a1.f0 an7).getD z103).f4), .int .u64 (((mget a1.f0 an7).getD z103).f5)]) (by kernel_rfl)) ?_
        rintro _ _ _ ⟨rfl, rfl, rfl⟩
        refine ⟨_, _, Under.refl, ?_⟩
        refine WA.pure [11] [0, 1, 6, 7, 8, 22] (m := 0) (b' := 4095) (L' := [(0, .pointer (some ⟨b0, 0, none⟩)), (1, .pointer (some ⟨b1, 0, none⟩)), (6, .pointer (some ⟨b9, 0, none⟩)), (7, .pointer (some ⟨b10, 0, none⟩)), (8, .bool ((mget a1.f0 an7).isSome)), (22, .pointer (some ⟨it1, 0, none⟩))]) (by kernel_rfl) (NoPanic.then (NoPanic.block (NoPanic.then (NoPanic.block (NoPanic.then (NoPanic.then (NoPanic.body))))))) Under.refl hS (by kernel_rfl) ?_
        refine WA.done hS (by kernel_rfl) ?_
        refine QP.pick [0, 1, 6, 7, 8, 22] ?_
        refine QP.next ?_
        refine WP.dropAt 2 ?_
        rw [Option.bind_eq_some_iff] at h
        obtain ⟨os11, h, hk12⟩ := h
        refine WP.cut (fun L' G' Γ' => ∃ s11 : Bool, s11 = os11 ∧ L' = [(0, .pointer (some ⟨b0, 0, none⟩)), (1, .pointer (some ⟨b1, 0, none⟩)), (22, .pointer (some ⟨it1, 0, none⟩)), (46, .bool s11)] ∧ G = G' ∧ [] :: Cn7 :: [(b0, .cells #[mpv Aa0_f0, mpv Aa0_f1] 97 (0, 0))] :: Ca0_f0 :: Ca0_f1 :: [(b1, .cells #[mpv Aa1_f0, mpv Aa1_f1] 97 (0, 0))] :: Ca1_f0 :: Ca1_f1 :: Γ = Γ') ?_ ?_
        · clear hk12
          refine WP.region ?_
          refine WL.pure 0 3 [0, 1, 6, 7, 22, 39] (L' := [(0, .pointer (some ⟨b0, 0, none⟩)), (1, .pointer (some ⟨b1, 0, none⟩)), (6, .pointer (some ⟨b9, 0, none⟩)), (7, .pointer (some ⟨b10, 0, none⟩)), (22, .pointer (some ⟨it1, 0, none⟩)), (39, .bool (!((mget a1.f0 an7).isSome)))]) (by kernel_rfl) (by decide) ?_
          refine WL.split 39 (b := (!((mget a1.f0 an7).isSome))) (by kernel_rfl) (fun hc => ?_) (fun hc => ?_)
          · replace hc := hc
            rw [if_pos hc] at h
            have hc13 := hc
            clear hc
            refine WL.rest 3 [0, 1, 22, 46] (L' := [(0, .pointer (some ⟨b0, 0, none⟩)), (1, .pointer (some ⟨b1, 0, none⟩)), (22, .pointer (some ⟨it1, 0, none⟩)), (46, .bool true)]) (by kernel_rfl) ?_
            refine QP.dropAt 1 ?_
            refine QP.dropAt 0 ?_
            refine QP.pick [0, 1, 22, 46] ?_
            exact QP.meet ⟨_, Option.some.inj h, rfl, rfl, rfl⟩
          · replace hc := (Bool.eq_false_iff.1 hc)
            rw [if_neg hc] at h
            have hc13 := hc
            clear hc
            refine WL.pure 3 4 [0, 1, 7, 22, 39, 40] (L' := [(0, .pointer (some ⟨b0, 0, none⟩)), (1, .pointer (some ⟨b1, 0, none⟩)), (7, .pointer (some ⟨b10, 0, none⟩)), (22, .pointer (some ⟨it1, 0, none⟩)), (39, .bool false), (40, .pointer (some ⟨b9, 0, none⟩))]) (by kernel_rfl) (by decide) ?_
            refine WL.tell (op := .load 36 (.tmp 40)) (ty := 36) (d := some 41) (g := some (2, false)) (by kernel_rfl) (by kernel_rfl) (by kernel_rfl) (Tells.load_box (i := 1) (b := b9) (o := 0) (agg := true) (by rfl) ag36 (by kernel_rfl) (fun h => by cases h) (Nat.le_of_ble_eq_true rfl) (v := .agg #[.int .i64 en7.f0, .int .i64 en7.f1, .int .i64 en7.f2, .int .i64 en7.f3, .string en7.f4]) (by kernel_rfl)) ?_
            refine WL.pure 5 6 [0, 1, 22, 39, 41, 42] (L' := [(0, .pointer (some ⟨b0, 0, none⟩)), (1, .pointer (some ⟨b1, 0, none⟩)), (22, .pointer (some ⟨it1, 0, none⟩)), (39, .bool false), (41, .agg #[.int .i64 en7.f0, .int .i64 en7.f1, .int .i64 en7.f2, .int .i64 en7.f3, .string en7.f4]), (42, .pointer (some ⟨b10, 0, none⟩))]) (by kernel_rfl) (by decide) ?_
            refine WL.tell (op := .load 36 (.tmp 42)) (ty := 36) (d := some 43) (g := some (2, false)) (by kernel_rfl) (by kernel_rfl) (by kernel_rfl) (Tells.load_box (i := 0) (b := b10) (o := 0) (agg := true) (by rfl) ag36 (by kernel_rfl) (fun h => by cases h) (Nat.le_of_ble_eq_true rfl) (v := .agg #[.int .i64 (((mget a1.f0 an7).getD z103).f0), .int .i64 (((mget a1.f0 an7).getD z103).f1), .int .i64 (((mget a1.f0 an7).getD z103).f2), .int .i64 (((mget a1.f0 an7).getD z103).f3), .string (((mget a1.f0 an7).getD z103).f4)]) (by kernel_rfl)) ?_
            rw [Option.bind_eq_some_iff] at h
            obtain ⟨t14, ht15, h⟩ := h
            refine WL.op (op := .call { callee := (.value (.func 64)), args := #[(.tmp 41), (.tmp 43)], argTypes := #[36, 36] }) (ty := 4) (d := some 44) (g := some (2, false)) (by kernel_rfl) (by kernel_rfl) (by kernel_rfl) (Does.call (f := 64) (args := [.agg #[.int .i64 en7.f0, .int .i64 en7.f1, .int .i64 en7.f2, .int .i64 en7.f3, .string en7.f4], .agg #[.int .i64 (((mget a1.f0 an7).getD z103).f0), .int .i64 (((mget a1.f0 an7).getD z103).f1), .int .i64 (((mget a1.f0 an7).getD z103).f2), .int .i64 (((mget a1.f0 an7).getD z103).f3), .string (((mget a1.f0 an7).getD z103).f4)]]) (by kernel_rfl) (fun W hI => (record_Same_calls (⟨en7.f0, en7.f1, en7.f2, en7.f3, en7.f4⟩ : T36) (⟨((mget a1.f0 an7).getD z103).f0, ((mget a1.f0 an7).getD z103).f1, ((mget a1.f0 an7).getD z103).f2, ((mget a1.f0 an7).getD z103).f3, ((mget a1.f0 an7).getD z103).f4⟩ : T36)  t14 ht15 hI))) ?_
            rintro _ _ _ ⟨rfl, rfl, rfl⟩
            refine WL.rest 8 [0, 1, 22, 46] (L' := [(0, .pointer (some ⟨b0, 0, none⟩)), (1, .pointer (some ⟨b1, 0, none⟩)), (22, .pointer (some ⟨it1, 0, none⟩)), (46, .bool (!t14))]) (by kernel_rfl) ?_
            refine QP.dropAt 1 ?_
            refine QP.dropAt 0 ?_
            refine QP.pick [0, 1, 22, 46] ?_
            exact QP.meet ⟨_, Option.some.inj h, rfl, rfl, rfl⟩
        · rintro _ _ _ ⟨s11, rfl, rfl, rfl, rfl⟩
          clear h
          replace h := hk12
          refine WP.cond (b := s11) (by kernel_rfl) (fun hc => ?_) (fun hc => ?_)
          · replace hc := hc
            rw [if_pos hc] at h
            have hc18 := hc
            clear hc
            refine WP.seqP [4] (L' := [(4, .bool false)]) (by kernel_rfl) ?_
            refine WP.dropAt 1 ?_
            refine WP.dropAt 0 ?_
            refine WP.ret ?_
            refine QP.blockR ?_
            refine QP.thenR ?_
            refine QP.blockR ?_
            refine QP.thenR ?_
            refine QP.thenR ?_
            obtain rfl := Option.some.inj h
            obtain rfl := Option.some.inj (show some _ = some _ from hk3)
            exact QP.returned [4] [.bool false] _ (by kernel_rfl) (by kernel_rfl) (by kernel_rfl) (fun W hI => ⟨_, _, _, rfl, ⟨rfl, rfl, rfl⟩, hI⟩)
          · replace hc := (Bool.eq_false_iff.1 hc)
            rw [if_neg hc] at h
            have hc18 := hc
            clear hc
            refine WP.skip ?_
            refine QP.blockN ?_
            refine QP.front (i := 7) rfl ?_
            refine QP.front (i := 7) rfl ?_
            refine QP.front (i := 7) rfl ?_
            refine QP.front (i := 7) rfl ?_
            refine QP.front (i := 7) rfl ?_
            refine QP.front (i := 7) rfl ?_
            refine QP.front (i := 7) rfl ?_
            refine QP.front (i := 7) rfl ?_
            refine QP.pick [0, 1, 22] ?_
            exact QP.meet ⟨kn6, Nat.lt_succ_self _, (an7 :: y4), h, Cn7, rfl, rfl, rfl, Hitn7⟩
  · rintro _ _ _ ⟨s2, rfl, rfl, rfl, rfl⟩
    clear h
    replace h := hk3
    dsimp only at h
    refine QP.next ?_
    refine WP.pick [0, 1] ?_
    refine WP.seqR ?_
    refine WL.pure 0 1 [1, 47] (L' := [(1, .pointer (some ⟨b1, 0, none⟩)), (47, .pointer (some ⟨b0, 0, none⟩))]) (by kernel_rfl) (by decide) ?_
    refine WL.front (i := 2) rfl ?_
    refine WL.front (i := 2) rfl ?_
    refine WL.front (i := 2) rfl ?_
    rw [Option.bind_eq_some_iff] at h
    obtain ⟨t19, ht20, h⟩ := h
    refine WL.op (op := .call { callee := (.value (.func 21)), args := #[(.tmp 47)], argTypes := #[25] }) (ty := 3) (d := some 48) (g := none) (by kernel_rfl) (by kernel_rfl) (by kernel_rfl) (Does.call (f := 21) (args := [.pointer (some ⟨b0, 0, none⟩)]) (by kernel_rfl) (fun W hI => (tree_Tree_Len_calls a0 b0 Aa0_f0 ca0_f0 Ca0_f0 Ha0_f0 Aa0_f1 ca0_f1 Ca0_f1 Ha0_f1 t19 ht20 hI))) ?_
    rintro _ _ _ ⟨rfl, rfl, rfl⟩
    refine WL.pure 2 3 [48, 49] (L' := [(48, .int .i64 t19), (49, .pointer (some ⟨b1, 0, none⟩))]) (by kernel_rfl) (by decide) ?_
    refine WL.front (i := 5) rfl ?_
    refine WL.front (i := 5) rfl ?_
    refine WL.front (i := 5) rfl ?_
    rw [Option.bind_eq_some_iff] at h
    obtain ⟨t23, ht24, h⟩ := h
    refine WL.op (op := .call { callee := (.value (.func 21)), args := #[(.tmp 49)], argTypes := #[25] }) (ty := 3) (d := some 50) (g := none) (by kernel_rfl) (by kernel_rfl) (by kernel_rfl) (Does.call (f := 21) (args := [.pointer (some ⟨b1, 0, none⟩)]) (by kernel_rfl) (fun W hI => (tree_Tree_Len_calls a1 b1 Aa1_f0 ca1_f0 Ca1_f0 Ha1_f0 Aa1_f1 ca1_f1 Ca1_f1 Ha1_f1 t23 ht24 hI))) ?_
    rintro _ _ _ ⟨rfl, rfl, rfl⟩
    refine WL.restQ 4 [4] (L' := [(4, .bool (t19 == t23))]) (by kernel_rfl) ?_
    refine WP.ret ?_
    obtain rfl := Option.some.inj h
    refine QP.front (i := 2) rfl ?_
    refine QP.front (i := 2) rfl ?_
    refine QP.front (i := 2) rfl ?_
    refine QP.front (i := 5) rfl ?_
    refine QP.front (i := 5) rfl ?_
    refine QP.front (i := 5) rfl ?_
    exact QP.returned [4] [.bool (t19 == t23)] _ (by kernel_rfl) (by kernel_rfl) (by kernel_rfl) (fun W hI => ⟨_, _, _, rfl, ⟨rfl, rfl, rfl⟩, hI⟩)

/-! ### grapevine/grapevinelaw12.awake: function 13 -/
noncomputable def grapevinelaw12_awake (k : Nat) : Option Bool := ((tree_New ).bind fun t1 => ((grapevinelaw12_one ).bind fun t5 => ((grapevinelaw12_one ).bind fun t9 => ((tree_Tree_Put k t1 ([t5, t9] : List T36)).bind fun t16 => ((tree_Tree_Len t16.2).bind fun t21 => ((tree_Tree_Sum k t16.2 0 5 5).bind fun t25 => ((tree_Tree_Sum k t16.2 0 0 1).bind fun t29 => ((if t16.1 = 1 then (if t21 = 1 then (if ¬ t25.1 = 0 then (if t25.2 = true then (if (!t29.2) = true then ((tree_Tree_Root k t16.2).bind fun t40 => (if ¬ t40 = 0 then ((grapevinelaw12_one ).bind fun t45 => ((tree_Tree_Drop k t16.2 ([(⟨t45.f0, t45.f1⟩ : T32)] : List T32)).bind fun t52 => (if t52.1 = 1 then ((tree_Tree_Root k t52.2).bind fun t58 => (if t58 = 0 then ((tree_New ).bind fun t63 => ((tree_Same k t52.2 t63).bind fun t67 => some (t67, t52.2))) else some (false, t52.2))) else some (false, t52.2)))) else some (false, t16.2))) else some (false, t16.2)) else some (false, t16.2)) else some (false, t16.2)) else some (false, t16.2)) else some (false, t16.2)).bind fun s33 => some s33.1))))))))
set_option maxHeartbeats 4000000 in
theorem grapevinelaw12_awake_calls {B : World} {G : GMap} {Γ : List Chunk} {W : World} (HT : Tabs B G) (k : Nat) (r : Bool) (h : grapevinelaw12_awake k  = some r) (hI : Inv B G (Γ) W) :
    Calls Tryd.prog 13 [].toArray W (Ret B (fun v G' Γ' => v = .bool r ∧ G = G' ∧ Γ = Γ')) := by
  refine calls_WP (Γ := Γ) (G := G) (B := B) Tryd.func13 rfl (by kernel_rfl) ?_ hI
  clear hI
  unfold grapevinelaw12_awake at h
  refine WP.seqP [] (L' := []) (by kernel_rfl) ?_
  refine WP.seqR ?_
  rw [Option.bind_eq_some_iff] at h
  obtain ⟨t1, ht2, h⟩ := h
  refine WL.op (op := .call { callee := (.value (.func 14)), args := #[], argTypes := #[] }) (ty := 25) (d := some 8) (g := none) (by kernel_rfl) (by kernel_rfl) (by kernel_rfl) (Does.call (f := 14) (args := []) (by kernel_rfl) (fun W hI => (tree_New_calls   t1 ht2 hI))) ?_
  rintro _ _ _ ⟨bR3, AR3_0, cR3_0, CR3_0, AR3_1, cR3_1, CR3_1, rfl, HR3_0, HR3_1, rfl, rfl⟩
  refine WL.restQ 1 [1] (L' := [(1, .pointer (some ⟨bR3, 0, none⟩))]) (by kernel_rfl) ?_
  refine WP.seq ?_
  refine WP.seqP [1, 10] (L' := [(1, .pointer (some ⟨bR3, 0, none⟩)), (10, .bool false)]) (by kernel_rfl) ?_
  refine WP.no (by kernel_rfl) ?_
  refine WP.skip ?_
  refine QP.next ?_
  refine WP.pick [1] ?_
  refine WP.seqR ?_
  refine WL.pure 0 1 [1, 11] (L' := [(1, .pointer (some ⟨bR3, 0, none⟩)), (11, .pointer (some ⟨bR3, 0, none⟩))]) (by kernel_rfl) (by decide) ?_
  rw [Option.bind_eq_some_iff] at h
  obtain ⟨t5, ht6, h⟩ := h
  refine WL.op (op := .call { callee := (.value (.func 53)), args := #[], argTypes := #[] }) (ty := 36) (d := some 12) (g := none) (by kernel_rfl) (by kernel_rfl) (by kernel_rfl) (Does.call (f := 53) (args := []) (by kernel_rfl) (fun W hI => (grapevinelaw12_one_calls   t5 ht6 hI))) ?_
  rintro _ _ _ ⟨rfl, rfl, rfl⟩
  rw [Option.bind_eq_some_iff] at h
  obtain ⟨t9, ht10, h⟩ := h
  refine WL.op (op := .call { callee := (.value (.func 53)), args := #[], argTypes := #[] }) (ty := 36) (d := some 13) (g := none) (by kernel_rfl) (by kernel_rfl) (by kernel_rfl) (Does.call (f := 53) (args := []) (by kernel_rfl) (fun W hI => (grapevinelaw12_one_calls   t9 ht10 hI))) ?_
  rintro _ _ _ ⟨rfl, rfl, rfl⟩
  refine WL.op (op := .buildSlice 28 2 #[(0, (.tmp 12)), (1, (.tmp 13))]) (ty := 28) (d := some 14) (g := none) (by kernel_rfl) (by kernel_rfl) (by kernel_rfl) (Does.new (o := .cells #[.int .i64 t5.f0, .int .i64 t5.f1, .int .i64 t5.f2, .int .i64 t5.f3, .string t5.f4, .int .i64 t9.f0, .int .i64 t9.f1, .int .i64 t9.f2, .int .i64 t9.f3, .string t9.f4] 36 (0, 0)) (v := fun r => .slice (some ⟨r, 0, none⟩) 2 2) (fun r => by kernel_rfl)) ?_
  rintro _ _ _ ⟨b13, rfl, rfl, rfl⟩
  have Ho15 : Ow k36 G (some ⟨b13, 0, none⟩) 2 ([t5, t9] : List T36) [(b13, .cells #[.int .i64 t5.f0, .int .i64 t5.f1, .int .i64 t5.f2, .int .i64 t5.f3, .string t5.f4, .int .i64 t9.f0, .int .i64 t9.f1, .int .i64 t9.f2, .int .i64 t9.f3, .string t9.f4] 36 (0, 0))] := Ow.lit (kd := k36) (G := G) (b := b13) (T := 36) (xs := ([t5, t9] : List T36)) (cs := [.int .i64 t5.f0, .int .i64 t5.f1, .int .i64 t5.f2, .int .i64 t5.f3, .string t5.f4, .int .i64 t9.f0, .int .i64 t9.f1, .int .i64 t9.f2, .int .i64 t9.f3, .string t9.f4]) (.cons (x := t5) (cs := [.int .i64 t5.f0, .int .i64 t5.f1, .int .i64 t5.f2, .int .i64 t5.f3, .string t5.f4]) (by exact rfl) (.cons (x := t9) (cs := [.int .i64 t9.f0, .int .i64 t9.f1, .int .i64 t9.f2, .int .i64 t9.f3, .string t9.f4]) (by exact rfl) .nil))
  refine WL.front (i := 3) rfl ?_
  refine WL.front (i := 3) rfl ?_
  refine WL.front (i := 3) rfl ?_
  rw [Option.bind_eq_some_iff] at h
  obtain ⟨t16, ht17, h⟩ := h
  refine WL.op (op := .call { callee := (.value (.func 17)), args := #[(.tmp 11), (.tmp 14)], argTypes := #[25, 28] }) (ty := 3) (d := some 15) (g := none) (by kernel_rfl) (by kernel_rfl) (by kernel_rfl) (Does.call (Φ := fun v' G' Γ' => ∃ (AR18p0_0 : Option Addr), ∃ (cR18p0_0 : Nat), ∃ (CR18p0_0 : Chunk), ∃ (AR18p0_1 : Option Addr), ∃ (cR18p0_1 : Nat), ∃ (CR18p0_1 : Chunk), v' = .int .i64 t16.1 ∧ MpO m94 G AR18p0_0 cR18p0_0 t16.2.f0 CR18p0_0 ∧ MpO m95 G AR18p0_1 cR18p0_1 t16.2.f1 CR18p0_1 ∧ G = G' ∧ [(bR3, .cells #[mpv AR18p0_0, mpv AR18p0_1] 97 (0, 0))] :: CR18p0_0 :: CR18p0_1 :: [(b13, .cells #[.int .i64 t5.f0, .int .i64 t5.f1, .int .i64 t5.f2, .int .i64 t5.f3, .string t5.f4, .int .i64 t9.f0, .int .i64 t9.f1, .int .i64 t9.f2, .int .i64 t9.f3, .string t9.f4] 36 (0, 0))] :: Γ = Γ') (f := 17) (args := [.pointer (some ⟨bR3, 0, none⟩), .slice (some ⟨b13, 0, none⟩) ([t5, t9] : List T36).length 2]) (by kernel_rfl) (fun W hI => (Calls.lendN (Φ := fun v' N => ∃ (AR18p0_0 : Option Addr), ∃ (cR18p0_0 : Nat), ∃ (CR18p0_0 : Chunk), ∃ (AR18p0_1 : Option Addr), ∃ (cR18p0_1 : Nat), ∃ (CR18p0_1 : Chunk), v' = .int .i64 t16.1 ∧ MpO m94 G AR18p0_0 cR18p0_0 t16.2.f0 CR18p0_0 ∧ MpO m95 G AR18p0_1 cR18p0_1 t16.2.f1 CR18p0_1 ∧ N = [[(bR3, .cells #[mpv AR18p0_0, mpv AR18p0_1] 97 (0, 0))], CR18p0_0, CR18p0_1]) (H := [[(bR3, .cells #[mpv AR3_0, mpv AR3_1] 97 (0, 0))], CR3_0, CR3_1]) (i := 0) rfl hI (fun _ e l20 nl20 hI => by subst e; exact (((tree_Tree_Put_calls (HT.mono l20) k t1 ([t5, t9] : List T36) bR3 AR3_0 cR3_0 CR3_0 (HR3_0.mono l20) AR3_1 cR3_1 CR3_1 (HR3_1.mono l20) (some ⟨b13, 0, none⟩) 2 (Ho15.rdN l20 nl20) t16 ht17 hI)).mono fun _ _ hr => by obtain ⟨_, _, _, rfl, hd, hI⟩ := hr; obtain ⟨AR18p0_0, cR18p0_0, CR18p0_0, AR18p0_1, cR18p0_1, CR18p0_1, rfl, HR18p0_0, HR18p0_1, rfl, rfl⟩ := hd; exact ⟨_, _, _, rfl, ⟨[[(bR3, .cells #[mpv AR18p0_0, mpv AR18p0_1] 97 (0, 0))], CR18p0_0, CR18p0_1], ⟨AR18p0_0, cR18p0_0, CR18p0_0, AR18p0_1, cR18p0_1, CR18p0_1, rfl, (HR18p0_0.flat ()), (HR18p0_1.flat ()), rfl⟩, rfl, rfl⟩, hI⟩))).mono fun _ _ hr => by obtain ⟨_, _, _, rfl, ⟨_, hd, rfl, rfl⟩, hI⟩ := hr; obtain ⟨AR18p0_0, cR18p0_0, CR18p0_0, AR18p0_1, cR18p0_1, CR18p0_1, rfl, HR18p0_0, HR18p0_1, rfl⟩ := hd; exact ⟨_, _, _, rfl, ⟨AR18p0_0, cR18p0_0, CR18p0_0, AR18p0_1, cR18p0_1, CR18p0_1, rfl, HR18p0_0, HR18p0_1, rfl, rfl⟩, hI⟩)) ?_
  rintro _ _ _ ⟨AR18p0_0, cR18p0_0, CR18p0_0, AR18p0_1, cR18p0_1, CR18p0_1, rfl, HR18p0_0, HR18p0_1, rfl, rfl⟩
  refine WL.pure 5 6 [1, 15, 16] (L' := [(1, .pointer (some ⟨bR3, 0, none⟩)), (15, .int .i64 t16.1), (16, .pointer (some ⟨bR3, 0, none⟩))]) (by kernel_rfl) (by decide) ?_
  refine WL.front (i := 2) rfl ?_
  refine WL.front (i := 2) rfl ?_
  refine WL.front (i := 2) rfl ?_
  rw [Option.bind_eq_some_iff] at h
  obtain ⟨t21, ht22, h⟩ := h
  refine WL.op (op := .call { callee := (.value (.func 21)), args := #[(.tmp 16)], argTypes := #[25] }) (ty := 3) (d := some 17) (g := none) (by kernel_rfl) (by kernel_rfl) (by kernel_rfl) (Does.call (f := 21) (args := [.pointer (some ⟨bR3, 0, none⟩)]) (by kernel_rfl) (fun W hI => (tree_Tree_Len_calls t16.2 bR3 AR18p0_0 cR18p0_0 CR18p0_0 HR18p0_0 AR18p0_1 cR18p0_1 CR18p0_1 HR18p0_1 t21 ht22 hI))) ?_
  rintro _ _ _ ⟨rfl, rfl, rfl⟩
  refine WL.restQ 7 [1, 2, 3] (L' := [(1, .pointer (some ⟨bR3, 0, none⟩)), (2, .int .i64 t16.1), (3, .int .i64 t21)]) (by kernel_rfl) ?_
  refine WP.dropAt 3 ?_
  refine WP.seqR ?_
  refine WL.pure 0 1 [1, 2, 3, 19] (L' := [(1, .pointer (some ⟨bR3, 0, none⟩)), (2, .int .i64 t16.1), (3, .int .i64 t21), (19, .pointer (some ⟨bR3, 0, none⟩))]) (by kernel_rfl) (by decide) ?_
  refine WL.front (i := 2) rfl ?_
  refine WL.front (i := 2) rfl ?_
  refine WL.front (i := 2) rfl ?_
  rw [Option.bind_eq_some_iff] at h
  obtain ⟨t25, ht26, h⟩ := h
  refine WL.op (op := .call { callee := (.value (.func 19)), args := #[(.tmp 19), (.const (.int .i64 0)), (.const (.int .i64 5)), (.const (.int .i64 5))], argTypes := #[25, 3, 3, 3] }) (ty := 45) (d := some 20) (g := none) (by kernel_rfl) (by kernel_rfl) (by kernel_rfl) (Does.call (f := 19) (args := [.pointer (some ⟨bR3, 0, none⟩), .int .i64 0, .int .i64 5, .int .i64 5]) (by kernel_rfl) (fun W hI => (tree_Tree_Sum_calls k t16.2 0 5 5 bR3 AR18p0_0 cR18p0_0 CR18p0_0 HR18p0_0 AR18p0_1 cR18p0_1 CR18p0_1 HR18p0_1 t25 ht26 hI))) ?_
  rintro _ _ _ ⟨rfl, rfl, rfl⟩
  refine WL.restQ 2 [1, 2, 3, 4, 5] (L' := [(1, .pointer (some ⟨bR3, 0, none⟩)), (2, .int .i64 t16.1), (3, .int .i64 t21), (4, .int .u64 t25.1), (5, .bool t25.2)]) (by kernel_rfl) ?_
  refine WP.seqR ?_
  refine WL.pure 0 1 [1, 2, 3, 4, 5, 24] (L' := [(1, .pointer (some ⟨bR3, 0, none⟩)), (2, .int .i64 t16.1), (3, .int .i64 t21), (4, .int .u64 t25.1), (5, .bool t25.2), (24, .pointer (some ⟨bR3, 0, none⟩))]) (by kernel_rfl) (by decide) ?_
  refine WL.front (i := 2) rfl ?_
  refine WL.front (i := 2) rfl ?_
  refine WL.front (i := 2) rfl ?_
  rw [Option.bind_eq_some_iff] at h
  obtain ⟨t29, ht30, h⟩ := h
  refine WL.op (op := .call { callee := (.value (.func 19)), args := #[(.tmp 24), (.const (.int .i64 0)), (.const (.int .i64 0)), (.const (.int .i64 1))], argTypes := #[25, 3, 3, 3] }) (ty := 45) (d := some 25) (g := none) (by kernel_rfl) (by kernel_rfl) (by kernel_rfl) (Does.call (f := 19) (args := [.pointer (some ⟨bR3, 0, none⟩), .int .i64 0, .int .i64 0, .int .i64 1]) (by kernel_rfl) (fun W hI => (tree_Tree_Sum_calls k t16.2 0 0 1 bR3 AR18p0_0 cR18p0_0 CR18p0_0 HR18p0_0 AR18p0_1 cR18p0_1 CR18p0_1 HR18p0_1 t29 ht30 hI))) ?_
  rintro _ _ _ ⟨rfl, rfl, rfl⟩
  refine WL.restQ 2 [1, 2, 3, 4, 5, 7] (L' := [(1, .pointer (some ⟨bR3, 0, none⟩)), (2, .int .i64 t16.1), (3, .int .i64 t21), (4, .int .u64 t25.1), (5, .bool t25.2), (7, .bool t29.2)]) (by kernel_rfl) ?_
  rw [Option.bind_eq_some_iff] at h
  obtain ⟨os33, h, hk34⟩ := h
  refine WP.cut (fun L' G' Γ' => ∃ s33 : Bool × T97, s33 = os33 ∧ ∃ (As33_2_f0 : Option Addr), ∃ (cs33_2_f0 : Nat), ∃ (Cs33_2_f0 : Chunk), ∃ (As33_2_f1 : Option Addr), ∃ (cs33_2_f1 : Nat), ∃ (Cs33_2_f1 : Chunk), L' = [(0, .bool s33.1)] ∧ G = G' ∧ [(bR3, .cells #[mpv As33_2_f0, mpv As33_2_f1] 97 (0, 0))] :: Cs33_2_f0 :: Cs33_2_f1 :: Γ = Γ' ∧ MpO m94 G As33_2_f0 cs33_2_f0 s33.2.f0 Cs33_2_f0 ∧ MpO m95 G As33_2_f1 cs33_2_f1 s33.2.f1 Cs33_2_f1) ?_ ?_
  · clear hk34
    refine WP.region ?_
    refine WL.pure 0 3 [1, 3, 4, 5, 7, 30] (L' := [(1, .pointer (some ⟨bR3, 0, none⟩)), (3, .int .i64 t21), (4, .int .u64 t25.1), (5, .bool t25.2), (7, .bool t29.2), (30, .bool (t16.1 == 1))]) (by kernel_rfl) (by decide) ?_
    refine WL.split 30 (b := (t16.1 == 1)) (by kernel_rfl) (fun hc => ?_) (fun hc => ?_)
    · replace hc := eq_of_beq hc
      rw [if_pos hc] at h
      have hc35 := hc
      clear hc
      refine WL.pure 3 7 [1, 4, 5, 7, 34] (L' := [(1, .pointer (some ⟨bR3, 0, none⟩)), (4, .int .u64 t25.1), (5, .bool t25.2), (7, .bool t29.2), (34, .bool (t21 == 1))]) (by kernel_rfl) (by decide) ?_
      refine WL.split 34 (b := (t21 == 1)) (by kernel_rfl) (fun hc => ?_) (fun hc => ?_)
      · replace hc := eq_of_beq hc
        rw [if_pos hc] at h
        have hc36 := hc
        clear hc
        refine WL.pure 7 11 [1, 5, 7, 38] (L' := [(1, .pointer (some ⟨bR3, 0, none⟩)), (5, .bool t25.2), (7, .bool t29.2), (38, .bool (t25.1 != 0))]) (by kernel_rfl) (by decide) ?_
        refine WL.split 38 (b := (t25.1 != 0)) (by kernel_rfl) (fun hc => ?_) (fun hc => ?_)
        · replace hc := (bne_iff_ne.1 hc)
          rw [if_pos hc] at h
          have hc37 := hc
          clear hc
          refine WL.pure 11 14 [1, 7, 41] (L' := [(1, .pointer (some ⟨bR3, 0, none⟩)), (7, .bool t29.2), (41, .bool t25.2)]) (by kernel_rfl) (by decide) ?_
          refine WL.split 41 (b := t25.2) (by kernel_rfl) (fun hc => ?_) (fun hc => ?_)
          · replace hc := hc
            rw [if_pos hc] at h
            have hc38 := hc
            clear hc
            refine WL.pure 14 18 [1, 45] (L' := [(1, .pointer (some ⟨bR3, 0, none⟩)), (45, .bool (!t29.2))]) (by kernel_rfl) (by decide) ?_
            refine WL.split 45 (b := (!t29.2)) (by kernel_rfl) (fun hc => ?_) (fun hc => ?_)
            · replace hc := hc
              rw [if_pos hc] at h
              have hc39 := hc
              clear hc
              refine WL.pure 18 19 [1, 45, 46] (L' := [(1, .pointer (some ⟨bR3, 0, none⟩)), (45, .bool true), (46, .pointer (some ⟨bR3, 0, none⟩))]) (by kernel_rfl) (by decide) ?_
              refine WL.front (i := 2) rfl ?_
              refine WL.front (i := 2) rfl ?_
              refine WL.front (i := 2) rfl ?_
              rw [Option.bind_eq_some_iff] at h
              obtain ⟨t40, ht41, h⟩ := h
              refine WL.op (op := .call { callee := (.value (.func 22)), args := #[(.tmp 46)], argTypes := #[25] }) (ty := 44) (d := some 47) (g := some (17, true)) (by kernel_rfl) (by kernel_rfl) (by kernel_rfl) (Does.call (f := 22) (args := [.pointer (some ⟨bR3, 0, none⟩)]) (by kernel_rfl) (fun W hI => (tree_Tree_Root_calls k t16.2 bR3 AR18p0_0 cR18p0_0 CR18p0_0 HR18p0_0 AR18p0_1 cR18p0_1 CR18p0_1 HR18p0_1 t40 ht41 hI))) ?_
              rintro _ _ _ ⟨rfl, rfl, rfl⟩
              refine WL.pure 20 23 [1, 50] (L' := [(1, .pointer (some ⟨bR3, 0, none⟩)), (50, .bool (t40 != 0))]) (by kernel_rfl) (by decide) ?_
              refine WL.split 50 (b := (t40 != 0)) (by kernel_rfl) (fun hc => ?_) (fun hc => ?_)
              · replace hc := (bne_iff_ne.1 hc)
                rw [if_pos hc] at h
                have hc44 := hc
                clear hc
                refine WL.pure 23 24 [1, 50, 51] (L' := [(1, .pointer (some ⟨bR3, 0, none⟩)), (50, .bool true), (51, .pointer (some ⟨bR3, 0, none⟩))]) (by kernel_rfl) (by decide) ?_
                rw [Option.bind_eq_some_iff] at h
                obtain ⟨t45, ht46, h⟩ := h
                refine WL.op (op := .call { callee := (.value (.func 53)), args := #[], argTypes := #[] }) (ty := 36) (d := some 52) (g := some (22, true)) (by kernel_rfl) (by kernel_rfl) (by kernel_rfl) (Does.call (f := 53) (args := []) (by kernel_rfl) (fun W hI => (grapevinelaw12_one_calls   t45 ht46 hI))) ?_
                rintro _ _ _ ⟨rfl, rfl, rfl⟩
                refine WL.pure 25 26 [1, 50, 51, 53] (L' := [(1, .pointer (some ⟨bR3, 0, none⟩)), (50, .bool true), (51, .pointer (some ⟨bR3, 0, none⟩)), (53, .agg #[.int .i64 t45.f0, .int .i64 t45.f1])]) (by kernel_rfl) (by decide) ?_
                refine WL.op (op := .buildSlice 41 1 #[(0, (.tmp 53))]) (ty := 41) (d := some 54) (g := some (22, true)) (by kernel_rfl) (by kernel_rfl) (by kernel_rfl) (Does.new (o := .cells #[.int .i64 t45.f0, .int .i64 t45.f1] 32 (0, 0)) (v := fun r => .slice (some ⟨r, 0, none⟩) 1 1) (fun r => by kernel_rfl)) ?_
                rintro _ _ _ ⟨b49, rfl, rfl, rfl⟩
                have Ho51 : Ow k32 G (some ⟨b49, 0, none⟩) 1 ([(⟨t45.f0, t45.f1⟩ : T32)] : List T32) [(b49, .cells #[.int .i64 t45.f0, .int .i64 t45.f1] 32 (0, 0))] := Ow.lit (kd := k32) (G := G) (b := b49) (T := 32) (xs := ([(⟨t45.f0, t45.f1⟩ : T32)] : List T32)) (cs := [.int .i64 t45.f0, .int .i64 t45.f1]) (.cons (x := (⟨t45.f0, t45.f1⟩ : T32)) (cs := [.int .i64 t45.f0, .int .i64 t45.f1]) (by exact rfl) .nil)
                refine WL.front (i := 3) rfl ?_
                refine WL.front (i := 3) rfl ?_
                refine WL.front (i := 3) rfl ?_
                rw [Option.bind_eq_some_iff] at h
                obtain ⟨t52, ht53, h⟩ := h
                refine WL.op (op := .call { callee := (.value (.func 15)), args := #[(.tmp 51), (.tmp 54)], argTypes := #[25, 41] }) (ty := 3) (d := some 55) (g := some (22, true)) (by kernel_rfl) (by kernel_rfl) (by kernel_rfl) (Does.call (Φ := fun v' G' Γ' => ∃ (AR54p0_0 : Option Addr), ∃ (cR54p0_0 : Nat), ∃ (CR54p0_0 : Chunk), ∃ (AR54p0_1 : Option Addr), ∃ (cR54p0_1 : Nat), ∃ (CR54p0_1 : Chunk), v' = .int .i64 t52.1 ∧ MpO m94 G AR54p0_0 cR54p0_0 t52.2.f0 CR54p0_0 ∧ MpO m95 G AR54p0_1 cR54p0_1 t52.2.f1 CR54p0_1 ∧ G = G' ∧ [(bR3, .cells #[mpv AR54p0_0, mpv AR54p0_1] 97 (0, 0))] :: CR54p0_0 :: CR54p0_1 :: [(b49, .cells #[.int .i64 t45.f0, .int .i64 t45.f1] 32 (0, 0))] :: Γ = Γ') (f := 15) (args := [.pointer (some ⟨bR3, 0, none⟩), .slice (some ⟨b49, 0, none⟩) ([(⟨t45.f0, t45.f1⟩ : T32)] : List T32).length 1]) (by kernel_rfl) (fun W hI => (Calls.lendN (Φ := fun v' N => ∃ (AR54p0_0 : Option Addr), ∃ (cR54p0_0 : Nat), ∃ (CR54p0_0 : Chunk), ∃ (AR54p0_1 : Option Addr), ∃ (cR54p0_1 : Nat), ∃ (CR54p0_1 : Chunk), v' = .int .i64 t52.1 ∧ MpO m94 G AR54p0_0 cR54p0_0 t52.2.f0 CR54p0_0 ∧ MpO m95 G AR54p0_1 cR54p0_1 t52.2.f1 CR54p0_1 ∧ N = [[(bR3, .cells #[mpv AR54p0_0, mpv AR54p0_1] 97 (0, 0))], CR54p0_0, CR54p0_1]) (H := [[(bR3, .cells #[mpv AR18p0_0, mpv AR18p0_1] 97 (0, 0))], CR18p0_0, CR18p0_1]) (i := 0) rfl hI (fun _ e l56 nl56 hI => by subst e; exact (((tree_Tree_Drop_calls k t16.2 ([(⟨t45.f0, t45.f1⟩ : T32)] : List T32) bR3 AR18p0_0 cR18p0_0 CR18p0_0 (HR18p0_0.mono l56) AR18p0_1 cR18p0_1 CR18p0_1 (HR18p0_1.mono l56) (some ⟨b49, 0, none⟩) 1 (Ho51.rdN l56 nl56) t52 ht53 hI)).mono fun _ _ hr => by obtain ⟨_, _, _, rfl, hd, hI⟩ := hr; obtain ⟨AR54p0_0, cR54p0_0, CR54p0_0, AR54p0_1, cR54p0_1, CR54p0_1, rfl, HR54p0_0, HR54p0_1, rfl, rfl⟩ := hd; exact ⟨_, _, _, rfl, ⟨[[(bR3, .cells #[mpv AR54p0_0, mpv AR54p0_1] 97 (0, 0))], CR54p0_0, CR54p0_1], ⟨AR54p0_0, cR54p0_0, CR54p0_0, AR54p0_1, cR54p0_1, CR54p0_1, rfl, (HR54p0_0.flat ()), (HR54p0_1.flat ()), rfl⟩, rfl, rfl⟩, hI⟩))).mono fun _ _ hr => by obtain ⟨_, _, _, rfl, ⟨_, hd, rfl, rfl⟩, hI⟩ := hr; obtain ⟨AR54p0_0, cR54p0_0, CR54p0_0, AR54p0_1, cR54p0_1, CR54p0_1, rfl, HR54p0_0, HR54p0_1, rfl⟩ := hd; exact ⟨_, _, _, rfl, ⟨AR54p0_0, cR54p0_0, CR54p0_0, AR54p0_1, cR54p0_1, CR54p0_1, rfl, HR54p0_0, HR54p0_1, rfl, rfl⟩, hI⟩)) ?_
                rintro _ _ _ ⟨AR54p0_0, cR54p0_0, CR54p0_0, AR54p0_1, cR54p0_1, CR54p0_1, rfl, HR54p0_0, HR54p0_1, rfl, rfl⟩
                refine WL.pure 28 31 [1, 58] (L' := [(1, .pointer (some ⟨bR3, 0, none⟩)), (58, .bool (t52.1 == 1))]) (by kernel_rfl) (by decide) ?_
                refine WL.split 58 (b := (t52.1 == 1)) (by kernel_rfl) (fun hc => ?_) (fun hc => ?_)
                · replace hc := eq_of_beq hc
                  rw [if_pos hc] at h
                  have hc57 := hc
                  clear hc
                  refine WL.pure 31 32 [1, 58, 59] (L' := [(1, .pointer (some ⟨bR3, 0, none⟩)), (58, .bool true), (59, .pointer (some ⟨bR3, 0, none⟩))]) (by kernel_rfl) (by decide) ?_
                  refine WL.front (i := 2) rfl ?_
                  refine WL.front (i := 2) rfl ?_
                  refine WL.front (i := 2) rfl ?_
                  rw [Option.bind_eq_some_iff] at h
                  obtain ⟨t58, ht59, h⟩ := h
                  refine WL.op (op := .call { callee := (.value (.func 22)), args := #[(.tmp 59)], argTypes := #[25] }) (ty := 44) (d := some 60) (g := some (30, true)) (by kernel_rfl) (by kernel_rfl) (by kernel_rfl) (Does.call (f := 22) (args := [.pointer (some ⟨bR3, 0, none⟩)]) (by kernel_rfl) (fun W hI => (tree_Tree_Root_calls k t52.2 bR3 AR54p0_0 cR54p0_0 CR54p0_0 HR54p0_0 AR54p0_1 cR54p0_1 CR54p0_1 HR54p0_1 t58 ht59 hI))) ?_
                  rintro _ _ _ ⟨rfl, rfl, rfl⟩
                  refine WL.pure 33 36 [1, 63] (L' := [(1, .pointer (some ⟨bR3, 0, none⟩)), (63, .bool (t58 == 0))]) (by kernel_rfl) (by decide) ?_
                  refine WL.split 63 (b := (t58 == 0)) (by kernel_rfl) (fun hc => ?_) (fun hc => ?_)
                  · replace hc := eq_of_beq hc
                    rw [if_pos hc] at h
                    have hc62 := hc
                    clear hc
                    refine WL.pure 36 37 [63, 64] (L' := [(63, .bool true), (64, .pointer (some ⟨bR3, 0, none⟩))]) (by kernel_rfl) (by decide) ?_
                    rw [Option.bind_eq_some_iff] at h
                    obtain ⟨t63, ht64, h⟩ := h
                    refine WL.op (op := .call { callee := (.value (.func 14)), args := #[], argTypes := #[] }) (ty := 25) (d := some 65) (g := some (35, true)) (by kernel_rfl) (by kernel_rfl) (by kernel_rfl) (Does.call (f := 14) (args := []) (by kernel_rfl) (fun W hI => (tree_New_calls   t63 ht64 hI))) ?_
                    rintro _ _ _ ⟨bR65, AR65_0, cR65_0, CR65_0, AR65_1, cR65_1, CR65_1, rfl, HR65_0, HR65_1, rfl, rfl⟩
                    refine WL.front (i := 2) rfl ?_
                    refine WL.front (i := 2) rfl ?_
                    refine WL.front (i := 2) rfl ?_
                    refine WL.front (i := 5) rfl ?_
                    refine WL.front (i := 5) rfl ?_
                    refine WL.front (i := 5) rfl ?_
                    rw [Option.bind_eq_some_iff] at h
                    obtain ⟨t67, ht68, h⟩ := h
                    refine WL.op (op := .call { callee := (.value (.func 24)), args := #[(.tmp 64), (.tmp 65)], argTypes := #[25, 25] }) (ty := 4) (d := some 66) (g := some (35, true)) (by kernel_rfl) (by kernel_rfl) (by kernel_rfl) (Does.call (f := 24) (args := [.pointer (some ⟨bR3, 0, none⟩), .pointer (some ⟨bR65, 0, none⟩)]) (by kernel_rfl) (fun W hI => (tree_Same_calls k t52.2 t63 bR3 AR54p0_0 cR54p0_0 CR54p0_0 HR54p0_0 AR54p0_1 cR54p0_1 CR54p0_1 HR54p0_1 bR65 AR65_0 cR65_0 CR65_0 HR65_0 AR65_1 cR65_1 CR65_1 HR65_1 t67 ht68 hI))) ?_
                    rintro _ _ _ ⟨rfl, rfl, rfl⟩
                    refine WL.rest 39 [0] (L' := [(0, .bool t67)]) (by kernel_rfl) ?_
                    refine QP.dropAt 6 ?_
                    refine QP.dropAt 5 ?_
                    refine QP.dropAt 4 ?_
                    refine QP.dropAt 3 ?_
                    refine QP.pick [0] ?_
                    exact QP.meet ⟨_, Option.some.inj h, AR54p0_0, cR54p0_0, CR54p0_0, AR54p0_1, cR54p0_1, CR54p0_1, rfl, rfl, rfl, HR54p0_0, HR54p0_1⟩
                  · replace hc := ne_of_beq_false hc
                    rw [if_neg hc] at h
                    have hc62 := hc
                    clear hc
                    refine WL.rest 36 [0] (L' := [(0, .bool false)]) (by kernel_rfl) ?_
                    refine QP.dropAt 3 ?_
                    refine QP.pick [0] ?_
                    exact QP.meet ⟨_, Option.some.inj h, AR54p0_0, cR54p0_0, CR54p0_0, AR54p0_1, cR54p0_1, CR54p0_1, rfl, rfl, rfl, HR54p0_0, HR54p0_1⟩
                · replace hc := ne_of_beq_false hc
                  rw [if_neg hc] at h
                  have hc57 := hc
                  clear hc
                  refine WL.rest 31 [0] (L' := [(0, .bool false)]) (by kernel_rfl) ?_
                  refine QP.dropAt 3 ?_
                  refine QP.pick [0] ?_
                  exact QP.meet ⟨_, Option.some.inj h, AR54p0_0, cR54p0_0, CR54p0_0, AR54p0_1, cR54p0_1, CR54p0_1, rfl, rfl, rfl, HR54p0_0, HR54p0_1⟩
              · replace hc := (not_not_intro (bne_eq_false_iff_eq.1 hc))
                rw [if_neg hc] at h
                have hc44 := hc
                clear hc
                refine WL.rest 23 [0] (L' := [(0, .bool false)]) (by kernel_rfl) ?_
                refine QP.pick [0] ?_
                exact QP.meet ⟨_, Option.some.inj h, AR18p0_0, cR18p0_0, CR18p0_0, AR18p0_1, cR18p0_1, CR18p0_1, rfl, rfl, rfl, HR18p0_0, HR18p0_1⟩
            · replace hc := (Bool.eq_false_iff.1 hc)
              rw [if_neg hc] at h
              have hc39 := hc
              clear hc
              refine WL.rest 18 [0] (L' := [(0, .bool false)]) (by kernel_rfl) ?_
              refine QP.pick [0] ?_
              exact QP.meet ⟨_, Option.some.inj h, AR18p0_0, cR18p0_0, CR18p0_0, AR18p0_1, cR18p0_1, CR18p0_1, rfl, rfl, rfl, HR18p0_0, HR18p0_1⟩
          · replace hc := (Bool.eq_false_iff.1 hc)
            rw [if_neg hc] at h
            have hc38 := hc
            clear hc
            refine WL.rest 14 [0] (L' := [(0, .bool false)]) (by kernel_rfl) ?_
            refine QP.pick [0] ?_
            exact QP.meet ⟨_, Option.some.inj h, AR18p0_0, cR18p0_0, CR18p0_0, AR18p0_1, cR18p0_1, CR18p0_1, rfl, rfl, rfl, HR18p0_0, HR18p0_1⟩
        · replace hc := (not_not_intro (bne_eq_false_iff_eq.1 hc))
          rw [if_neg hc] at h
          have hc37 := hc
          clear hc
          refine WL.rest 11 [0] (L' := [(0, .bool false)]) (by kernel_rfl) ?_
          refine QP.pick [0] ?_
          exact QP.meet ⟨_, Option.some.inj h, AR18p0_0, cR18p0_0, CR18p0_0, AR18p0_1, cR18p0_1, CR18p0_1, rfl, rfl, rfl, HR18p0_0, HR18p0_1⟩
      · replace hc := ne_of_beq_false hc
        rw [if_neg hc] at h
        have hc36 := hc
        clear hc
        refine WL.rest 7 [0] (L' := [(0, .bool false)]) (by kernel_rfl) ?_
        refine QP.pick [0] ?_
        exact QP.meet ⟨_, Option.some.inj h, AR18p0_0, cR18p0_0, CR18p0_0, AR18p0_1, cR18p0_1, CR18p0_1, rfl, rfl, rfl, HR18p0_0, HR18p0_1⟩
    · replace hc := ne_of_beq_false hc
      rw [if_neg hc] at h
      have hc35 := hc
      clear hc
      refine WL.rest 3 [0] (L' := [(0, .bool false)]) (by kernel_rfl) ?_
      refine QP.pick [0] ?_
      exact QP.meet ⟨_, Option.some.inj h, AR18p0_0, cR18p0_0, CR18p0_0, AR18p0_1, cR18p0_1, CR18p0_1, rfl, rfl, rfl, HR18p0_0, HR18p0_1⟩
  · rintro _ _ _ ⟨s33, rfl, As33_2_f0, cs33_2_f0, Cs33_2_f0, As33_2_f1, cs33_2_f1, Cs33_2_f1, rfl, rfl, rfl, Hs33_2_f0, Hs33_2_f1⟩
    clear h
    replace h := hk34
    refine WP.ret ?_
    obtain rfl := Option.some.inj h
    refine QP.dropAt 2 ?_
    refine QP.dropAt 1 ?_
    refine QP.dropAt 0 ?_
    exact QP.returned [0] [.bool s33.1] _ (by kernel_rfl) (by kernel_rfl) (by kernel_rfl) (fun W hI => ⟨_, _, _, rfl, ⟨rfl, rfl, rfl⟩, hI⟩)

/-! ### grapevine/grapevineref4.MayKey: function 27 -/
def grapevineref4_MayKey (a0 : T32) : Option Bool := ((if a0.f0 ≥ 0 then (if a0.f0 < 8 then (if a0.f1 ≥ 1 then some (decide (a0.f1 ≤ 1023)) else some false) else some false) else some false).bind fun s2 => some s2)
set_option maxHeartbeats 4000000 in
theorem grapevineref4_MayKey_calls {B : World} {G : GMap} {Γ : List Chunk} {W : World} (a0 : T32) (r : Bool) (h : grapevineref4_MayKey a0 = some r) (hI : Inv B G (Γ) W) :
    Calls Tryd.prog 27 [.agg #[.int .i64 a0.f0, .int .i64 a0.f1]].toArray W (Ret B (fun v G' Γ' => v = .bool r ∧ G = G' ∧ Γ = Γ')) := by
  refine calls_WP (Γ := Γ) (G := G) (B := B) Tryd.func27 rfl (by kernel_rfl) ?_ hI
  clear hI
  unfold grapevineref4_MayKey at h
  refine WP.seqR ?_
  refine WL.op (op := .box 32 (.tmp 0)) (ty := 0) (d := some 1) (g := none) (by kernel_rfl) (by kernel_rfl) (by kernel_rfl) (Does.new (o := .cells #[.int .i64 a0.f0, .int .i64 a0.f1] 32 (0, 0)) (v := fun r => .pointer (some ⟨r, 0, none⟩)) (fun r => by kernel_rfl)) ?_
  rintro _ _ _ ⟨b1, rfl, rfl, rfl⟩
  refine WL.restQ 1 [1] (L' := [(1, .pointer (some ⟨b1, 0, none⟩))]) (by kernel_rfl) ?_
  rw [Option.bind_eq_some_iff] at h
  obtain ⟨os2, h, hk3⟩ := h
  refine WP.cut (fun L' G' Γ' => ∃ s2 : Bool, s2 = os2 ∧ L' = [(2, .bool s2)] ∧ G = G' ∧ Γ = Γ') ?_ ?_
  · clear hk3
    refine WP.region ?_
    refine WL.pure 0 1 [1, 3] (L' := [(1, .pointer (some ⟨b1, 0, none⟩)), (3, .pointer (some ⟨b1, 0, none⟩))]) (by kernel_rfl) (by decide) ?_
    refine WL.tell (op := .load 3 (.tmp 3)) (ty := 3) (d := some 4) (g := none) (by kernel_rfl) (by kernel_rfl) (by kernel_rfl) (Tells.load_box (i := 0) (b := b1) (o := 0) (agg := false) (by rfl) ag3 (by kernel_rfl) (fun _ => rfl) (Nat.le_of_ble_eq_true rfl) (v := .int .i64 a0.f0) (by kernel_rfl)) ?_
    refine WL.pure 2 4 [1, 6] (L' := [(1, .pointer (some ⟨b1, 0, none⟩)), (6, .bool (decide (a0.f0 ≥ 0)))]) (by kernel_rfl) (by decide) ?_
    refine WL.split 6 (b := decide (a0.f0 ≥ 0)) (by kernel_rfl) (fun hc => ?_) (fun hc => ?_)
    · replace hc := of_decide_eq_true hc
      rw [if_pos hc] at h
      have hc4 := hc
      clear hc
      refine WL.pure 4 5 [1, 6, 7] (L' := [(1, .pointer (some ⟨b1, 0, none⟩)), (6, .bool true), (7, .pointer (some ⟨b1, 0, none⟩))]) (by kernel_rfl) (by decide) ?_
      refine WL.tell (op := .load 3 (.tmp 7)) (ty := 3) (d := some 8) (g := some (3, true)) (by kernel_rfl) (by kernel_rfl) (by kernel_rfl) (Tells.load_box (i := 0) (b := b1) (o := 0) (agg := false) (by rfl) ag3 (by kernel_rfl) (fun _ => rfl) (Nat.le_of_ble_eq_true rfl) (v := .int .i64 a0.f0) (by kernel_rfl)) ?_
      refine WL.pure 6 9 [1, 11] (L' := [(1, .pointer (some ⟨b1, 0, none⟩)), (11, .bool (decide (a0.f0 < 8)))]) (by kernel_rfl) (by decide) ?_
      refine WL.split 11 (b := decide (a0.f0 < 8)) (by kernel_rfl) (fun hc => ?_) (fun hc => ?_)
      · replace hc := of_decide_eq_true hc
        rw [if_pos hc] at h
        have hc5 := hc
        clear hc
        refine WL.pure 9 10 [1, 11, 12] (L' := [(1, .pointer (some ⟨b1, 0, none⟩)), (11, .bool true), (12, .pointer (some ⟨b1, 1, none⟩))]) (by kernel_rfl) (by decide) ?_
        refine WL.tell (op := .load 3 (.tmp 12)) (ty := 3) (d := some 13) (g := some (8, true)) (by kernel_rfl) (by kernel_rfl) (by kernel_rfl) (Tells.load_box (i := 0) (b := b1) (o := 1) (agg := false) (by rfl) ag3 (by kernel_rfl) (fun _ => rfl) (Nat.le_of_ble_eq_true rfl) (v := .int .i64 a0.f1) (by kernel_rfl)) ?_
        refine WL.pure 11 14 [1, 16] (L' := [(1, .pointer (some ⟨b1, 0, none⟩)), (16, .bool (decide (a0.f1 ≥ 1)))]) (by kernel_rfl) (by decide) ?_
        refine WL.split 16 (b := decide (a0.f1 ≥ 1)) (by kernel_rfl) (fun hc => ?_) (fun hc => ?_)
        · replace hc := of_decide_eq_true hc
          rw [if_pos hc] at h
          have hc6 := hc
          clear hc
          refine WL.pure 14 15 [16, 17] (L' := [(16, .bool true), (17, .pointer (some ⟨b1, 1, none⟩))]) (by kernel_rfl) (by decide) ?_
          refine WL.tell (op := .load 3 (.tmp 17)) (ty := 3) (d := some 18) (g := some (13, true)) (by kernel_rfl) (by kernel_rfl) (by kernel_rfl) (Tells.load_box (i := 0) (b := b1) (o := 1) (agg := false) (by rfl) ag3 (by kernel_rfl) (fun _ => rfl) (Nat.le_of_ble_eq_true rfl) (v := .int .i64 a0.f1) (by kernel_rfl)) ?_
          refine WL.rest 16 [2] (L' := [(2, .bool (decide (a0.f1 ≤ 1023)))]) (by kernel_rfl) ?_
          refine QP.dropAt 0 ?_
          refine QP.pick [2] ?_
          exact QP.meet ⟨_, Option.some.inj h, rfl, rfl, rfl⟩
        · replace hc := of_decide_eq_false hc
          rw [if_neg hc] at h
          have hc6 := hc
          clear hc
          refine WL.rest 14 [2] (L' := [(2, .bool false)]) (by kernel_rfl) ?_
          refine QP.dropAt 0 ?_
          refine QP.pick [2] ?_
          exact QP.meet ⟨_, Option.some.inj h, rfl, rfl, rfl⟩
      · replace hc := of_decide_eq_false hc
        rw [if_neg hc] at h
        have hc5 := hc
        clear hc
        refine WL.rest 9 [2] (L' := [(2, .bool false)]) (by kernel_rfl) ?_
        refine QP.dropAt 0 ?_
        refine QP.pick [2] ?_
        exact QP.meet ⟨_, Option.some.inj h, rfl, rfl, rfl⟩
    · replace hc := of_decide_eq_false hc
      rw [if_neg hc] at h
      have hc4 := hc
      clear hc
      refine WL.rest 4 [2] (L' := [(2, .bool false)]) (by kernel_rfl) ?_
      refine QP.dropAt 0 ?_
      refine QP.pick [2] ?_
      exact QP.meet ⟨_, Option.some.inj h, rfl, rfl, rfl⟩
  · rintro _ _ _ ⟨s2, rfl, rfl, rfl, rfl⟩
    clear h
    replace h := hk3
    refine WP.ret ?_
    obtain rfl := Option.some.inj h
    exact QP.returned [2] [.bool s2] _ (by kernel_rfl) (by kernel_rfl) (by kernel_rfl) (fun W hI => ⟨_, _, _, rfl, ⟨rfl, rfl, rfl⟩, hI⟩)

/-! ### grapevine/grapevineref2.in: function 93 -/
def grapevineref2_in (a0 : Int) (a1 : Int) : Option Bool := ((if a0 ≥ 0 then some (decide (a0 ≤ a1)) else some false).bind fun s1 => some s1)
set_option maxHeartbeats 4000000 in
theorem grapevineref2_in_calls {B : World} {G : GMap} {Γ : List Chunk} {W : World} (a0 : Int) (a1 : Int) (r : Bool) (h : grapevineref2_in a0 a1 = some r) (hI : Inv B G (Γ) W) :
    Calls Tryd.prog 93 [.int .i64 a0, .int .i64 a1].toArray W (Ret B (fun v G' Γ' => v = .bool r ∧ G = G' ∧ Γ = Γ')) := by
  refine calls_WP (Γ := Γ) (G := G) (B := B) Tryd.func93 rfl (by kernel_rfl) ?_ hI
  clear hI
  unfold grapevineref2_in at h
  refine WP.seqP [0, 1] (L' := [(0, .int .i64 a0), (1, .int .i64 a1)]) (by kernel_rfl) ?_
  rw [Option.bind_eq_some_iff] at h
  obtain ⟨os1, h, hk2⟩ := h
  refine WP.cut (fun L' G' Γ' => ∃ s1 : Bool, s1 = os1 ∧ L' = [(4, .bool s1)] ∧ G = G' ∧ Γ = Γ') ?_ ?_
  · clear hk2
    refine WP.region ?_
    refine WL.pure 0 3 [0, 1, 7] (L' := [(0, .int .i64 a0), (1, .int .i64 a1), (7, .bool (decide (a0 ≥ 0)))]) (by kernel_rfl) (by decide) ?_
    refine WL.split 7 (b := decide (a0 ≥ 0)) (by kernel_rfl) (fun hc => ?_) (fun hc => ?_)
    · replace hc := of_decide_eq_true hc
      rw [if_pos hc] at h
      have hc3 := hc
      clear hc
      refine WL.rest 3 [4] (L' := [(4, .bool (decide (a0 ≤ a1)))]) (by kernel_rfl) ?_
      refine QP.pick [4] ?_
      exact QP.meet ⟨_, Option.some.inj h, rfl, rfl, rfl⟩
    · replace hc := of_decide_eq_false hc
      rw [if_neg hc] at h
      have hc3 := hc
      clear hc
      refine WL.rest 3 [4] (L' := [(4, .bool false)]) (by kernel_rfl) ?_
      refine QP.pick [4] ?_
      exact QP.meet ⟨_, Option.some.inj h, rfl, rfl, rfl⟩
  · rintro _ _ _ ⟨s1, rfl, rfl, rfl, rfl⟩
    clear h
    replace h := hk2
    refine WP.ret ?_
    obtain rfl := Option.some.inj h
    exact QP.returned [4] [.bool s1] _ (by kernel_rfl) (by kernel_rfl) (by kernel_rfl) (fun W hI => ⟨_, _, _, rfl, ⟨rfl, rfl, rfl⟩, hI⟩)

/-! ### grapevine/grapevineref2.May: function 82 -/
def grapevineref2_May (a0 : T34) : Option Bool := (((grapevineref2_in a0.f0 1099511627776).bind fun t4 => (if t4 = true then ((grapevineref2_in a0.f1 65535).bind fun t9 => some t9) else some false)).bind fun s2 => some s2)
set_option maxHeartbeats 4000000 in
theorem grapevineref2_May_calls {B : World} {G : GMap} {Γ : List Chunk} {W : World} (a0 : T34) (r : Bool) (h : grapevineref2_May a0 = some r) (hI : Inv B G (Γ) W) :
    Calls Tryd.prog 82 [.agg #[.int .i64 a0.f0, .int .i64 a0.f1]].toArray W (Ret B (fun v G' Γ' => v = .bool r ∧ G = G' ∧ Γ = Γ')) := by
  refine calls_WP (Γ := Γ) (G := G) (B := B) Tryd.func82 rfl (by kernel_rfl) ?_ hI
  clear hI
  unfold grapevineref2_May at h
  refine WP.seqR ?_
  refine WL.op (op := .box 34 (.tmp 0)) (ty := 0) (d := some 1) (g := none) (by kernel_rfl) (by kernel_rfl) (by kernel_rfl) (Does.new (o := .cells #[.int .i64 a0.f0, .int .i64 a0.f1] 34 (0, 0)) (v := fun r => .pointer (some ⟨r, 0, none⟩)) (fun r => by kernel_rfl)) ?_
  rintro _ _ _ ⟨b1, rfl, rfl, rfl⟩
  refine WL.restQ 1 [1] (L' := [(1, .pointer (some ⟨b1, 0, none⟩))]) (by kernel_rfl) ?_
  rw [Option.bind_eq_some_iff] at h
  obtain ⟨os2, h, hk3⟩ := h
  refine WP.cut (fun L' G' Γ' => ∃ s2 : Bool, s2 = os2 ∧ L' = [(2, .bool s2)] ∧ G = G' ∧ Γ = Γ') ?_ ?_
  · clear hk3
    refine WP.region ?_
    refine WL.pure 0 1 [1, 3] (L' := [(1, .pointer (some ⟨b1, 0, none⟩)), (3, .pointer (some ⟨b1, 0, none⟩))]) (by kernel_rfl) (by decide) ?_
    refine WL.tell (op := .load 3 (.tmp 3)) (ty := 3) (d := some 4) (g := none) (by kernel_rfl) (by kernel_rfl) (by kernel_rfl) (Tells.load_box (i := 0) (b := b1) (o := 0) (agg := false) (by rfl) ag3 (by kernel_rfl) (fun _ => rfl) (Nat.le_of_ble_eq_true rfl) (v := .int .i64 a0.f0) (by kernel_rfl)) ?_
    rw [Option.bind_eq_some_iff] at h
    obtain ⟨t4, ht5, h⟩ := h
    refine WL.op (op := .call { callee := (.value (.func 93)), args := #[(.tmp 4), (.const (.int .i64 1099511627776))], argTypes := #[3, 3] }) (ty := 4) (d := some 5) (g := none) (by kernel_rfl) (by kernel_rfl) (by kernel_rfl) (Does.call (f := 93) (args := [.int .i64 a0.f0, .int .i64 1099511627776]) (by kernel_rfl) (fun W hI => (grapevineref2_in_calls a0.f0 1099511627776  t4 ht5 hI))) ?_
    rintro _ _ _ ⟨rfl, rfl, rfl⟩
    refine WL.pure 3 4 [1, 6] (L' := [(1, .pointer (some ⟨b1, 0, none⟩)), (6, .bool t4)]) (by kernel_rfl) (by decide) ?_
    refine WL.split 6 (b := t4) (by kernel_rfl) (fun hc => ?_) (fun hc => ?_)
    · replace hc := hc
      rw [if_pos hc] at h
      have hc8 := hc
      clear hc
      refine WL.pure 4 5 [6, 7] (L' := [(6, .bool true), (7, .pointer (some ⟨b1, 1, none⟩))]) (by kernel_rfl) (by decide) ?_
      refine WL.tell (op := .load 3 (.tmp 7)) (ty := 3) (d := some 8) (g := some (3, true)) (by kernel_rfl) (by kernel_rfl) (by kernel_rfl) (Tells.load_box (i := 0) (b := b1) (o := 1) (agg := false) (by rfl) ag3 (by kernel_rfl) (fun _ => rfl) (Nat.le_of_ble_eq_true rfl) (v := .int .i64 a0.f1) (by kernel_rfl)) ?_
      rw [Option.bind_eq_some_iff] at h
      obtain ⟨t9, ht10, h⟩ := h
      refine WL.op (op := .call { callee := (.value (.func 93)), args := #[(.tmp 8), (.const (.int .i64 65535))], argTypes := #[3, 3] }) (ty := 4) (d := some 9) (g := some (3, true)) (by kernel_rfl) (by kernel_rfl) (by kernel_rfl) (Does.call (f := 93) (args := [.int .i64 a0.f1, .int .i64 65535]) (by kernel_rfl) (fun W hI => (grapevineref2_in_calls a0.f1 65535  t9 ht10 hI))) ?_
      rintro _ _ _ ⟨rfl, rfl, rfl⟩
      refine WL.rest 7 [2] (L' := [(2, .bool t9)]) (by kernel_rfl) ?_
      refine QP.dropAt 0 ?_
      refine QP.pick [2] ?_
      exact QP.meet ⟨_, Option.some.inj h, rfl, rfl, rfl⟩
    · replace hc := (Bool.eq_false_iff.1 hc)
      rw [if_neg hc] at h
      have hc8 := hc
      clear hc
      refine WL.rest 4 [2] (L' := [(2, .bool false)]) (by kernel_rfl) ?_
      refine QP.dropAt 0 ?_
      refine QP.pick [2] ?_
      exact QP.meet ⟨_, Option.some.inj h, rfl, rfl, rfl⟩
  · rintro _ _ _ ⟨s2, rfl, rfl, rfl, rfl⟩
    clear h
    replace h := hk3
    refine WP.ret ?_
    obtain rfl := Option.some.inj h
    exact QP.returned [2] [.bool s2] _ (by kernel_rfl) (by kernel_rfl) (by kernel_rfl) (fun W hI => ⟨_, _, _, rfl, ⟨rfl, rfl, rfl⟩, hI⟩)

/-! ### grapevine/grapevineref1.May: function 83 -/
def grapevineref1_May (a0 : ByteArray) : Option Bool := ((if (a0.size : Int) ≤ 120 then ((utf8_ValidString a0).bind fun t4 => some t4) else some false).bind fun s1 => some s1)
set_option maxHeartbeats 4000000 in
theorem grapevineref1_May_calls {B : World} {G : GMap} {Γ : List Chunk} {W : World} (HT : Tabs B G) (a0 : ByteArray) (r : Bool) (h : grapevineref1_May a0 = some r) (hI : Inv B G (Γ) W) :
    Calls Tryd.prog 83 [.string a0].toArray W (Ret B (fun v G' Γ' => v = .bool r ∧ G = G' ∧ Γ = Γ')) := by
  refine calls_WP (Γ := Γ) (G := G) (B := B) Tryd.func83 rfl (by kernel_rfl) ?_ hI
  clear hI
  unfold grapevineref1_May at h
  refine WP.seqP [0] (L' := [(0, .string a0)]) (by kernel_rfl) ?_
  rw [Option.bind_eq_some_iff] at h
  obtain ⟨os1, h, hk2⟩ := h
  refine WP.cut (fun L' G' Γ' => ∃ s1 : Bool, s1 = os1 ∧ L' = [(2, .bool s1)] ∧ G = G' ∧ Γ = Γ') ?_ ?_
  · clear hk2
    refine WP.region ?_
    refine WL.pure 0 4 [0, 6] (L' := [(0, .string a0), (6, .bool (decide ((a0.size : Int) ≤ 120)))]) (by kernel_rfl) (by decide) ?_
    refine WL.split 6 (b := decide ((a0.size : Int) ≤ 120)) (by kernel_rfl) (fun hc => ?_) (fun hc => ?_)
    · replace hc := of_decide_eq_true hc
      rw [if_pos hc] at h
      have hc3 := hc
      clear hc
      refine WL.pure 4 5 [6, 7] (L' := [(6, .bool true), (7, .string a0)]) (by kernel_rfl) (by decide) ?_
      rw [Option.bind_eq_some_iff] at h
      obtain ⟨t4, ht5, h⟩ := h
      refine WL.op (op := .call { callee := (.value (.func 94)), args := #[(.tmp 7)], argTypes := #[9] }) (ty := 4) (d := some 8) (g := some (3, true)) (by kernel_rfl) (by kernel_rfl) (by kernel_rfl) (Does.call (f := 94) (args := [.string a0]) (by kernel_rfl) (fun W hI => (utf8_ValidString_calls HT a0  t4 ht5 hI))) ?_
      rintro _ _ _ ⟨rfl, rfl, rfl⟩
      refine WL.rest 6 [2] (L' := [(2, .bool t4)]) (by kernel_rfl) ?_
      refine QP.pick [2] ?_
      exact QP.meet ⟨_, Option.some.inj h, rfl, rfl, rfl⟩
    · replace hc := of_decide_eq_false hc
      rw [if_neg hc] at h
      have hc3 := hc
      clear hc
      refine WL.rest 4 [2] (L' := [(2, .bool false)]) (by kernel_rfl) ?_
      refine QP.pick [2] ?_
      exact QP.meet ⟨_, Option.some.inj h, rfl, rfl, rfl⟩
  · rintro _ _ _ ⟨s1, rfl, rfl, rfl, rfl⟩
    clear h
    replace h := hk2
    refine WP.ret ?_
    obtain rfl := Option.some.inj h
    exact QP.returned [2] [.bool s1] _ (by kernel_rfl) (by kernel_rfl) (by kernel_rfl) (fun W hI => ⟨_, _, _, rfl, ⟨rfl, rfl, rfl⟩, hI⟩)

/-! ### grapevine/grapevineref4.May: function 58 -/
def grapevineref4_May (a0 : T36) : Option Bool := (((grapevineref4_MayKey (⟨a0.f0, a0.f1⟩ : T32)).bind fun t4 => (if t4 = true then ((grapevineref2_May (⟨a0.f2, a0.f3⟩ : T34)).bind fun t9 => (if t9 = true then ((grapevineref1_May a0.f4).bind fun t14 => some t14) else some false)) else some false)).bind fun s2 => some s2)
set_option maxHeartbeats 4000000 in
theorem grapevineref4_May_calls {B : World} {G : GMap} {Γ : List Chunk} {W : World} (HT : Tabs B G) (a0 : T36) (r : Bool) (h : grapevineref4_May a0 = some r) (hI : Inv B G (Γ) W) :
    Calls Tryd.prog 58 [.agg #[.int .i64 a0.f0, .int .i64 a0.f1, .int .i64 a0.f2, .int .i64 a0.f3, .string a0.f4]].toArray W (Ret B (fun v G' Γ' => v = .bool r ∧ G = G' ∧ Γ = Γ')) := by
  refine calls_WP (Γ := Γ) (G := G) (B := B) Tryd.func58 rfl (by kernel_rfl) ?_ hI
  clear hI
  unfold grapevineref4_May at h
  refine WP.seqR ?_
  refine WL.op (op := .box 36 (.tmp 0)) (ty := 0) (d := some 1) (g := none) (by kernel_rfl) (by kernel_rfl) (by kernel_rfl) (Does.new (o := .cells #[.int .i64 a0.f0, .int .i64 a0.f1, .int .i64 a0.f2, .int .i64 a0.f3, .string a0.f4] 36 (0, 0)) (v := fun r => .pointer (some ⟨r, 0, none⟩)) (fun r => by kernel_rfl)) ?_
  rintro _ _ _ ⟨b1, rfl, rfl, rfl⟩
  refine WL.restQ 1 [1] (L' := [(1, .pointer (some ⟨b1, 0, none⟩))]) (by kernel_rfl) ?_
  rw [Option.bind_eq_some_iff] at h
  obtain ⟨os2, h, hk3⟩ := h
  refine WP.cut (fun L' G' Γ' => ∃ s2 : Bool, s2 = os2 ∧ L' = [(2, .bool s2)] ∧ G = G' ∧ Γ = Γ') ?_ ?_
  · clear hk3
    refine WP.region ?_
    refine WL.pure 0 1 [1, 3] (L' := [(1, .pointer (some ⟨b1, 0, none⟩)), (3, .pointer (some ⟨b1, 0, none⟩))]) (by kernel_rfl) (by decide) ?_
    refine WL.tell (op := .load 32 (.tmp 3)) (ty := 32) (d := some 4) (g := none) (by kernel_rfl) (by kernel_rfl) (by kernel_rfl) (Tells.load_box (i := 0) (b := b1) (o := 0) (agg := true) (by rfl) ag32 (by kernel_rfl) (fun h => by cases h) (Nat.le_of_ble_eq_true rfl) (v := .agg #[.int .i64 a0.f0, .int .i64 a0.f1]) (by kernel_rfl)) ?_
    rw [Option.bind_eq_some_iff] at h
    obtain ⟨t4, ht5, h⟩ := h
    refine WL.op (op := .call { callee := (.value (.func 27)), args := #[(.tmp 4)], argTypes := #[32] }) (ty := 4) (d := some 5) (g := none) (by kernel_rfl) (by kernel_rfl) (by kernel_rfl) (Does.call (f := 27) (args := [.agg #[.int .i64 a0.f0, .int .i64 a0.f1]]) (by kernel_rfl) (fun W hI => (grapevineref4_MayKey_calls (⟨a0.f0, a0.f1⟩ : T32)  t4 ht5 hI))) ?_
    rintro _ _ _ ⟨rfl, rfl, rfl⟩
    refine WL.pure 3 4 [1, 6] (L' := [(1, .pointer (some ⟨b1, 0, none⟩)), (6, .bool t4)]) (by kernel_rfl) (by decide) ?_
    refine WL.split 6 (b := t4) (by kernel_rfl) (fun hc => ?_) (fun hc => ?_)
    · replace hc := hc
      rw [if_pos hc] at h
      have hc8 := hc
      clear hc
      refine WL.pure 4 5 [1, 6, 7] (L' := [(1, .pointer (some ⟨b1, 0, none⟩)), (6, .bool true), (7, .pointer (some ⟨b1, 2, none⟩))]) (by kernel_rfl) (by decide) ?_
      refine WL.tell (op := .load 34 (.tmp 7)) (ty := 34) (d := some 8) (g := some (3, true)) (by kernel_rfl) (by kernel_rfl) (by kernel_rfl) (Tells.load_box (i := 0) (b := b1) (o := 2) (agg := true) (by rfl) ag34 (by kernel_rfl) (fun h => by cases h) (Nat.le_of_ble_eq_true rfl) (v := .agg #[.int .i64 a0.f2, .int .i64 a0.f3]) (by kernel_rfl)) ?_
      rw [Option.bind_eq_some_iff] at h
      obtain ⟨t9, ht10, h⟩ := h
      refine WL.op (op := .call { callee := (.value (.func 82)), args := #[(.tmp 8)], argTypes := #[34] }) (ty := 4) (d := some 9) (g := some (3, true)) (by kernel_rfl) (by kernel_rfl) (by kernel_rfl) (Does.call (f := 82) (args := [.agg #[.int .i64 a0.f2, .int .i64 a0.f3]]) (by kernel_rfl) (fun W hI => (grapevineref2_May_calls (⟨a0.f2, a0.f3⟩ : T34)  t9 ht10 hI))) ?_
      rintro _ _ _ ⟨rfl, rfl, rfl⟩
      refine WL.pure 7 9 [1, 11] (L' := [(1, .pointer (some ⟨b1, 0, none⟩)), (11, .bool t9)]) (by kernel_rfl) (by decide) ?_
      refine WL.split 11 (b := t9) (by kernel_rfl) (fun hc => ?_) (fun hc => ?_)
      · replace hc := hc
        rw [if_pos hc] at h
        have hc13 := hc
        clear hc
        refine WL.pure 9 10 [11, 12] (L' := [(11, .bool true), (12, .pointer (some ⟨b1, 4, none⟩))]) (by kernel_rfl) (by decide) ?_
        refine WL.tell (op := .load 9 (.tmp 12)) (ty := 9) (d := some 13) (g := some (8, true)) (by kernel_rfl) (by kernel_rfl) (by kernel_rfl) (Tells.load_box (i := 0) (b := b1) (o := 4) (agg := false) (by rfl) ag9 (by kernel_rfl) (fun _ => rfl) (Nat.le_of_ble_eq_true rfl) (v := .string a0.f4) (by kernel_rfl)) ?_
        rw [Option.bind_eq_some_iff] at h
        obtain ⟨t14, ht15, h⟩ := h
        refine WL.op (op := .call { callee := (.value (.func 83)), args := #[(.tmp 13)], argTypes := #[9] }) (ty := 4) (d := some 14) (g := some (8, true)) (by kernel_rfl) (by kernel_rfl) (by kernel_rfl) (Does.call (f := 83) (args := [.string a0.f4]) (by kernel_rfl) (fun W hI => (grapevineref1_May_calls HT a0.f4  t14 ht15 hI))) ?_
        rintro _ _ _ ⟨rfl, rfl, rfl⟩
        refine WL.rest 12 [2] (L' := [(2, .bool t14)]) (by kernel_rfl) ?_
        refine QP.dropAt 0 ?_
        refine QP.pick [2] ?_
        exact QP.meet ⟨_, Option.some.inj h, rfl, rfl, rfl⟩
      · replace hc := (Bool.eq_false_iff.1 hc)
        rw [if_neg hc] at h
        have hc13 := hc
        clear hc
        refine WL.rest 9 [2] (L' := [(2, .bool false)]) (by kernel_rfl) ?_
        refine QP.dropAt 0 ?_
        refine QP.pick [2] ?_
        exact QP.meet ⟨_, Option.some.inj h, rfl, rfl, rfl⟩
    · replace hc := (Bool.eq_false_iff.1 hc)
      rw [if_neg hc] at h
      have hc8 := hc
      clear hc
      refine WL.rest 4 [2] (L' := [(2, .bool false)]) (by kernel_rfl) ?_
      refine QP.dropAt 0 ?_
      refine QP.pick [2] ?_
      exact QP.meet ⟨_, Option.some.inj h, rfl, rfl, rfl⟩
  · rintro _ _ _ ⟨s2, rfl, rfl, rfl, rfl⟩
    clear h
    replace h := hk3
    refine WP.ret ?_
    obtain rfl := Option.some.inj h
    exact QP.returned [2] [.bool s2] _ (by kernel_rfl) (by kernel_rfl) (by kernel_rfl) (fun W hI => ⟨_, _, _, rfl, ⟨rfl, rfl, rfl⟩, hI⟩)

/-! ### grapevine/grapevinelaw0.GreatRecords: function 25 -/
def grapevinelaw0_GreatRecords_l0 (l0 : List T36) (a1 : Int) : Nat → Int → Option (Sum Bool Unit)
  | 0, _ => none
  | k + 1, y3 => ((if y3 < (l0.length : Int) then some (decide ((l0.length : Int) ≤ a1)) else some false).bind fun s6 => (if s6 = true then (if 0 ≤ y3 ∧ y3 < (l0.length : Int) then (if (((l0.getD y3.toNat z36).f4).size : Int) > 300 then some (Sum.inl true) else grapevinelaw0_GreatRecords_l0 l0 a1 k (IntKind.i64.wrap (y3 + 1))) else none) else some (Sum.inr ())))
def grapevinelaw0_GreatRecords (k : Nat) (l0 : List T36) (a1 : Int) : Option Bool := ((grapevinelaw0_GreatRecords_l0 l0 a1 k 0).bind fun os1 => match os1 with | Sum.inl r => some r | Sum.inr s1 => some (decide ((l0.length : Int) > a1)))
set_option maxHeartbeats 4000000 in
theorem grapevinelaw0_GreatRecords_calls {B : World} {G : GMap} {Γ : List Chunk} {W : World} (k : Nat) (l0 : List T36) (a1 : Int) (Al0 : Option Addr) (cl0 : Nat) (Hl0 : Rd k36 G Al0 cl0 l0) (r : Bool) (h : grapevinelaw0_GreatRecords k l0 a1 = some r) (hI : Inv B G (Γ) W) :
    Calls Tryd.prog 25 [.slice Al0 l0.length cl0, .int .i64 a1].toArray W (Ret B (fun v G' Γ' => v = .bool r ∧ G = G' ∧ Γ = Γ')) := by
  refine calls_WP (Γ := Γ) (G := G) (B := B) Tryd.func25 rfl (by kernel_rfl) ?_ hI
  clear hI
  unfold grapevinelaw0_GreatRecords at h
  refine WP.seqP [0, 1] (L' := [(0, .slice Al0 l0.length cl0), (1, .int .i64 a1)]) (by kernel_rfl) ?_
  refine WP.seq ?_
  refine WP.seqP [0, 1, 5] (L' := [(0, .slice Al0 l0.length cl0), (1, .int .i64 a1), (5, .int .i64 0)]) (by kernel_rfl) ?_
  rw [Option.bind_eq_some_iff] at h
  obtain ⟨os1, h, hk2⟩ := h
  refine WP.cutQ (fun L' G' Γ' => ∃ s1 : Unit, Sum.inr s1 = os1 ∧ L' = [(0, .slice Al0 l0.length cl0), (1, .int .i64 a1)] ∧ G = G' ∧ Γ = Γ') ?_ ?_
  · skip
    refine WP.block ?_
    refine WP.pick [0, 1, 5] ?_
    refine WP.loopF (fun kn4 L' G' Γ' => ∃ (y3 : Int), grapevinelaw0_GreatRecords_l0 l0 a1 kn4 y3 = some os1 ∧ L' = [(0, .slice Al0 l0.length cl0), (1, .int .i64 a1), (5, .int .i64 y3)] ∧ G = G' ∧ Γ = Γ') ?_ k ⟨0, h, rfl, rfl, rfl⟩
    clear h
    rintro kn5 _ _ _ ⟨y3, h, rfl, rfl, rfl⟩
    cases kn5 with
    | zero => exact absurd h (by simp [grapevinelaw0_GreatRecords_l0])
    | succ kn5 =>
      simp only [grapevinelaw0_GreatRecords_l0] at h
      refine WP.seq ?_
      rw [Option.bind_eq_some_iff] at h
      obtain ⟨os6, h, hk7⟩ := h
      refine WP.cut (fun L' G' Γ' => ∃ s6 : Bool, s6 = os6 ∧ L' = [(0, .slice Al0 l0.length cl0), (1, .int .i64 a1), (5, .int .i64 y3), (15, .bool s6)] ∧ G = G' ∧ Γ = Γ') ?_ ?_
      · clear hk7
        refine WP.region ?_
        refine WL.pure 0 5 [0, 1, 5, 10] (L' := [(0, .slice Al0 l0.length cl0), (1, .int .i64 a1), (5, .int .i64 y3), (10, .bool (decide (y3 < (l0.length : Int))))]) (by kernel_rfl) (by decide) ?_
        refine WL.split 10 (b := decide (y3 < (l0.length : Int))) (by kernel_rfl) (fun hc => ?_) (fun hc => ?_)
        · replace hc := of_decide_eq_true hc
          rw [if_pos hc] at h
          have hc8 := hc
          clear hc
          refine WL.rest 5 [0, 1, 5, 15] (L' := [(0, .slice Al0 l0.length cl0), (1, .int .i64 a1), (5, .int .i64 y3), (15, .bool (decide ((l0.length : Int) ≤ a1)))]) (by kernel_rfl) ?_
          refine QP.pick [0, 1, 5, 15] ?_
          exact QP.meet ⟨_, Option.some.inj h, rfl, rfl, rfl⟩
        · replace hc := of_decide_eq_false hc
          rw [if_neg hc] at h
          have hc8 := hc
          clear hc
          refine WL.rest 5 [0, 1, 5, 15] (L' := [(0, .slice Al0 l0.length cl0), (1, .int .i64 a1), (5, .int .i64 y3), (15, .bool false)]) (by kernel_rfl) ?_
          refine QP.pick [0, 1, 5, 15] ?_
          exact QP.meet ⟨_, Option.some.inj h, rfl, rfl, rfl⟩
      · rintro _ _ _ ⟨s6, rfl, rfl, rfl, rfl⟩
        clear h
        replace h := hk7
        refine WP.cond (b := s6) (by kernel_rfl) (fun hc => ?_) (fun hc => ?_)
        · replace hc := hc
          rw [if_pos hc] at h
          have hc9 := hc
          clear hc
          refine WP.skip ?_
          refine QP.next ?_
          refine WP.pick [0, 1, 5] ?_
          refine WP.seq ?_
          refine WP.block ?_
          refine WP.seqR ?_
          refine WL.pure 0 2 [0, 1, 5, 18, 19] (L' := [(0, .slice Al0 l0.length cl0), (1, .int .i64 a1), (5, .int .i64 y3), (18, .slice Al0 l0.length cl0), (19, .int .i64 y3)]) (by kernel_rfl) (by decide) ?_
          by_cases hb10 : 0 ≤ y3 ∧ y3 < (l0.length : Int)
          case neg => rw [if_neg hb10] at h; cases h
          rw [if_pos hb10] at h
          refine WL.tell (op := .indexAddr 28 (.tmp 18) (.tmp 19)) (ty := 0) (d := some 20) (g := none) (by kernel_rfl) (by kernel_rfl) (by kernel_rfl) (Tells.indexAddr (A := Al0) (n := l0.length) (c := cl0) (k := .i64) (j := y3) (by kernel_rfl) (by kernel_rfl) (Hl0.isSome hb10.1 hb10.2) hb10.1 hb10.2 sl28) ?_
          refine WL.tell (op := .fieldAddr 36 (.tmp 20) 2) (ty := 0) (d := some 21) (g := none) (by kernel_rfl) (by kernel_rfl) (by kernel_rfl) (Tells.fieldElem (m := y3.toNat * 5) (A := Al0) (by kernel_rfl) (Hl0.isSome hb10.1 hb10.2) fi36_2) ?_
          refine WL.tellE (op := .load 9 (.tmp 21)) (ty := 9) (d := some 22) (g := none) (by kernel_rfl) (by kernel_rfl) (by kernel_rfl) (Hl0.loadF (agg := false) (off := 4) hb10.1 hb10.2 z36 ag9 (fun _ => rfl) (by decide) (by kernel_rfl)) ?_
          rintro _ rfl
          refine WL.restQ 5 [0, 1, 5, 24] (L' := [(0, .slice Al0 l0.length cl0), (1, .int .i64 a1), (5, .int .i64 y3), (24, .bool (decide ((((l0.getD y3.toNat z36).f4).size : Int) > 300)))]) (by kernel_rfl) ?_
          refine WP.cond (b := decide ((((l0.getD y3.toNat z36).f4).size : Int) > 300)) (by kernel_rfl) (fun hc => ?_) (fun hc => ?_)
          · replace hc := of_decide_eq_true hc
            rw [if_pos hc] at h
            have hc11 := hc
            clear hc
            refine WP.seqP [4] (L' := [(4, .bool true)]) (by kernel_rfl) ?_
            refine WP.ret ?_
            refine QP.blockR ?_
            refine QP.thenR ?_
            refine QP.thenR ?_
            refine QP.blockR ?_
            refine QP.thenR ?_
            refine QP.thenR ?_
            obtain rfl := Option.some.inj h
            obtain rfl := Option.some.inj (show some _ = some _ from hk2)
            exact QP.returned [4] [.bool true] _ (by kernel_rfl) (by kernel_rfl) (by kernel_rfl) (fun W hI => ⟨_, _, _, rfl, ⟨rfl, rfl, rfl⟩, hI⟩)
          · replace hc := of_decide_eq_false hc
            rw [if_neg hc] at h
            have hc11 := hc
            clear hc
            refine WP.skip ?_
            refine QP.blockN ?_
            refine QP.next ?_
            refine WP.pick [0, 1, 5] ?_
            refine WP.regionP [0, 1, 5] (L' := [(0, .slice Al0 l0.length cl0), (1, .int .i64 a1), (5, .int .i64 (IntKind.i64.wrap (y3 + 1)))]) (by kernel_rfl) ?_
            refine QP.pick [0, 1, 5] ?_
            exact QP.meet ⟨kn5, Nat.lt_succ_self _, (IntKind.i64.wrap (y3 + 1)), h, rfl, rfl, rfl⟩
        · replace hc := (Bool.eq_false_iff.1 hc)
          rw [if_neg hc] at h
          have hc9 := hc
          clear hc
          refine WP.exit ?_
          refine QP.thenE ?_
          refine QP.thenE ?_
          refine QP.blockE ?_
          refine QP.pick [0, 1] ?_
          exact QP.meet ⟨_, Option.some.inj h, rfl, rfl, rfl⟩
  · rintro _ _ _ ⟨s1, rfl, rfl, rfl, rfl⟩
    clear h
    replace h := hk2
    dsimp only at h
    refine QP.next ?_
    refine WP.pick [0, 1] ?_
    refine WP.seqP [4] (L' := [(4, .bool (decide ((l0.length : Int) > a1)))]) (by kernel_rfl) ?_
    refine WP.ret ?_
    obtain rfl := Option.some.inj h
    exact QP.returned [4] [.bool (decide ((l0.length : Int) > a1))] _ (by kernel_rfl) (by kernel_rfl) (by kernel_rfl) (fun W hI => ⟨_, _, _, rfl, ⟨rfl, rfl, rfl⟩, hI⟩)

/-! ### grapevine/grapevinelaw0.Low: function 26 -/
def grapevinelaw0_Low (a0 : Int) (a1 : Int) : Option Int := (if ¬ (IntKind.u64.wrap a1) = 0 then some (IntKind.i64.wrap (Int.tmod (IntKind.u64.wrap a0) (IntKind.u64.wrap a1))) else none)
set_option maxHeartbeats 4000000 in
theorem grapevinelaw0_Low_calls {B : World} {G : GMap} {Γ : List Chunk} {W : World} (a0 : Int) (a1 : Int) (r : Int) (h : grapevinelaw0_Low a0 a1 = some r) (hI : Inv B G (Γ) W) :
    Calls Tryd.prog 26 [.int .i64 a0, .int .i64 a1].toArray W (Ret B (fun v G' Γ' => v = .int .i64 r ∧ G = G' ∧ Γ = Γ')) := by
  refine calls_WP (Γ := Γ) (G := G) (B := B) Tryd.func26 rfl (by kernel_rfl) ?_ hI
  clear hI
  unfold grapevinelaw0_Low at h
  refine WP.seqP [0, 1] (L' := [(0, .int .i64 a0), (1, .int .i64 a1)]) (by kernel_rfl) ?_
  refine WP.seqR ?_
  refine WL.pure 0 4 [6, 8] (L' := [(6, .int .u64 (IntKind.u64.wrap a0)), (8, .int .u64 (IntKind.u64.wrap a1))]) (by kernel_rfl) (by decide) ?_
  by_cases hb1 : ¬ (IntKind.u64.wrap a1) = 0
  case neg => rw [if_neg hb1] at h; cases h
  rw [if_pos hb1] at h
  refine WL.tell (op := .binOp .rem 91 (.tmp 6) (.tmp 8) 91) (ty := 91) (d := some 9) (g := none) (by kernel_rfl) (by kernel_rfl) (by kernel_rfl) (Tells.rem (k := .u64) (a := (IntKind.u64.wrap a0)) (b := (IntKind.u64.wrap a1)) (by kernel_rfl) (by kernel_rfl) hb1) ?_
  refine WL.restQ 5 [4] (L' := [(4, .int .i64 (IntKind.i64.wrap (Int.tmod (IntKind.u64.wrap a0) (IntKind.u64.wrap a1))))]) (by kernel_rfl) ?_
  refine WP.ret ?_
  obtain rfl := Option.some.inj h
  exact QP.returned [4] [.int .i64 (IntKind.i64.wrap (Int.tmod (IntKind.u64.wrap a0) (IntKind.u64.wrap a1)))] _ (by kernel_rfl) (by kernel_rfl) (by kernel_rfl) (fun W hI => ⟨_, _, _, rfl, ⟨rfl, rfl, rfl⟩, hI⟩)

/-! ### grapevine/grapevinelaw12.single: function 28 -/
def grapevinelaw12_single_l0 (l0 : List T36) (a1 : Int) : Nat → Int → Int → Option Int
  | 0, _, _ => none
  | k + 1, y3, y4 => (if y4 < (l0.length : Int) then (if 0 ≤ y4 ∧ y4 < (l0.length : Int) then (if 0 ≤ a1 ∧ a1 < (l0.length : Int) then (if (⟨(l0.getD y4.toNat z36).f0, (l0.getD y4.toNat z36).f1⟩ : T32) = (⟨(l0.getD a1.toNat z36).f0, (l0.getD a1.toNat z36).f1⟩ : T32) then grapevinelaw12_single_l0 l0 a1 k (IntKind.i64.wrap (y3 + 1)) (IntKind.i64.wrap (y4 + 1)) else grapevinelaw12_single_l0 l0 a1 k y3 (IntKind.i64.wrap (y4 + 1))) else none) else none) else some y3)
def grapevinelaw12_single (k : Nat) (l0 : List T36) (a1 : Int) : Option Bool := ((grapevinelaw12_single_l0 l0 a1 k 0 0).bind fun s1 => some (s1 == 1))
set_option maxHeartbeats 4000000 in
theorem grapevinelaw12_single_calls {B : World} {G : GMap} {Γ : List Chunk} {W : World} (k : Nat) (l0 : List T36) (a1 : Int) (Al0 : Option Addr) (cl0 : Nat) (Hl0 : Rd k36 G Al0 cl0 l0) (r : Bool) (h : grapevinelaw12_single k l0 a1 = some r) (hI : Inv B G (Γ) W) :
    Calls Tryd.prog 28 [.slice Al0 l0.length cl0, .int .i64 a1].toArray W (Ret B (fun v G' Γ' => v = .bool r ∧ G = G' ∧ Γ = Γ')) := by
  refine calls_WP (Γ := Γ) (G := G) (B := B) Tryd.func28 rfl (by kernel_rfl) ?_ hI
  clear hI
  unfold grapevinelaw12_single at h
  refine WP.seqP [0, 1] (L' := [(0, .slice Al0 l0.length cl0), (1, .int .i64 a1)]) (by kernel_rfl) ?_
  refine WP.seqP [0, 1, 5] (L' := [(0, .slice Al0 l0.length cl0), (1, .int .i64 a1), (5, .int .i64 0)]) (by kernel_rfl) ?_
  refine WP.seq ?_
  refine WP.seqP [0, 1, 5, 6] (L' := [(0, .slice Al0 l0.length cl0), (1, .int .i64 a1), (5, .int .i64 0), (6, .int .i64 0)]) (by kernel_rfl) ?_
  rw [Option.bind_eq_some_iff] at h
  obtain ⟨os1, h, hk2⟩ := h
  refine WP.cutQ (fun L' G' Γ' => ∃ s1 : Int, s1 = os1 ∧ L' = [(5, .int .i64 s1)] ∧ G = G' ∧ Γ = Γ') ?_ ?_
  · clear hk2
    refine WP.block ?_
    refine WP.pick [0, 1, 5, 6] ?_
    refine WP.loopF (fun kn5 L' G' Γ' => ∃ (y3 : Int), ∃ (y4 : Int), grapevinelaw12_single_l0 l0 a1 kn5 y3 y4 = some os1 ∧ L' = [(0, .slice Al0 l0.length cl0), (1, .int .i64 a1), (5, .int .i64 y3), (6, .int .i64 y4)] ∧ G = G' ∧ Γ = Γ') ?_ k ⟨0, 0, h, rfl, rfl, rfl⟩
    clear h
    rintro kn6 _ _ _ ⟨y3, y4, h, rfl, rfl, rfl⟩
    cases kn6 with
    | zero => exact absurd h (by simp [grapevinelaw12_single_l0])
    | succ kn6 =>
      simp only [grapevinelaw12_single_l0] at h
      refine WP.seq ?_
      refine WP.seqP [0, 1, 5, 6, 10] (L' := [(0, .slice Al0 l0.length cl0), (1, .int .i64 a1), (5, .int .i64 y3), (6, .int .i64 y4), (10, .bool (decide (y4 < (l0.length : Int))))]) (by kernel_rfl) ?_
      refine WP.cond (b := decide (y4 < (l0.length : Int))) (by kernel_rfl) (fun hc => ?_) (fun hc => ?_)
      · replace hc := of_decide_eq_true hc
        rw [if_pos hc] at h
        have hc7 := hc
        clear hc
        refine WP.skip ?_
        refine QP.next ?_
        refine WP.pick [0, 1, 5, 6] ?_
        refine WP.seq ?_
        refine WP.block ?_
        refine WP.seq ?_
        refine WP.any (N := 11) (S := [⟨some 13, [0], []⟩, ⟨some 14, [6], []⟩, ⟨some 15, [13, 14], [0, 1]⟩, ⟨some 16, [15], [2]⟩, ⟨some 17, [16], [3]⟩, ⟨some 18, [0], []⟩, ⟨some 19, [1], []⟩, ⟨some 20, [18, 19], [5, 6]⟩, ⟨some 21, [20], [7]⟩, ⟨some 22, [21], [8]⟩, ⟨some 23, [17, 22], [4, 9]⟩]) (kw := 11) (G0 := G) (Γ0 := Γ) mo (by kernel_rfl) (fun hS => ?_)
        refine WA.pure [0, 1, 5, 6] [0, 1, 5, 6, 13, 14, 18, 19] (m := 7) (b' := 99) (L' := [(0, .slice Al0 l0.length cl0), (1, .int .i64 a1), (5, .int .i64 y3), (6, .int .i64 y4), (13, .slice Al0 l0.length cl0), (14, .int .i64 y4), (18, .slice Al0 l0.length cl0), (19, .int .i64 a1)]) (by kernel_rfl) (NoPanic.then (NoPanic.block (NoPanic.then (NoPanic.then (NoPanic.block (NoPanic.then (NoPanic.then (NoPanic.body)))))))) Under.refl hS (by kernel_rfl) ?_
        by_cases hb8 : 0 ≤ y4 ∧ y4 < (l0.length : Int)
        case neg => rw [if_neg hb8] at h; cases h
        rw [if_pos hb8] at h
        refine WA.tellD [] (i := 2) (m := 6) (b' := 103) (by kernel_rfl) (NoPanic.then (NoPanic.block (NoPanic.then (NoPanic.then (NoPanic.block (NoPanic.then (NoPanic.then (NoPanic.body)))))))) Under.refl hS (by kernel_rfl) (op := .indexAddr 28 (.tmp 13) (.tmp 14)) (ty := 0) (d := some 15) (g := none) (by kernel_rfl) (by kernel_rfl) (by kernel_rfl) (Tells.indexAddr (A := Al0) (n := l0.length) (c := cl0) (k := .i64) (j := y4) (by kernel_rfl) (by kernel_rfl) (Hl0.isSome hb8.1 hb8.2) hb8.1 hb8.2 sl28) ?_
        refine WA.tellD [] (i := 3) (m := 5) (b' := 111) (by kernel_rfl) (NoPanic.then (NoPanic.block (NoPanic.then (NoPanic.then (NoPanic.block (NoPanic.then (NoPanic.then (NoPanic.body)))))))) Under.refl hS (by kernel_rfl) (op := .fieldAddr 36 (.tmp 15) 0) (ty := 0) (d := some 16) (g := none) (by kernel_rfl) (by kernel_rfl) (by kernel_rfl) (Tells.fieldElem (m := y4.toNat * 5) (A := Al0) (by kernel_rfl) (Hl0.isSome hb8.1 hb8.2) fi36_0) ?_
        refine WA.tellDE [] (i := 4) (m := 4) (b' := 127) (by kernel_rfl) (NoPanic.then (NoPanic.block (NoPanic.then (NoPanic.then (NoPanic.block (NoPanic.then (NoPanic.then (NoPanic.body)))))))) Under.refl hS (by kernel_rfl) (op := .load 32 (.tmp 16)) (ty := 32) (d := some 17) (g := none) (by kernel_rfl) (by kernel_rfl) (by kernel_rfl) (Hl0.loadF (agg := true) (off := 0) hb8.1 hb8.2 z36 ag32 (fun h => by cases h) (by decide) (by kernel_rfl)) ?_
        rintro _ rfl
        by_cases hb9 : 0 ≤ a1 ∧ a1 < (l0.length : Int)
        case neg => rw [if_neg hb9] at h; cases h
        rw [if_pos hb9] at h
        refine WA.tellD [] (i := 7) (m := 3) (b' := 255) (by kernel_rfl) (NoPanic.then (NoPanic.block (NoPanic.then (NoPanic.then (NoPanic.block (NoPanic.then (NoPanic.then (NoPanic.body)))))))) Under.refl hS (by kernel_rfl) (op := .indexAddr 28 (.tmp 18) (.tmp 19)) (ty := 0) (d := some 20) (g := none) (by kernel_rfl) (by kernel_rfl) (by kernel_rfl) (Tells.indexAddr (A := Al0) (n := l0.length) (c := cl0) (k := .i64) (j := a1) (by kernel_rfl) (by kernel_rfl) (Hl0.isSome hb9.1 hb9.2) hb9.1 hb9.2 sl28) ?_
        refine WA.tellD [] (i := 8) (m := 2) (b' := 511) (by kernel_rfl) (NoPanic.then (NoPanic.block (NoPanic.then (NoPanic.then (NoPanic.block (NoPanic.then (NoPanic.then (NoPanic.body)))))))) Under.refl hS (by kernel_rfl) (op := .fieldAddr 36 (.tmp 20) 0) (ty := 0) (d := some 21) (g := none) (by kernel_rfl) (by kernel_rfl) (by kernel_rfl) (Tells.fieldElem (m := a1.toNat * 5) (A := Al0) (by kernel_rfl) (Hl0.isSome hb9.1 hb9.2) fi36_0) ?_
        refine WA.tellDE [] (i := 9) (m := 1) (b' := 1023) (by kernel_rfl) (NoPanic.then (NoPanic.block (NoPanic.then (NoPanic.then (NoPanic.block (NoPanic.then (NoPanic.then (NoPanic.body)))))))) Under.refl hS (by kernel_rfl) (op := .load 32 (.tmp 21)) (ty := 32) (d := some 22) (g := none) (by kernel_rfl) (by kernel_rfl) (by kernel_rfl) (Hl0.loadF (agg := true) (off := 0) hb9.1 hb9.2 z36 ag32 (fun h => by cases h) (by decide) (by kernel_rfl)) ?_
        rintro _ rfl
        refine WA.tellD [] (i := 10) (m := 0) (b' := 2047) (by kernel_rfl) (NoPanic.then (NoPanic.block (NoPanic.then (NoPanic.then (NoPanic.block (NoPanic.then (NoPanic.then (NoPanic.body)))))))) Under.refl hS (by kernel_rfl) (op := .binOp .eql 32 (.tmp 17) (.tmp 22) 32) (ty := 4) (d := some 23) (g := none) (by kernel_rfl) (by kernel_rfl) (by kernel_rfl) (Tells.eqAgg (xs := #[.int .i64 ((l0.getD y4.toNat z36).f0), .int .i64 ((l0.getD y4.toNat z36).f1)]) (ys := #[.int .i64 ((l0.getD a1.toNat z36).f0), .int .i64 ((l0.getD a1.toNat z36).f1)]) (ls := [.int ((l0.getD y4.toNat z36).f0) ((l0.getD a1.toNat z36).f0), .int ((l0.getD y4.toNat z36).f1) ((l0.getD a1.toNat z36).f1)]) (by kernel_rfl) (by kernel_rfl) (by kernel_rfl) eg32) ?_
        refine WA.reput 23 (v := .bool ([.int ((l0.getD y4.toNat z36).f0) ((l0.getD a1.toNat z36).f0), .int ((l0.getD y4.toNat z36).f1) ((l0.getD a1.toNat z36).f1)].all Lf.ok)) (v' := .bool (decide ((⟨(l0.getD y4.toNat z36).f0, (l0.getD y4.toNat z36).f1⟩ : T32) = (⟨(l0.getD a1.toNat z36).f0, (l0.getD a1.toNat z36).f1⟩ : T32)))) (by kernel_rfl) (by exact (congrArg Value.bool (eqT32 (⟨(l0.getD y4.toNat z36).f0, (l0.getD y4.toNat z36).f1⟩ : T32) (⟨(l0.getD a1.toNat z36).f0, (l0.getD a1.toNat z36).f1⟩ : T32)))) ?_
        refine WA.done hS (by kernel_rfl) ?_
        refine QP.pick [0, 1, 5, 6, 23] ?_
        refine QP.next ?_
        refine WP.cond (b := decide ((⟨(l0.getD y4.toNat z36).f0, (l0.getD y4.toNat z36).f1⟩ : T32) = (⟨(l0.getD a1.toNat z36).f0, (l0.getD a1.toNat z36).f1⟩ : T32))) (by kernel_rfl) (fun hc => ?_) (fun hc => ?_)
        · replace hc := of_decide_eq_true hc
          rw [if_pos hc] at h
          have hc10 := hc
          clear hc
          refine WP.regionP [0, 1, 5, 6] (L' := [(0, .slice Al0 l0.length cl0), (1, .int .i64 a1), (5, .int .i64 (IntKind.i64.wrap (y3 + 1))), (6, .int .i64 y4)]) (by kernel_rfl) ?_
          refine QP.blockN ?_
          refine QP.next ?_
          refine WP.pick [0, 1, 5, 6] ?_
          refine WP.regionP [0, 1, 5, 6] (L' := [(0, .slice Al0 l0.length cl0), (1, .int .i64 a1), (5, .int .i64 (IntKind.i64.wrap (y3 + 1))), (6, .int .i64 (IntKind.i64.wrap (y4 + 1)))]) (by kernel_rfl) ?_
          refine QP.pick [0, 1, 5, 6] ?_
          exact QP.meet ⟨kn6, Nat.lt_succ_self _, (IntKind.i64.wrap (y3 + 1)), (IntKind.i64.wrap (y4 + 1)), h, rfl, rfl, rfl⟩
        · replace hc := of_decide_eq_false hc
          rw [if_neg hc] at h
          have hc10 := hc
          clear hc
          refine WP.skip ?_
          refine QP.blockN ?_
          refine QP.next ?_
          refine WP.pick [0, 1, 5, 6] ?_
          refine WP.regionP [0, 1, 5, 6] (L' := [(0, .slice Al0 l0.length cl0), (1, .int .i64 a1), (5, .int .i64 y3), (6, .int .i64 (IntKind.i64.wrap (y4 + 1)))]) (by kernel_rfl) ?_
          refine QP.pick [0, 1, 5, 6] ?_
          exact QP.meet ⟨kn6, Nat.lt_succ_self _, y3, (IntKind.i64.wrap (y4 + 1)), h, rfl, rfl, rfl⟩
      · replace hc := of_decide_eq_false hc
        rw [if_neg hc] at h
        have hc7 := hc
        clear hc
        refine WP.exit ?_
        refine QP.thenE ?_
        refine QP.thenE ?_
        refine QP.blockE ?_
        refine QP.pick [5] ?_
        exact QP.meet ⟨_, Option.some.inj h, rfl, rfl, rfl⟩
  · rintro _ _ _ ⟨s1, rfl, rfl, rfl, rfl⟩
    clear h
    replace h := hk2
    refine QP.next ?_
    refine WP.pick [5] ?_
    refine WP.seqP [4] (L' := [(4, .bool (s1 == 1))]) (by kernel_rfl) ?_
    refine WP.ret ?_
    obtain rfl := Option.some.inj h
    exact QP.returned [4] [.bool (s1 == 1)] _ (by kernel_rfl) (by kernel_rfl) (by kernel_rfl) (fun W hI => ⟨_, _, _, rfl, ⟨rfl, rfl, rfl⟩, hI⟩)
end Go.Proofs.YtajhihpaccggdaaDoor.Gf
