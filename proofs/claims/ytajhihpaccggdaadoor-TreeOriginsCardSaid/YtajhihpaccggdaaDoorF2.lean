/- Walks of Go functions: what each tells, as a plain Lean function, and that the Go code comes to it. Written by gg.py of this repo. -/
import Derived.Test.YtajhihpaccggdaaDoorT
import Derived.Test.YtajhihpaccggdaaDoorF1
namespace Go.Proofs.YtajhihpaccggdaaDoor.Gf
open Go Go.Gg
set_option maxRecDepth 100000
set_option linter.unusedVariables false
set_option linter.unusedSimpArgs false

/-! ### grapevine/grapevinelaw12.great: function 12 -/
def grapevinelaw12_great_l0 (l0 : List T38) (a1 : Int) : Nat → Int → Option (Sum Bool Unit)
  | 0, _ => none
  | k + 1, y3 => ((if y3 < (l0.length : Int) then some (decide ((l0.length : Int) ≤ a1)) else some false).bind fun s6 => (if s6 = true then (if 0 ≤ y3 ∧ y3 < (l0.length : Int) then (if (((l0.getD y3.toNat z38).f5).size : Int) > 300 then some (Sum.inl true) else grapevinelaw12_great_l0 l0 a1 k (IntKind.i64.wrap (y3 + 1))) else none) else some (Sum.inr ())))
def grapevinelaw12_great (k : Nat) (l0 : List T38) (a1 : Int) : Option Bool := ((grapevinelaw12_great_l0 l0 a1 k 0).bind fun os1 => match os1 with | Sum.inl r => some r | Sum.inr s1 => some (decide ((l0.length : Int) > a1)))
set_option maxHeartbeats 4000000 in
theorem grapevinelaw12_great_calls {B : World} {G : GMap} {Γ : List Chunk} {W : World} (k : Nat) (l0 : List T38) (a1 : Int) (Al0 : Option Addr) (cl0 : Nat) (Hl0 : Rd k38 G Al0 cl0 l0) (r : Bool) (h : grapevinelaw12_great k l0 a1 = some r) (hI : Inv B G (Γ) W) :
    Calls Tryd.prog 12 [.slice Al0 l0.length cl0, .int .i64 a1].toArray W (Ret B (fun v G' Γ' => v = .bool r ∧ G = G' ∧ Γ = Γ')) := by
  refine calls_WP (Γ := Γ) (G := G) (B := B) Tryd.func12 rfl (by kernel_rfl) ?_ hI
  clear hI
  unfold grapevinelaw12_great at h
  refine WP.seqP [0, 1] (L' := [(0, .slice Al0 l0.length cl0), (1, .int .i64 a1)]) (by kernel_rfl) ?_
  refine WP.seq ?_
  refine WP.seqP [0, 1, 5] (L' := [(0, .slice Al0 l0.length cl0), (1, .int .i64 a1), (5, .int .i64 0)]) (by kernel_rfl) ?_
  rw [Option.bind_eq_some_iff] at h
  obtain ⟨os1, h, hk2⟩ := h
  refine WP.cutQ (fun L' G' Γ' => ∃ s1 : Unit, Sum.inr s1 = os1 ∧ L' = [(0, .slice Al0 l0.length cl0), (1, .int .i64 a1)] ∧ G = G' ∧ Γ = Γ') ?_ ?_
  · skip
    refine WP.block ?_
    refine WP.pick [0, 1, 5] ?_
    refine WP.loopF (fun kn4 L' G' Γ' => ∃ (y3 : Int), grapevinelaw12_great_l0 l0 a1 kn4 y3 = some os1 ∧ L' = [(0, .slice Al0 l0.length cl0), (1, .int .i64 a1), (5, .int .i64 y3)] ∧ G = G' ∧ Γ = Γ') ?_ k ⟨0, h, rfl, rfl, rfl⟩
    clear h
    rintro kn5 _ _ _ ⟨y3, h, rfl, rfl, rfl⟩
    cases kn5 with
    | zero => exact absurd h (by simp [grapevinelaw12_great_l0])
    | succ kn5 =>
      simp only [grapevinelaw12_great_l0] at h
      refine WP.seq ?_
      rw [Option.bind_eq_some_iff] at h
      obtain ⟨os6, h, hk7⟩ := h
      refine WP.cut (fun L' G' Γ' => ∃ s6 : Bool, s6 = os6 ∧ L' = [(0, .slice Al0 l0.length cl0), (1, .int .i64 a1), (5, .int .i64 y3), (15, .bool s6)] ∧ G = G' ∧ Γ = Γ') ?_ ?_
      · clear hk7
        refine WP.region ?_
        refine WL.pure 0 5 [0, 1, 5, 10] (L' := [(0, .slice Al0 l0.length cl0), (1, .int .i64 a1), (5, .int .i64 y3), (10, .bool (decide (y3 < (l0.length : Int))))]) (by kernel_rfl) (by decide) ?_
        refine WL.split 10 (b := decide (y3 < (l0.length : Int))) (by kernel_rfl) (fun hc => ?_) (fun hc => ?_)
        · replace hc := of_decide_eq_true hc
          rw [if_pos hc] at h
          have hc8 := hc
          clear hc
          refine WL.rest 5 [0, 1, 5, 15] (L' := [(0, .slice Al0 l0.length cl0), (1, .int .i64 a1), (5, .int .i64 y3), (15, .bool (decide ((l0.length : Int) ≤ a1)))]) (by kernel_rfl) ?_
          refine QP.pick [0, 1, 5, 15] ?_
          exact QP.meet ⟨_, Option.some.inj h, rfl, rfl, rfl⟩
        · replace hc := of_decide_eq_false hc
          rw [if_neg hc] at h
          have hc8 := hc
          clear hc
          refine WL.rest 5 [0, 1, 5, 15] (L' := [(0, .slice Al0 l0.length cl0), (1, .int .i64 a1), (5, .int .i64 y3), (15, .bool false)]) (by kernel_rfl) ?_
          refine QP.pick [0, 1, 5, 15] ?_
          exact QP.meet ⟨_, Option.some.inj h, rfl, rfl, rfl⟩
      · rintro _ _ _ ⟨s6, rfl, rfl, rfl, rfl⟩
        clear h
        replace h := hk7
        refine WP.cond (b := s6) (by kernel_rfl) (fun hc => ?_) (fun hc => ?_)
        · replace hc := hc
          rw [if_pos hc] at h
          have hc9 := hc
          clear hc
          refine WP.skip ?_
          refine QP.next ?_
          refine WP.pick [0, 1, 5] ?_
          refine WP.seq ?_
          refine WP.block ?_
          refine WP.seqR ?_
          refine WL.pure 0 2 [0, 1, 5, 18, 19] (L' := [(0, .slice Al0 l0.length cl0), (1, .int .i64 a1), (5, .int .i64 y3), (18, .slice Al0 l0.length cl0), (19, .int .i64 y3)]) (by kernel_rfl) (by decide) ?_
          by_cases hb10 : 0 ≤ y3 ∧ y3 < (l0.length : Int)
          case neg => rw [if_neg hb10] at h; cases h
          rw [if_pos hb10] at h
          refine WL.tell (op := .indexAddr 22 (.tmp 18) (.tmp 19)) (ty := 0) (d := some 20) (g := none) (by kernel_rfl) (by kernel_rfl) (by kernel_rfl) (Tells.indexAddr (A := Al0) (n := l0.length) (c := cl0) (k := .i64) (j := y3) (by kernel_rfl) (by kernel_rfl) (Hl0.isSome hb10.1 hb10.2) hb10.1 hb10.2 sl22) ?_
          refine WL.tell (op := .fieldAddr 38 (.tmp 20) 1) (ty := 0) (d := some 21) (g := none) (by kernel_rfl) (by kernel_rfl) (by kernel_rfl) (Tells.fieldElem (m := y3.toNat * 6) (A := Al0) (by kernel_rfl) (Hl0.isSome hb10.1 hb10.2) fi38_1) ?_
          refine WL.tell (op := .fieldAddr 36 (.tmp 21) 2) (ty := 0) (d := some 22) (g := none) (by kernel_rfl) (by kernel_rfl) (by kernel_rfl) (Tells.fieldElem (m := y3.toNat * 6 + 1) (A := Al0) (by kernel_rfl) (Hl0.isSome hb10.1 hb10.2) fi36_2) ?_
          refine WL.tellE (op := .load 9 (.tmp 22)) (ty := 9) (d := some 23) (g := none) (by kernel_rfl) (by kernel_rfl) (by kernel_rfl) (Hl0.loadF (agg := false) (off := 5) hb10.1 hb10.2 z38 ag9 (fun _ => rfl) (by decide) (by kernel_rfl)) ?_
          rintro _ rfl
          refine WL.restQ 6 [0, 1, 5, 25] (L' := [(0, .slice Al0 l0.length cl0), (1, .int .i64 a1), (5, .int .i64 y3), (25, .bool (decide ((((l0.getD y3.toNat z38).f5).size : Int) > 300)))]) (by kernel_rfl) ?_
          refine WP.cond (b := decide ((((l0.getD y3.toNat z38).f5).size : Int) > 300)) (by kernel_rfl) (fun hc => ?_) (fun hc => ?_)
          · replace hc := of_decide_eq_true hc
            rw [if_pos hc] at h
            have hc11 := hc
            clear hc
            refine WP.seqP [4] (L' := [(4, .bool true)]) (by kernel_rfl) ?_
            refine WP.ret ?_
            refine QP.blockR ?_
            refine QP.thenR ?_
            refine QP.thenR ?_
            refine QP.blockR ?_
            refine QP.thenR ?_
            refine QP.thenR ?_
            obtain rfl := Option.some.inj h
            obtain rfl := Option.some.inj (show some _ = some _ from hk2)
            exact QP.returned [4] [.bool true] _ (by kernel_rfl) (by kernel_rfl) (by kernel_rfl) (fun W hI => ⟨_, _, _, rfl, ⟨rfl, rfl, rfl⟩, hI⟩)
          · replace hc := of_decide_eq_false hc
            rw [if_neg hc] at h
            have hc11 := hc
            clear hc
            refine WP.skip ?_
            refine QP.blockN ?_
            refine QP.next ?_
            refine WP.pick [0, 1, 5] ?_
            refine WP.regionP [0, 1, 5] (L' := [(0, .slice Al0 l0.length cl0), (1, .int .i64 a1), (5, .int .i64 (IntKind.i64.wrap (y3 + 1)))]) (by kernel_rfl) ?_
            refine QP.pick [0, 1, 5] ?_
            exact QP.meet ⟨kn5, Nat.lt_succ_self _, (IntKind.i64.wrap (y3 + 1)), h, rfl, rfl, rfl⟩
        · replace hc := (Bool.eq_false_iff.1 hc)
          rw [if_neg hc] at h
          have hc9 := hc
          clear hc
          refine WP.exit ?_
          refine QP.thenE ?_
          refine QP.thenE ?_
          refine QP.blockE ?_
          refine QP.pick [0, 1] ?_
          exact QP.meet ⟨_, Option.some.inj h, rfl, rfl, rfl⟩
  · rintro _ _ _ ⟨s1, rfl, rfl, rfl, rfl⟩
    clear h
    replace h := hk2
    dsimp only at h
    refine QP.next ?_
    refine WP.pick [0, 1] ?_
    refine WP.seqP [4] (L' := [(4, .bool (decide ((l0.length : Int) > a1)))]) (by kernel_rfl) ?_
    refine WP.ret ?_
    obtain rfl := Option.some.inj h
    exact QP.returned [4] [.bool (decide ((l0.length : Int) > a1))] _ (by kernel_rfl) (by kernel_rfl) (by kernel_rfl) (fun W hI => ⟨_, _, _, rfl, ⟨rfl, rfl, rfl⟩, hI⟩)

/-! ### (*grapevine/grapevineref12.Tree).Find: function 55 -/
def grapevineref12_Tree_Find_l0 (a0 : T30) (a1 : T32) : Nat → Int → Option (Sum Int Unit)
  | 0, _ => none
  | k + 1, y4 => (if y4 < (a0.f0.length : Int) then (if 0 ≤ y4 ∧ y4 < (a0.f0.length : Int) then (if (⟨(a0.f0.getD y4.toNat z36).f0, (a0.f0.getD y4.toNat z36).f1⟩ : T32) = a1 then some (Sum.inl y4) else grapevineref12_Tree_Find_l0 a0 a1 k (IntKind.i64.wrap (y4 + 1))) else none) else some (Sum.inr ()))
def grapevineref12_Tree_Find (k : Nat) (a0 : T30) (a1 : T32) : Option Int := ((grapevineref12_Tree_Find_l0 a0 a1 k 0).bind fun os2 => match os2 with | Sum.inl r => some r | Sum.inr s2 => some (-1))
set_option maxHeartbeats 4000000 in
theorem grapevineref12_Tree_Find_calls {B : World} {G : GMap} {Γ : List Chunk} {W : World} (k : Nat) (a0 : T30) (a1 : T32) (b0 : Nat) (Aa0_f0 : Option Addr) (ca0_f0 : Nat) (Ca0_f0 : Chunk) (Ha0_f0 : Ow k36 G Aa0_f0 ca0_f0 a0.f0 Ca0_f0) (r : Int) (h : grapevineref12_Tree_Find k a0 a1 = some r) (hI : Inv B G ([(b0, .cells #[.slice Aa0_f0 a0.f0.length ca0_f0] 30 (0, 0))] :: Ca0_f0 :: Γ) W) :
    Calls Tryd.prog 55 [.pointer (some ⟨b0, 0, none⟩), .agg #[.int .i64 a1.f0, .int .i64 a1.f1]].toArray W (Ret B (fun v G' Γ' => v = .int .i64 r ∧ G = G' ∧ [(b0, .cells #[.slice Aa0_f0 a0.f0.length ca0_f0] 30 (0, 0))] :: Ca0_f0 :: Γ = Γ')) := by
  refine calls_WP (Γ := [(b0, .cells #[.slice Aa0_f0 a0.f0.length ca0_f0] 30 (0, 0))] :: Ca0_f0 :: Γ) (G := G) (B := B) Tryd.func55 rfl (by kernel_rfl) ?_ hI
  clear hI
  unfold grapevineref12_Tree_Find at h
  refine WP.seqR ?_
  refine WL.op (op := .box 32 (.tmp 1)) (ty := 0) (d := some 3) (g := none) (by kernel_rfl) (by kernel_rfl) (by kernel_rfl) (Does.new (o := .cells #[.int .i64 a1.f0, .int .i64 a1.f1] 32 (0, 0)) (v := fun r => .pointer (some ⟨r, 0, none⟩)) (fun r => by kernel_rfl)) ?_
  rintro _ _ _ ⟨b1, rfl, rfl, rfl⟩
  refine WL.restQ 1 [0, 3] (L' := [(0, .pointer (some ⟨b0, 0, none⟩)), (3, .pointer (some ⟨b1, 0, none⟩))]) (by kernel_rfl) ?_
  refine WP.seq ?_
  refine WP.seqP [0, 3, 5] (L' := [(0, .pointer (some ⟨b0, 0, none⟩)), (3, .pointer (some ⟨b1, 0, none⟩)), (5, .int .i64 0)]) (by kernel_rfl) ?_
  rw [Option.bind_eq_some_iff] at h
  obtain ⟨os2, h, hk3⟩ := h
  refine WP.cutQ (fun L' G' Γ' => ∃ s2 : Unit, Sum.inr s2 = os2 ∧ L' = [] ∧ G = G' ∧ [(b0, .cells #[.slice Aa0_f0 a0.f0.length ca0_f0] 30 (0, 0))] :: Ca0_f0 :: Γ = Γ') ?_ ?_
  · skip
    refine WP.block ?_
    refine WP.pick [0, 3, 5] ?_
    refine WP.loopF (fun kn5 L' G' Γ' => ∃ (y4 : Int), grapevineref12_Tree_Find_l0 a0 a1 kn5 y4 = some os2 ∧ L' = [(0, .pointer (some ⟨b0, 0, none⟩)), (3, .pointer (some ⟨b1, 0, none⟩)), (5, .int .i64 y4)] ∧ G = G' ∧ [(b1, .cells #[.int .i64 a1.f0, .int .i64 a1.f1] 32 (0, 0))] :: [(b0, .cells #[.slice Aa0_f0 a0.f0.length ca0_f0] 30 (0, 0))] :: Ca0_f0 :: Γ = Γ') ?_ k ⟨0, h, rfl, rfl, rfl⟩
    clear h
    rintro kn6 _ _ _ ⟨y4, h, rfl, rfl, rfl⟩
    cases kn6 with
    | zero => exact absurd h (by simp [grapevineref12_Tree_Find_l0])
    | succ kn6 =>
      simp only [grapevineref12_Tree_Find_l0] at h
      refine WP.seq ?_
      refine WP.seqR ?_
      refine WL.pure 0 4 [0, 3, 5, 6, 9] (L' := [(0, .pointer (some ⟨b0, 0, none⟩)), (3, .pointer (some ⟨b1, 0, none⟩)), (5, .int .i64 y4), (6, .int .i64 y4), (9, .pointer (some ⟨b0, 0, none⟩))]) (by kernel_rfl) (by decide) ?_
      refine WL.tell (op := .load 28 (.tmp 9)) (ty := 28) (d := some 10) (g := none) (by kernel_rfl) (by kernel_rfl) (by kernel_rfl) (Tells.load_box (i := 1) (b := b0) (o := 0) (agg := false) (by rfl) ag28 (by kernel_rfl) (fun _ => rfl) (Nat.le_of_ble_eq_true rfl) (v := .slice Aa0_f0 a0.f0.length ca0_f0) (by kernel_rfl)) ?_
      refine WL.restQ 5 [0, 3, 5, 12] (L' := [(0, .pointer (some ⟨b0, 0, none⟩)), (3, .pointer (some ⟨b1, 0, none⟩)), (5, .int .i64 y4), (12, .bool (decide (y4 < (a0.f0.length : Int))))]) (by kernel_rfl) ?_
      refine WP.cond (b := decide (y4 < (a0.f0.length : Int))) (by kernel_rfl) (fun hc => ?_) (fun hc => ?_)
      · replace hc := of_decide_eq_true hc
        rw [if_pos hc] at h
        have hc7 := hc
        clear hc
        refine WP.skip ?_
        refine QP.next ?_
        refine WP.pick [0, 3, 5] ?_
        refine WP.seq ?_
        refine WP.block ?_
        refine WP.seq ?_
        refine WP.any (N := 10) (S := [⟨some 15, [0], []⟩, ⟨some 16, [15], [0]⟩, ⟨some 17, [16], [1]⟩, ⟨some 18, [17], [2]⟩, ⟨some 19, [5], []⟩, ⟨some 20, [18, 19], [3, 4]⟩, ⟨some 21, [20], [5]⟩, ⟨some 22, [21], [6]⟩, ⟨some 23, [3], []⟩, ⟨some 24, [22, 23], [7, 8]⟩]) (kw := 10) (G0 := G) (Γ0 := [(b1, .cells #[.int .i64 a1.f0, .int .i64 a1.f1] 32 (0, 0))] :: [(b0, .cells #[.slice Aa0_f0 a0.f0.length ca0_f0] 30 (0, 0))] :: Ca0_f0 :: Γ) mo (by kernel_rfl) (fun hS => ?_)
        refine WA.pure [0, 1, 2, 4] [0, 3, 5, 17, 19] (m := 6) (b' := 23) (L' := [(0, .pointer (some ⟨b0, 0, none⟩)), (3, .pointer (some ⟨b1, 0, none⟩)), (5, .int .i64 y4), (17, .pointer (some ⟨b0, 0, none⟩)), (19, .int .i64 y4)]) (by kernel_rfl) (NoPanic.then (NoPanic.block (NoPanic.then (NoPanic.then (NoPanic.block (NoPanic.then (NoPanic.then (NoPanic.body)))))))) Under.refl hS (by kernel_rfl) ?_
        refine WA.tellD [] (i := 3) (m := 5) (b' := 31) (by kernel_rfl) (NoPanic.then (NoPanic.block (NoPanic.then (NoPanic.then (NoPanic.block (NoPanic.then (NoPanic.then (NoPanic.body)))))))) Under.refl hS (by kernel_rfl) (op := .load 28 (.tmp 17)) (ty := 28) (d := some 18) (g := none) (by kernel_rfl) (by kernel_rfl) (by kernel_rfl) (Tells.load_box (i := 1) (b := b0) (o := 0) (agg := false) (by rfl) ag28 (by kernel_rfl) (fun _ => rfl) (Nat.le_of_ble_eq_true rfl) (v := .slice Aa0_f0 a0.f0.length ca0_f0) (by kernel_rfl)) ?_
        by_cases hb8 : 0 ≤ y4 ∧ y4 < (a0.f0.length : Int)
        case neg => rw [if_neg hb8] at h; cases h
        rw [if_pos hb8] at h
        refine WA.tellD [] (i := 5) (m := 4) (b' := 63) (by kernel_rfl) (NoPanic.then (NoPanic.block (NoPanic.then (NoPanic.then (NoPanic.block (NoPanic.then (NoPanic.then (NoPanic.body)))))))) Under.refl hS (by kernel_rfl) (op := .indexAddr 28 (.tmp 18) (.tmp 19)) (ty := 0) (d := some 20) (g := none) (by kernel_rfl) (by kernel_rfl) (by kernel_rfl) (Tells.indexAddr (A := Aa0_f0) (n := a0.f0.length) (c := ca0_f0) (k := .i64) (j := y4) (by kernel_rfl) (by kernel_rfl) (Ha0_f0.isSome hb8.1 hb8.2) hb8.1 hb8.2 sl28) ?_
        refine WA.tellD [] (i := 6) (m := 3) (b' := 127) (by kernel_rfl) (NoPanic.then (NoPanic.block (NoPanic.then (NoPanic.then (NoPanic.block (NoPanic.then (NoPanic.then (NoPanic.body)))))))) Under.refl hS (by kernel_rfl) (op := .fieldAddr 36 (.tmp 20) 0) (ty := 0) (d := some 21) (g := none) (by kernel_rfl) (by kernel_rfl) (by kernel_rfl) (Tells.fieldElem (m := y4.toNat * 5) (A := Aa0_f0) (by kernel_rfl) (Ha0_f0.isSome hb8.1 hb8.2) fi36_0) ?_
        refine WA.tellDE [] (i := 7) (m := 2) (b' := 255) (by kernel_rfl) (NoPanic.then (NoPanic.block (NoPanic.then (NoPanic.then (NoPanic.block (NoPanic.then (NoPanic.then (NoPanic.body)))))))) Under.refl hS (by kernel_rfl) (op := .load 32 (.tmp 21)) (ty := 32) (d := some 22) (g := none) (by kernel_rfl) (by kernel_rfl) (by kernel_rfl) (Ha0_f0.loadF (i := 2) rfl (agg := true) (off := 0) hb8.1 hb8.2 z36 ag32 (fun h => by cases h) (by decide) (by kernel_rfl)) ?_
        rintro _ rfl
        refine WA.tellD [] (i := 8) (m := 1) (b' := 511) (by kernel_rfl) (NoPanic.then (NoPanic.block (NoPanic.then (NoPanic.then (NoPanic.block (NoPanic.then (NoPanic.then (NoPanic.body)))))))) Under.refl hS (by kernel_rfl) (op := .load 32 (.tmp 3)) (ty := 32) (d := some 23) (g := none) (by kernel_rfl) (by kernel_rfl) (by kernel_rfl) (Tells.load_box (i := 0) (b := b1) (o := 0) (agg := true) (by rfl) ag32 (by kernel_rfl) (fun h => by cases h) (Nat.le_of_ble_eq_true rfl) (v := .agg #[.int .i64 a1.f0, .int .i64 a1.f1]) (by kernel_rfl)) ?_
        refine WA.tellD [] (i := 9) (m := 0) (b' := 1023) (by kernel_rfl) (NoPanic.then (NoPanic.block (NoPanic.then (NoPanic.then (NoPanic.block (NoPanic.then (NoPanic.then (NoPanic.body)))))))) Under.refl hS (by kernel_rfl) (op := .binOp .eql 32 (.tmp 22) (.tmp 23) 32) (ty := 4) (d := some 24) (g := none) (by kernel_rfl) (by kernel_rfl) (by kernel_rfl) (Tells.eqAgg (xs := #[.int .i64 ((a0.f0.getD y4.toNat z36).f0), .int .i64 ((a0.f0.getD y4.toNat z36).f1)]) (ys := #[.int .i64 a1.f0, .int .i64 a1.f1]) (ls := [.int ((a0.f0.getD y4.toNat z36).f0) a1.f0, .int ((a0.f0.getD y4.toNat z36).f1) a1.f1]) (by kernel_rfl) (by kernel_rfl) (by kernel_rfl) eg32) ?_
        refine WA.reput 24 (v := .bool ([.int ((a0.f0.getD y4.toNat z36).f0) a1.f0, .int ((a0.f0.getD y4.toNat z36).f1) a1.f1].all Lf.ok)) (v' := .bool (decide ((⟨(a0.f0.getD y4.toNat z36).f0, (a0.f0.getD y4.toNat z36).f1⟩ : T32) = a1))) (by kernel_rfl) (by exact (congrArg Value.bool (eqT32 (⟨(a0.f0.getD y4.toNat z36).f0, (a0.f0.getD y4.toNat z36).f1⟩ : T32) a1))) ?_
        refine WA.done hS (by kernel_rfl) ?_
        refine QP.pick [0, 3, 5, 24] ?_
        refine QP.next ?_
        refine WP.cond (b := decide ((⟨(a0.f0.getD y4.toNat z36).f0, (a0.f0.getD y4.toNat z36).f1⟩ : T32) = a1)) (by kernel_rfl) (fun hc => ?_) (fun hc => ?_)
        · replace hc := of_decide_eq_true hc
          rw [if_pos hc] at h
          have hc9 := hc
          clear hc
          refine WP.seqP [4] (L' := [(4, .int .i64 y4)]) (by kernel_rfl) ?_
          refine WP.dropAt 0 ?_
          refine WP.ret ?_
          refine QP.blockR ?_
          refine QP.thenR ?_
          refine QP.thenR ?_
          refine QP.blockR ?_
          refine QP.thenR ?_
          refine QP.thenR ?_
          obtain rfl := Option.some.inj h
          obtain rfl := Option.some.inj (show some _ = some _ from hk3)
          exact QP.returned [4] [.int .i64 y4] _ (by kernel_rfl) (by kernel_rfl) (by kernel_rfl) (fun W hI => ⟨_, _, _, rfl, ⟨rfl, rfl, rfl⟩, hI⟩)
        · replace hc := of_decide_eq_false hc
          rw [if_neg hc] at h
          have hc9 := hc
          clear hc
          refine WP.skip ?_
          refine QP.blockN ?_
          refine QP.next ?_
          refine WP.pick [0, 3, 5] ?_
          refine WP.regionP [0, 3, 5] (L' := [(0, .pointer (some ⟨b0, 0, none⟩)), (3, .pointer (some ⟨b1, 0, none⟩)), (5, .int .i64 (IntKind.i64.wrap (y4 + 1)))]) (by kernel_rfl) ?_
          refine QP.front (i := 2) rfl ?_
          refine QP.front (i := 2) rfl ?_
          refine QP.front (i := 2) rfl ?_
          refine QP.pick [0, 3, 5] ?_
          exact QP.meet ⟨kn6, Nat.lt_succ_self _, (IntKind.i64.wrap (y4 + 1)), h, rfl, rfl, rfl⟩
      · replace hc := of_decide_eq_false hc
        rw [if_neg hc] at h
        have hc7 := hc
        clear hc
        refine WP.exit ?_
        refine QP.thenE ?_
        refine QP.thenE ?_
        refine QP.blockE ?_
        refine QP.dropAt 0 ?_
        refine QP.pick [] ?_
        exact QP.meet ⟨_, Option.some.inj h, rfl, rfl, rfl⟩
  · rintro _ _ _ ⟨s2, rfl, rfl, rfl, rfl⟩
    clear h
    replace h := hk3
    dsimp only at h
    refine QP.next ?_
    refine WP.pick [] ?_
    refine WP.seqP [4] (L' := [(4, .int .i64 (-1))]) (by kernel_rfl) ?_
    refine WP.ret ?_
    obtain rfl := Option.some.inj h
    exact QP.returned [4] [.int .i64 (-1)] _ (by kernel_rfl) (by kernel_rfl) (by kernel_rfl) (fun W hI => ⟨_, _, _, rfl, ⟨rfl, rfl, rfl⟩, hI⟩)

/-! ### (*grapevine/grapevineref12.Tree).Drop: function 16 -/
def grapevineref12_Tree_Drop_l0 (l1 : List T32) : Nat → Int → Int → T30 → Option (Int × T30)
  | 0, _, _, _ => none
  | k + 1, y3, y4, y5 => (if y4 < (l1.length : Int) then (if 0 ≤ y4 ∧ y4 < (l1.length : Int) then ((grapevineref12_Tree_Find k y5 (l1.getD y4.toNat z32)).bind fun t10 => (if t10 ≥ 0 then (if 0 ≤ (0 : Int) ∧ (0 : Int) ≤ t10 ∧ t10 ≤ (y5.f0.length : Int) then (if 0 ≤ (IntKind.i64.wrap (t10 + 1)) ∧ (IntKind.i64.wrap (t10 + 1)) ≤ (y5.f0.length : Int) ∧ (y5.f0.length : Int) ≤ (y5.f0.length : Int) then (if ([] : List T36).length + ((y5.f0.take t10.toNat).drop (0 : Int).toNat).length ≤ 1073741824 then (if (([] : List T36) ++ ((y5.f0.take t10.toNat).drop (0 : Int).toNat)).length + ((y5.f0.take (y5.f0.length : Int).toNat).drop (IntKind.i64.wrap (t10 + 1)).toNat).length ≤ 1073741824 then grapevineref12_Tree_Drop_l0 l1 k (IntKind.i64.wrap (y3 + 1)) (IntKind.i64.wrap (y4 + 1)) (⟨((([] : List T36) ++ ((y5.f0.take t10.toNat).drop (0 : Int).toNat)) ++ ((y5.f0.take (y5.f0.length : Int).toNat).drop (IntKind.i64.wrap (t10 + 1)).toNat))⟩ : T30) else none) else none) else none) else none) else grapevineref12_Tree_Drop_l0 l1 k y3 (IntKind.i64.wrap (y4 + 1)) y5)) else none) else some (y3, y5))
def grapevineref12_Tree_Drop (k : Nat) (a0 : T30) (l1 : List T32) : Option (Int × T30) := ((grapevineref12_Tree_Drop_l0 l1 k 0 0 a0).bind fun s1 => some (s1.1, s1.2))
set_option maxHeartbeats 4000000 in
theorem grapevineref12_Tree_Drop_calls {B : World} {G : GMap} {Γ : List Chunk} {W : World} (k : Nat) (a0 : T30) (l1 : List T32) (b0 : Nat) (Aa0_f0 : Option Addr) (ca0_f0 : Nat) (Ca0_f0 : Chunk) (Ha0_f0 : Ow k36 G Aa0_f0 ca0_f0 a0.f0 Ca0_f0) (Al1 : Option Addr) (cl1 : Nat) (Hl1 : Rd k32 G Al1 cl1 l1) (r : Int × T30) (h : grapevineref12_Tree_Drop k a0 l1 = some r) (hI : Inv B G ([(b0, .cells #[.slice Aa0_f0 a0.f0.length ca0_f0] 30 (0, 0))] :: Ca0_f0 :: Γ) W) :
    Calls Tryd.prog 16 [.pointer (some ⟨b0, 0, none⟩), .slice Al1 l1.length cl1].toArray W (Ret B (fun v G' Γ' => ∃ (ARp0 : Option Addr), ∃ (cRp0 : Nat), ∃ (CRp0 : Chunk), v = .int .i64 r.1 ∧ Ow k36 G' ARp0 cRp0 r.2.f0 CRp0 ∧ G = G' ∧ [(b0, .cells #[.slice ARp0 r.2.f0.length cRp0] 30 (0, 0))] :: CRp0 :: Γ = Γ')) := by
  refine calls_WP (Γ := [(b0, .cells #[.slice Aa0_f0 a0.f0.length ca0_f0] 30 (0, 0))] :: Ca0_f0 :: Γ) (G := G) (B := B) Tryd.func16 rfl (by kernel_rfl) ?_ hI
  clear hI
  unfold grapevineref12_Tree_Drop at h
  refine WP.seqP [0, 1] (L' := [(0, .pointer (some ⟨b0, 0, none⟩)), (1, .slice Al1 l1.length cl1)]) (by kernel_rfl) ?_
  refine WP.seqP [0, 1, 5] (L' := [(0, .pointer (some ⟨b0, 0, none⟩)), (1, .slice Al1 l1.length cl1), (5, .int .i64 0)]) (by kernel_rfl) ?_
  refine WP.seq ?_
  refine WP.seqP [0, 1, 5, 6] (L' := [(0, .pointer (some ⟨b0, 0, none⟩)), (1, .slice Al1 l1.length cl1), (5, .int .i64 0), (6, .int .i64 0)]) (by kernel_rfl) ?_
  rw [Option.bind_eq_some_iff] at h
  obtain ⟨os1, h, hk2⟩ := h
  refine WP.cutQ (fun L' G' Γ' => ∃ s1 : Int × T30, s1 = os1 ∧ ∃ (As1_2_f0 : Option Addr), ∃ (cs1_2_f0 : Nat), ∃ (Cs1_2_f0 : Chunk), L' = [(5, .int .i64 s1.1)] ∧ G = G' ∧ [(b0, .cells #[.slice As1_2_f0 s1.2.f0.length cs1_2_f0] 30 (0, 0))] :: Cs1_2_f0 :: Γ = Γ' ∧ Ow k36 G As1_2_f0 cs1_2_f0 s1.2.f0 Cs1_2_f0) ?_ ?_
  · clear hk2
    refine WP.block ?_
    refine WP.pick [0, 1, 5, 6] ?_
    refine WP.loopF (fun kn6 L' G' Γ' => ∃ (y3 : Int), ∃ (y4 : Int), ∃ (y5 : T30), grapevineref12_Tree_Drop_l0 l1 kn6 y3 y4 y5 = some os1 ∧ ∃ (Ay5_f0 : Option Addr), ∃ (cy5_f0 : Nat), ∃ (Cy5_f0 : Chunk), L' = [(0, .pointer (some ⟨b0, 0, none⟩)), (1, .slice Al1 l1.length cl1), (5, .int .i64 y3), (6, .int .i64 y4)] ∧ G = G' ∧ [(b0, .cells #[.slice Ay5_f0 y5.f0.length cy5_f0] 30 (0, 0))] :: Cy5_f0 :: Γ = Γ' ∧ Ow k36 G Ay5_f0 cy5_f0 y5.f0 Cy5_f0) ?_ k ⟨0, 0, a0, h, Aa0_f0, ca0_f0, Ca0_f0, rfl, rfl, rfl, Ha0_f0⟩
    clear h
    rintro kn7 _ _ _ ⟨y3, y4, y5, h, Ay5_f0, cy5_f0, Cy5_f0, rfl, rfl, rfl, Hy5_f0⟩
    cases kn7 with
    | zero => exact absurd h (by simp [grapevineref12_Tree_Drop_l0])
    | succ kn7 =>
      simp only [grapevineref12_Tree_Drop_l0] at h
      refine WP.seq ?_
      refine WP.seqP [0, 1, 5, 6, 11] (L' := [(0, .pointer (some ⟨b0, 0, none⟩)), (1, .slice Al1 l1.length cl1), (5, .int .i64 y3), (6, .int .i64 y4), (11, .bool (decide (y4 < (l1.length : Int))))]) (by kernel_rfl) ?_
      refine WP.cond (b := decide (y4 < (l1.length : Int))) (by kernel_rfl) (fun hc => ?_) (fun hc => ?_)
      · replace hc := of_decide_eq_true hc
        rw [if_pos hc] at h
        have hc8 := hc
        clear hc
        refine WP.skip ?_
        refine QP.next ?_
        refine WP.pick [0, 1, 5, 6] ?_
        refine WP.seq ?_
        refine WP.block ?_
        refine WP.seqR ?_
        refine WL.pure 0 3 [0, 1, 5, 6, 14, 15, 16] (L' := [(0, .pointer (some ⟨b0, 0, none⟩)), (1, .slice Al1 l1.length cl1), (5, .int .i64 y3), (6, .int .i64 y4), (14, .pointer (some ⟨b0, 0, none⟩)), (15, .slice Al1 l1.length cl1), (16, .int .i64 y4)]) (by kernel_rfl) (by decide) ?_
        by_cases hb9 : 0 ≤ y4 ∧ y4 < (l1.length : Int)
        case neg => rw [if_neg hb9] at h; cases h
        rw [if_pos hb9] at h
        refine WL.tell (op := .indexAddr 41 (.tmp 15) (.tmp 16)) (ty := 0) (d := some 17) (g := none) (by kernel_rfl) (by kernel_rfl) (by kernel_rfl) (Tells.indexAddr (A := Al1) (n := l1.length) (c := cl1) (k := .i64) (j := y4) (by kernel_rfl) (by kernel_rfl) (Hl1.isSome hb9.1 hb9.2) hb9.1 hb9.2 sl41) ?_
        refine WL.tellE (op := .load 32 (.tmp 17)) (ty := 32) (d := some 18) (g := none) (by kernel_rfl) (by kernel_rfl) (by kernel_rfl) (Hl1.load (agg := true) hb9.1 hb9.2 z32 ag32 (fun h => by cases h) (by kernel_rfl)) ?_
        rintro _ rfl
        refine WL.front (i := 1) rfl ?_
        refine WL.front (i := 1) rfl ?_
        rw [Option.bind_eq_some_iff] at h
        obtain ⟨t10, ht11, h⟩ := h
        refine WL.op (op := .call { callee := (.value (.func 55)), args := #[(.tmp 14), (.tmp 18)], argTypes := #[27, 32] }) (ty := 3) (d := some 19) (g := none) (by kernel_rfl) (by kernel_rfl) (by kernel_rfl) (Does.call (f := 55) (args := [.pointer (some ⟨b0, 0, none⟩), .agg #[.int .i64 ((l1.getD y4.toNat z32).f0), .int .i64 ((l1.getD y4.toNat z32).f1)]]) (by kernel_rfl) (fun W hI => (grapevineref12_Tree_Find_calls kn7 y5 (l1.getD y4.toNat z32) b0 Ay5_f0 cy5_f0 Cy5_f0 Hy5_f0 t10 ht11 hI))) ?_
        rintro _ _ _ ⟨rfl, rfl, rfl⟩
        refine WL.restQ 6 [0, 1, 5, 6, 7] (L' := [(0, .pointer (some ⟨b0, 0, none⟩)), (1, .slice Al1 l1.length cl1), (5, .int .i64 y3), (6, .int .i64 y4), (7, .int .i64 t10)]) (by kernel_rfl) ?_
        refine WP.seqP [0, 1, 5, 6, 7, 21] (L' := [(0, .pointer (some ⟨b0, 0, none⟩)), (1, .slice Al1 l1.length cl1), (5, .int .i64 y3), (6, .int .i64 y4), (7, .int .i64 t10), (21, .bool (decide (t10 ≥ 0)))]) (by kernel_rfl) ?_
        refine WP.cond (b := decide (t10 ≥ 0)) (by kernel_rfl) (fun hc => ?_) (fun hc => ?_)
        · replace hc := of_decide_eq_true hc
          rw [if_pos hc] at h
          have hc14 := hc
          clear hc
          refine WP.freezeN (i := 1) rfl (fun G15 hG16 hle17 nd18 => ?_)
          have Hz19 := Hy5_f0.rdN (by rw [← hG16]; exact hle17) nd18
          rw [← hG16] at Hz19
          have Hm20 := Hl1.mono hle17
          refine WP.seq ?_
          refine WP.any (N := 19) (S := [⟨some 22, [0], []⟩, ⟨some 23, [0], []⟩, ⟨some 24, [23], [1]⟩, ⟨some 25, [24], [2]⟩, ⟨some 26, [25], [3]⟩, ⟨some 27, [7], []⟩, ⟨some 28, [26, 27], [4, 5]⟩, ⟨some 29, [28], [6]⟩, ⟨some 30, [0], []⟩, ⟨some 31, [30], [8]⟩, ⟨some 32, [31], [9]⟩, ⟨some 33, [32], [10]⟩, ⟨some 34, [7], []⟩, ⟨some 35, [34], [12]⟩, ⟨some 36, [33, 35], [11, 13]⟩, ⟨some 37, [29, 36], [7, 14]⟩, ⟨some 38, [22], [0, 1, 2, 3, 4, 5, 6, 7, 8, 9, 10, 11, 12, 13, 14, 15]⟩, ⟨some 39, [38], [0, 1, 2, 3, 4, 5, 6, 7, 8, 9, 10, 11, 12, 13, 14, 15, 16]⟩, ⟨none, [37, 39], [0, 1, 2, 3, 4, 5, 6, 7, 8, 9, 10, 11, 12, 13, 14, 15, 17]⟩]) (kw := 18) (G0 := G15) (Γ0 := [[(b0, .cells #[.slice Ay5_f0 y5.f0.length cy5_f0] 30 (0, 0))]]) mo (by kernel_rfl) (fun hS => ?_)
          refine WA.pure [0, 1, 2, 3, 5, 8, 9, 10, 12, 13] [0, 1, 5, 6, 22, 25, 27, 32, 35] (m := 9) (b' := 14127) (L' := [(0, .pointer (some ⟨b0, 0, none⟩)), (1, .slice Al1 l1.length cl1), (5, .int .i64 y3), (6, .int .i64 y4), (22, .pointer (some ⟨b0, 0, none⟩)), (25, .pointer (some ⟨b0, 0, none⟩)), (27, .int .i64 t10), (32, .pointer (some ⟨b0, 0, none⟩)), (35, .int .i64 (IntKind.i64.wrap (t10 + 1)))]) (by kernel_rfl) (NoPanic.then (NoPanic.block (NoPanic.then (NoPanic.then (NoPanic.block (NoPanic.then (NoPanic.then (NoPanic.body)))))))) (Under.mem (C := [(b0, .cells #[.slice Ay5_f0 y5.f0.length cy5_f0] 30 (0, 0))]) (by repeat first | exact List.Mem.head _ | apply List.Mem.tail)) hS (by kernel_rfl) ?_
          refine WA.tellD [18] (i := 4) (m := 8) (b' := 14143) (by kernel_rfl) (NoPanic.then (NoPanic.block (NoPanic.then (NoPanic.then (NoPanic.block (NoPanic.then (NoPanic.then (NoPanic.body)))))))) (Under.mem (C := [(b0, .cells #[.slice Ay5_f0 y5.f0.length cy5_f0] 30 (0, 0))]) (by repeat first | exact List.Mem.head _ | apply List.Mem.tail)) hS (by kernel_rfl) (op := .load 28 (.tmp 25)) (ty := 28) (d := some 26) (g := none) (by kernel_rfl) (by kernel_rfl) (by kernel_rfl) (Tells.load_box (i := 0) (b := b0) (o := 0) (agg := false) (by rfl) ag28 (by kernel_rfl) (fun _ => rfl) (Nat.le_of_ble_eq_true rfl) (v := .slice Ay5_f0 y5.f0.length cy5_f0) (by kernel_rfl)) ?_
          by_cases hb21 : 0 ≤ (0 : Int) ∧ (0 : Int) ≤ t10 ∧ t10 ≤ (y5.f0.length : Int)
          case neg => rw [if_neg hb21] at h; cases h
          rw [if_pos hb21] at h
          refine WA.tellDS [18] (i := 6) (m := 7) (b' := 14207) (by kernel_rfl) (NoPanic.then (NoPanic.block (NoPanic.then (NoPanic.then (NoPanic.block (NoPanic.then (NoPanic.then (NoPanic.body)))))))) (Under.mem (C := [(b0, .cells #[.slice Ay5_f0 y5.f0.length cy5_f0] 30 (0, 0))]) (by repeat first | exact List.Mem.head _ | apply List.Mem.tail)) hS (by kernel_rfl) (op := .slice 28 (.tmp 26) none (some (.tmp 27)) none) (ty := 28) (d := some 28) (g := none) (by kernel_rfl) (by kernel_rfl) (by kernel_rfl) (Hz19.slice (l := 0) (h := t10) (by kernel_rfl) rfl ⟨.i64, by kernel_rfl⟩ hb21.1 hb21.2.1 hb21.2.2 sl28) ?_
          rintro AP22 cP22 HP22
          refine WA.tellD [18] (i := 11) (m := 6) (b' := 16255) (by kernel_rfl) (NoPanic.then (NoPanic.block (NoPanic.then (NoPanic.then (NoPanic.block (NoPanic.then (NoPanic.then (NoPanic.body)))))))) (Under.mem (C := [(b0, .cells #[.slice Ay5_f0 y5.f0.length cy5_f0] 30 (0, 0))]) (by repeat first | exact List.Mem.head _ | apply List.Mem.tail)) hS (by kernel_rfl) (op := .load 28 (.tmp 32)) (ty := 28) (d := some 33) (g := none) (by kernel_rfl) (by kernel_rfl) (by kernel_rfl) (Tells.load_box (i := 0) (b := b0) (o := 0) (agg := false) (by rfl) ag28 (by kernel_rfl) (fun _ => rfl) (Nat.le_of_ble_eq_true rfl) (v := .slice Ay5_f0 y5.f0.length cy5_f0) (by kernel_rfl)) ?_
          by_cases hb23 : 0 ≤ (IntKind.i64.wrap (t10 + 1)) ∧ (IntKind.i64.wrap (t10 + 1)) ≤ (y5.f0.length : Int) ∧ (y5.f0.length : Int) ≤ (y5.f0.length : Int)
          case neg => rw [if_neg hb23] at h; cases h
          rw [if_pos hb23] at h
          refine WA.tellDS [18] (i := 14) (m := 5) (b' := 32639) (by kernel_rfl) (NoPanic.then (NoPanic.block (NoPanic.then (NoPanic.then (NoPanic.block (NoPanic.then (NoPanic.then (NoPanic.body)))))))) (Under.mem (C := [(b0, .cells #[.slice Ay5_f0 y5.f0.length cy5_f0] 30 (0, 0))]) (by repeat first | exact List.Mem.head _ | apply List.Mem.tail)) hS (by kernel_rfl) (op := .slice 28 (.tmp 33) (some (.tmp 35)) none none) (ty := 28) (d := some 36) (g := none) (by kernel_rfl) (by kernel_rfl) (by kernel_rfl) (Hz19.slice (l := (IntKind.i64.wrap (t10 + 1))) (h := (y5.f0.length : Int)) (by kernel_rfl) ⟨.i64, by kernel_rfl⟩ rfl hb23.1 hb23.2.1 hb23.2.2 sl28) ?_
          rintro AP24 cP24 HP24
          refine WA.addNil ?_
          by_cases hb25 : ([] : List T36).length + ((y5.f0.take t10.toNat).drop (0 : Int).toNat).length ≤ 1073741824
          case neg => rw [if_neg hb25] at h; cases h
          rw [if_pos hb25] at h
          refine WA.op (i := 7) (m := 4) (b' := 32767) (by kernel_rfl) hS (by kernel_rfl) (op := .call { callee := (.builtin .append), args := #[(.const (.slice none 0 0)), (.tmp 28)], argTypes := #[28, 28] }) (ty := 28) (d := some 29) (g := none) (by kernel_rfl) (by kernel_rfl) (by kernel_rfl) (Ow.append (ys := ((y5.f0.take t10.toNat).drop (0 : Int).toNat)) (v := .slice AP22 ((y5.f0.take t10.toNat).drop (0 : Int).toNat).length cP22) (Ow.nil k36 G15) (i := 0) rfl (by kernel_rfl) (by kernel_rfl) HP22.src sl28 ze36 nt28 (by decide) hb25) ?_
          rintro _ _ _ ⟨rfl, AN26, cN26, CN26, rfl, HN26, rfl⟩
          refine ⟨_, _, Under.refl, (Under.mem (C := [(b0, .cells #[.slice Ay5_f0 y5.f0.length cy5_f0] 30 (0, 0))]) (by repeat first | exact List.Mem.head _ | apply List.Mem.tail)), ?_⟩
          by_cases hb27 : (([] : List T36) ++ ((y5.f0.take t10.toNat).drop (0 : Int).toNat)).length + ((y5.f0.take (y5.f0.length : Int).toNat).drop (IntKind.i64.wrap (t10 + 1)).toNat).length ≤ 1073741824
          case neg => rw [if_neg hb27] at h; cases h
          rw [if_pos hb27] at h
          refine WA.op (i := 15) (m := 3) (b' := 65535) (by kernel_rfl) hS (by kernel_rfl) (op := .call { callee := (.builtin .append), args := #[(.tmp 29), (.tmp 36)], argTypes := #[28, 28] }) (ty := 28) (d := some 37) (g := none) (by kernel_rfl) (by kernel_rfl) (by kernel_rfl) (Ow.append (ys := ((y5.f0.take (y5.f0.length : Int).toNat).drop (IntKind.i64.wrap (t10 + 1)).toNat)) (v := .slice AP24 ((y5.f0.take (y5.f0.length : Int).toNat).drop (IntKind.i64.wrap (t10 + 1)).toNat).length cP24) HN26 (i := 0) rfl (by kernel_rfl) (by kernel_rfl) HP24.src sl28 ze36 nt28 (by decide) hb27) ?_
          rintro _ _ _ ⟨rfl, AN28, cN28, CN28, rfl, HN28, rfl⟩
          refine ⟨_, _, Under.refl, (Under.mem (C := [(b0, .cells #[.slice Ay5_f0 y5.f0.length cy5_f0] 30 (0, 0))]) (by repeat first | exact List.Mem.head _ | apply List.Mem.tail)), ?_⟩
          refine WA.pure [16, 17] [0, 1, 5, 6, 37, 39] (m := 1) (b' := 262143) (L' := [(0, .pointer (some ⟨b0, 0, none⟩)), (1, .slice Al1 l1.length cl1), (5, .int .i64 y3), (6, .int .i64 y4), (37, .slice AN28 ((([] : List T36) ++ ((y5.f0.take t10.toNat).drop (0 : Int).toNat)) ++ ((y5.f0.take (y5.f0.length : Int).toNat).drop (IntKind.i64.wrap (t10 + 1)).toNat)).length cN28), (39, .pointer (some ⟨b0, 0, none⟩))]) (by kernel_rfl) (NoPanic.then (NoPanic.block (NoPanic.then (NoPanic.then (NoPanic.block (NoPanic.then (NoPanic.then (NoPanic.body)))))))) (Under.mem (C := [(b0, .cells #[.slice Ay5_f0 y5.f0.length cy5_f0] 30 (0, 0))]) (by repeat first | exact List.Mem.head _ | apply List.Mem.tail)) hS (by kernel_rfl) ?_
          refine WA.opK (i := 18) (kw' := 19) (m := 0) (b' := 524287) (by kernel_rfl) rfl hS (by kernel_rfl) (op := .store 28 (.tmp 39) (.tmp 37)) (ty := 0) (d := none) (g := none) (by kernel_rfl) (by kernel_rfl) (by kernel_rfl) (Does.store_box (i := 1) (b := b0) (o := 0) (v := .slice AN28 ((([] : List T36) ++ ((y5.f0.take t10.toNat).drop (0 : Int).toNat)) ++ ((y5.f0.take (y5.f0.length : Int).toNat).drop (IntKind.i64.wrap (t10 + 1)).toNat)).length cN28) (by rfl) sz28 (by kernel_rfl) (by kernel_rfl) (by kernel_rfl) (Free.zero _) (Nat.le_of_ble_eq_true rfl) (cells' := #[.slice AN28 ((([] : List T36) ++ ((y5.f0.take t10.toNat).drop (0 : Int).toNat)) ++ ((y5.f0.take (y5.f0.length : Int).toNat).drop (IntKind.i64.wrap (t10 + 1)).toNat)).length cN28]) (by kernel_rfl)) ?_
          rintro _ _ _ ⟨rfl, rfl, rfl⟩
          refine ⟨_, _, (Under.mem (C := [(b0, .cells #[.slice AN28 ((([] : List T36) ++ ((y5.f0.take t10.toNat).drop (0 : Int).toNat)) ++ ((y5.f0.take (y5.f0.length : Int).toNat).drop (IntKind.i64.wrap (t10 + 1)).toNat)).length cN28] 30 (0, 0))]) (by repeat first | exact List.Mem.head _ | apply List.Mem.tail)), ?_⟩
          refine WA.done hS (by kernel_rfl) ?_
          refine QP.pick [0, 1, 5, 6] ?_
          refine QP.next ?_
          refine WP.dropAt 2 ?_
          refine WP.regionP [0, 1, 5, 6] (L' := [(0, .pointer (some ⟨b0, 0, none⟩)), (1, .slice Al1 l1.length cl1), (5, .int .i64 (IntKind.i64.wrap (y3 + 1))), (6, .int .i64 y4)]) (by kernel_rfl) ?_
          refine QP.blockN ?_
          refine QP.next ?_
          refine WP.pick [0, 1, 5, 6] ?_
          refine WP.regionP [0, 1, 5, 6] (L' := [(0, .pointer (some ⟨b0, 0, none⟩)), (1, .slice Al1 l1.length cl1), (5, .int .i64 (IntKind.i64.wrap (y3 + 1))), (6, .int .i64 (IntKind.i64.wrap (y4 + 1)))]) (by kernel_rfl) ?_
          refine QP.front (i := 1) rfl ?_
          refine QP.lower hle17 ?_
          refine QP.pick [0, 1, 5, 6] ?_
          exact QP.meet ⟨kn7, Nat.lt_succ_self _, (IntKind.i64.wrap (y3 + 1)), (IntKind.i64.wrap (y4 + 1)), (⟨((([] : List T36) ++ ((y5.f0.take t10.toNat).drop (0 : Int).toNat)) ++ ((y5.f0.take (y5.f0.length : Int).toNat).drop (IntKind.i64.wrap (t10 + 1)).toNat))⟩ : T30), h, AN28, cN28, CN28, rfl, rfl, rfl, (HN28.flat (kFlat_flat _ _ _ _))⟩
        · replace hc := of_decide_eq_false hc
          rw [if_neg hc] at h
          have hc14 := hc
          clear hc
          refine WP.skip ?_
          refine QP.blockN ?_
          refine QP.next ?_
          refine WP.pick [0, 1, 5, 6] ?_
          refine WP.regionP [0, 1, 5, 6] (L' := [(0, .pointer (some ⟨b0, 0, none⟩)), (1, .slice Al1 l1.length cl1), (5, .int .i64 y3), (6, .int .i64 (IntKind.i64.wrap (y4 + 1)))]) (by kernel_rfl) ?_
          refine QP.front (i := 1) rfl ?_
          refine QP.front (i := 1) rfl ?_
          refine QP.pick [0, 1, 5, 6] ?_
          exact QP.meet ⟨kn7, Nat.lt_succ_self _, y3, (IntKind.i64.wrap (y4 + 1)), y5, h, Ay5_f0, cy5_f0, Cy5_f0, rfl, rfl, rfl, Hy5_f0⟩
      · replace hc := of_decide_eq_false hc
        rw [if_neg hc] at h
        have hc8 := hc
        clear hc
        refine WP.exit ?_
        refine QP.thenE ?_
        refine QP.thenE ?_
        refine QP.blockE ?_
        refine QP.pick [5] ?_
        exact QP.meet ⟨_, Option.some.inj h, Ay5_f0, cy5_f0, Cy5_f0, rfl, rfl, rfl, Hy5_f0⟩
  · rintro _ _ _ ⟨s1, rfl, As1_2_f0, cs1_2_f0, Cs1_2_f0, rfl, rfl, rfl, Hs1_2_f0⟩
    clear h
    replace h := hk2
    refine QP.next ?_
    refine WP.pick [5] ?_
    refine WP.seqP [4] (L' := [(4, .int .i64 s1.1)]) (by kernel_rfl) ?_
    refine WP.ret ?_
    obtain rfl := Option.some.inj h
    exact QP.returned [4] [.int .i64 s1.1] _ (by kernel_rfl) (by kernel_rfl) (by kernel_rfl) (fun W hI => ⟨_, _, _, rfl, ⟨As1_2_f0, cs1_2_f0, Cs1_2_f0, rfl, Hs1_2_f0, rfl, rfl⟩, hI⟩)

/-! ### (*grapevine/grapevineref12.Tree).Put: function 18 -/
def grapevineref12_Tree_Put_l0 (l1 : List T36) : Nat → Int → Int → T30 → Option (Int × T30)
  | 0, _, _, _ => none
  | k + 1, y3, y4, y5 => (if y4 < (l1.length : Int) then ((if 0 ≤ y4 ∧ y4 < (l1.length : Int) then ((grapevineref4_May (l1.getD y4.toNat z36)).bind fun t12 => (if t12 = true then (if 0 ≤ y4 ∧ y4 < (l1.length : Int) then ((grapevineref12_Tree_Find k y5 (⟨(l1.getD y4.toNat z36).f0, (l1.getD y4.toNat z36).f1⟩ : T32)).bind fun t18 => some (decide (t18 < 0))) else none) else some false)) else none).bind fun s9 => (if s9 = true then ((if 0 ≤ y4 ∧ y4 < (l1.length : Int) then (if ([] : List T36).length + y5.f0.length ≤ 1073741824 then (if (([] : List T36) ++ y5.f0).length + ([(l1.getD y4.toNat z36)] : List T36).length ≤ 1073741824 then some (⟨((([] : List T36) ++ y5.f0) ++ ([(l1.getD y4.toNat z36)] : List T36))⟩ : T30) else none) else none) else none).bind fun s23 => grapevineref12_Tree_Put_l0 l1 k (IntKind.i64.wrap (y3 + 1)) (IntKind.i64.wrap (y4 + 1)) s23) else grapevineref12_Tree_Put_l0 l1 k y3 (IntKind.i64.wrap (y4 + 1)) y5)) else some (y3, y5))
def grapevineref12_Tree_Put (k : Nat) (a0 : T30) (l1 : List T36) : Option (Int × T30) := ((grapevineref12_Tree_Put_l0 l1 k 0 0 a0).bind fun s1 => some (s1.1, s1.2))
set_option maxHeartbeats 4000000 in
theorem grapevineref12_Tree_Put_calls {B : World} {G : GMap} {Γ : List Chunk} {W : World} (HT : Tabs B G) (k : Nat) (a0 : T30) (l1 : List T36) (b0 : Nat) (Aa0_f0 : Option Addr) (ca0_f0 : Nat) (Ca0_f0 : Chunk) (Ha0_f0 : Ow k36 G Aa0_f0 ca0_f0 a0.f0 Ca0_f0) (Al1 : Option Addr) (cl1 : Nat) (Hl1 : Rd k36 G Al1 cl1 l1) (r : Int × T30) (h : grapevineref12_Tree_Put k a0 l1 = some r) (hI : Inv B G ([(b0, .cells #[.slice Aa0_f0 a0.f0.length ca0_f0] 30 (0, 0))] :: Ca0_f0 :: Γ) W) :
    Calls Tryd.prog 18 [.pointer (some ⟨b0, 0, none⟩), .slice Al1 l1.length cl1].toArray W (Ret B (fun v G' Γ' => ∃ (ARp0 : Option Addr), ∃ (cRp0 : Nat), ∃ (CRp0 : Chunk), v = .int .i64 r.1 ∧ Ow k36 G' ARp0 cRp0 r.2.f0 CRp0 ∧ G = G' ∧ [(b0, .cells #[.slice ARp0 r.2.f0.length cRp0] 30 (0, 0))] :: CRp0 :: Γ = Γ')) := by
  refine calls_WP (Γ := [(b0, .cells #[.slice Aa0_f0 a0.f0.length ca0_f0] 30 (0, 0))] :: Ca0_f0 :: Γ) (G := G) (B := B) Tryd.func18 rfl (by kernel_rfl) ?_ hI
  clear hI
  unfold grapevineref12_Tree_Put at h
  refine WP.seqP [0, 1] (L' := [(0, .pointer (some ⟨b0, 0, none⟩)), (1, .slice Al1 l1.length cl1)]) (by kernel_rfl) ?_
  refine WP.seqP [0, 1, 5] (L' := [(0, .pointer (some ⟨b0, 0, none⟩)), (1, .slice Al1 l1.length cl1), (5, .int .i64 0)]) (by kernel_rfl) ?_
  refine WP.seq ?_
  refine WP.seqP [0, 1, 5, 6] (L' := [(0, .pointer (some ⟨b0, 0, none⟩)), (1, .slice Al1 l1.length cl1), (5, .int .i64 0), (6, .int .i64 0)]) (by kernel_rfl) ?_
  rw [Option.bind_eq_some_iff] at h
  obtain ⟨os1, h, hk2⟩ := h
  refine WP.cutQ (fun L' G' Γ' => ∃ s1 : Int × T30, s1 = os1 ∧ ∃ (As1_2_f0 : Option Addr), ∃ (cs1_2_f0 : Nat), ∃ (Cs1_2_f0 : Chunk), L' = [(5, .int .i64 s1.1)] ∧ G = G' ∧ [(b0, .cells #[.slice As1_2_f0 s1.2.f0.length cs1_2_f0] 30 (0, 0))] :: Cs1_2_f0 :: Γ = Γ' ∧ Ow k36 G As1_2_f0 cs1_2_f0 s1.2.f0 Cs1_2_f0) ?_ ?_
  · clear hk2
    refine WP.block ?_
    refine WP.pick [0, 1, 5, 6] ?_
    refine WP.loopF (fun kn6 L' G' Γ' => ∃ (y3 : Int), ∃ (y4 : Int), ∃ (y5 : T30), grapevineref12_Tree_Put_l0 l1 kn6 y3 y4 y5 = some os1 ∧ ∃ (Ay5_f0 : Option Addr), ∃ (cy5_f0 : Nat), ∃ (Cy5_f0 : Chunk), L' = [(0, .pointer (some ⟨b0, 0, none⟩)), (1, .slice Al1 l1.length cl1), (5, .int .i64 y3), (6, .int .i64 y4)] ∧ G = G' ∧ [(b0, .cells #[.slice Ay5_f0 y5.f0.length cy5_f0] 30 (0, 0))] :: Cy5_f0 :: Γ = Γ' ∧ Ow k36 G Ay5_f0 cy5_f0 y5.f0 Cy5_f0) ?_ k ⟨0, 0, a0, h, Aa0_f0, ca0_f0, Ca0_f0, rfl, rfl, rfl, Ha0_f0⟩
    clear h
    rintro kn7 _ _ _ ⟨y3, y4, y5, h, Ay5_f0, cy5_f0, Cy5_f0, rfl, rfl, rfl, Hy5_f0⟩
    cases kn7 with
    | zero => exact absurd h (by simp [grapevineref12_Tree_Put_l0])
    | succ kn7 =>
      simp only [grapevineref12_Tree_Put_l0] at h
      refine WP.seq ?_
      refine WP.seqP [0, 1, 5, 6, 10] (L' := [(0, .pointer (some ⟨b0, 0, none⟩)), (1, .slice Al1 l1.length cl1), (5, .int .i64 y3), (6, .int .i64 y4), (10, .bool (decide (y4 < (l1.length : Int))))]) (by kernel_rfl) ?_
      refine WP.cond (b := decide (y4 < (l1.length : Int))) (by kernel_rfl) (fun hc => ?_) (fun hc => ?_)
      · replace hc := of_decide_eq_true hc
        rw [if_pos hc] at h
        have hc8 := hc
        clear hc
        refine WP.skip ?_
        refine QP.next ?_
        refine WP.pick [0, 1, 5, 6] ?_
        refine WP.seq ?_
        refine WP.block ?_
        rw [Option.bind_eq_some_iff] at h
        obtain ⟨os9, h, hk10⟩ := h
        refine WP.cut (fun L' G' Γ' => ∃ s9 : Bool, s9 = os9 ∧ L' = [(0, .pointer (some ⟨b0, 0, none⟩)), (1, .slice Al1 l1.length cl1), (5, .int .i64 y3), (6, .int .i64 y4), (27, .bool s9)] ∧ G = G' ∧ [(b0, .cells #[.slice Ay5_f0 y5.f0.length cy5_f0] 30 (0, 0))] :: Cy5_f0 :: Γ = Γ') ?_ ?_
        · clear hk10
          refine WP.region ?_
          refine WL.pure 0 2 [0, 1, 5, 6, 13, 14] (L' := [(0, .pointer (some ⟨b0, 0, none⟩)), (1, .slice Al1 l1.length cl1), (5, .int .i64 y3), (6, .int .i64 y4), (13, .slice Al1 l1.length cl1), (14, .int .i64 y4)]) (by kernel_rfl) (by decide) ?_
          by_cases hb11 : 0 ≤ y4 ∧ y4 < (l1.length : Int)
          case neg => rw [if_neg hb11] at h; cases h
          rw [if_pos hb11] at h
          refine WL.tell (op := .indexAddr 28 (.tmp 13) (.tmp 14)) (ty := 0) (d := some 15) (g := none) (by kernel_rfl) (by kernel_rfl) (by kernel_rfl) (Tells.indexAddr (A := Al1) (n := l1.length) (c := cl1) (k := .i64) (j := y4) (by kernel_rfl) (by kernel_rfl) (Hl1.isSome hb11.1 hb11.2) hb11.1 hb11.2 sl28) ?_
          refine WL.tellE (op := .load 36 (.tmp 15)) (ty := 36) (d := some 16) (g := none) (by kernel_rfl) (by kernel_rfl) (by kernel_rfl) (Hl1.load (agg := true) hb11.1 hb11.2 z36 ag36 (fun h => by cases h) (by kernel_rfl)) ?_
          rintro _ rfl
          rw [Option.bind_eq_some_iff] at h
          obtain ⟨t12, ht13, h⟩ := h
          refine WL.op (op := .call { callee := (.value (.func 58)), args := #[(.tmp 16)], argTypes := #[36] }) (ty := 4) (d := some 17) (g := none) (by kernel_rfl) (by kernel_rfl) (by kernel_rfl) (Does.call (f := 58) (args := [.agg #[.int .i64 ((l1.getD y4.toNat z36).f0), .int .i64 ((l1.getD y4.toNat z36).f1), .int .i64 ((l1.getD y4.toNat z36).f2), .int .i64 ((l1.getD y4.toNat z36).f3), .string ((l1.getD y4.toNat z36).f4)]]) (by kernel_rfl) (fun W hI => (grapevineref4_May_calls HT (l1.getD y4.toNat z36)  t12 ht13 hI))) ?_
          rintro _ _ _ ⟨rfl, rfl, rfl⟩
          refine WL.pure 5 6 [0, 1, 5, 6, 18] (L' := [(0, .pointer (some ⟨b0, 0, none⟩)), (1, .slice Al1 l1.length cl1), (5, .int .i64 y3), (6, .int .i64 y4), (18, .bool t12)]) (by kernel_rfl) (by decide) ?_
          refine WL.split 18 (b := t12) (by kernel_rfl) (fun hc => ?_) (fun hc => ?_)
          · replace hc := hc
            rw [if_pos hc] at h
            have hc16 := hc
            clear hc
            refine WL.pure 6 9 [0, 1, 5, 6, 18, 19, 20, 21] (L' := [(0, .pointer (some ⟨b0, 0, none⟩)), (1, .slice Al1 l1.length cl1), (5, .int .i64 y3), (6, .int .i64 y4), (18, .bool true), (19, .pointer (some ⟨b0, 0, none⟩)), (20, .slice Al1 l1.length cl1), (21, .int .i64 y4)]) (by kernel_rfl) (by decide) ?_
            by_cases hb17 : 0 ≤ y4 ∧ y4 < (l1.length : Int)
            case neg => rw [if_neg hb17] at h; cases h
            rw [if_pos hb17] at h
            refine WL.tell (op := .indexAddr 28 (.tmp 20) (.tmp 21)) (ty := 0) (d := some 22) (g := some (5, true)) (by kernel_rfl) (by kernel_rfl) (by kernel_rfl) (Tells.indexAddr (A := Al1) (n := l1.length) (c := cl1) (k := .i64) (j := y4) (by kernel_rfl) (by kernel_rfl) (Hl1.isSome hb17.1 hb17.2) hb17.1 hb17.2 sl28) ?_
            refine WL.tell (op := .fieldAddr 36 (.tmp 22) 0) (ty := 0) (d := some 23) (g := some (5, true)) (by kernel_rfl) (by kernel_rfl) (by kernel_rfl) (Tells.fieldElem (m := y4.toNat * 5) (A := Al1) (by kernel_rfl) (Hl1.isSome hb17.1 hb17.2) fi36_0) ?_
            refine WL.tellE (op := .load 32 (.tmp 23)) (ty := 32) (d := some 24) (g := some (5, true)) (by kernel_rfl) (by kernel_rfl) (by kernel_rfl) (Hl1.loadF (agg := true) (off := 0) hb17.1 hb17.2 z36 ag32 (fun h => by cases h) (by decide) (by kernel_rfl)) ?_
            rintro _ rfl
            refine WL.front (i := 1) rfl ?_
            refine WL.front (i := 1) rfl ?_
            rw [Option.bind_eq_some_iff] at h
            obtain ⟨t18, ht19, h⟩ := h
            refine WL.op (op := .call { callee := (.value (.func 55)), args := #[(.tmp 19), (.tmp 24)], argTypes := #[27, 32] }) (ty := 3) (d := some 25) (g := some (5, true)) (by kernel_rfl) (by kernel_rfl) (by kernel_rfl) (Does.call (f := 55) (args := [.pointer (some ⟨b0, 0, none⟩), .agg #[.int .i64 ((l1.getD y4.toNat z36).f0), .int .i64 ((l1.getD y4.toNat z36).f1)]]) (by kernel_rfl) (fun W hI => (grapevineref12_Tree_Find_calls kn7 y5 (⟨(l1.getD y4.toNat z36).f0, (l1.getD y4.toNat z36).f1⟩ : T32) b0 Ay5_f0 cy5_f0 Cy5_f0 Hy5_f0 t18 ht19 hI))) ?_
            rintro _ _ _ ⟨rfl, rfl, rfl⟩
            refine WL.rest 13 [0, 1, 5, 6, 27] (L' := [(0, .pointer (some ⟨b0, 0, none⟩)), (1, .slice Al1 l1.length cl1), (5, .int .i64 y3), (6, .int .i64 y4), (27, .bool (decide (t18 < 0)))]) (by kernel_rfl) ?_
            refine QP.pick [0, 1, 5, 6, 27] ?_
            exact QP.meet ⟨_, Option.some.inj h, rfl, rfl, rfl⟩
          · replace hc := (Bool.eq_false_iff.1 hc)
            rw [if_neg hc] at h
            have hc16 := hc
            clear hc
            refine WL.rest 6 [0, 1, 5, 6, 27] (L' := [(0, .pointer (some ⟨b0, 0, none⟩)), (1, .slice Al1 l1.length cl1), (5, .int .i64 y3), (6, .int .i64 y4), (27, .bool false)]) (by kernel_rfl) ?_
            refine QP.pick [0, 1, 5, 6, 27] ?_
            exact QP.meet ⟨_, Option.some.inj h, rfl, rfl, rfl⟩
        · rintro _ _ _ ⟨s9, rfl, rfl, rfl, rfl⟩
          clear h
          replace h := hk10
          refine WP.cond (b := s9) (by kernel_rfl) (fun hc => ?_) (fun hc => ?_)
          · replace hc := hc
            rw [if_pos hc] at h
            have hc22 := hc
            clear hc
            rw [Option.bind_eq_some_iff] at h
            obtain ⟨os23, h, hk24⟩ := h
            refine WP.cut (fun L' G' Γ' => ∃ s23 : T30, s23 = os23 ∧ ∃ (As23_f0 : Option Addr), ∃ (cs23_f0 : Nat), ∃ (Cs23_f0 : Chunk), L' = [(0, .pointer (some ⟨b0, 0, none⟩)), (1, .slice Al1 l1.length cl1), (5, .int .i64 y3), (6, .int .i64 y4)] ∧ G = G' ∧ [(b0, .cells #[.slice As23_f0 s23.f0.length cs23_f0] 30 (0, 0))] :: Cs23_f0 :: Γ = Γ' ∧ Ow k36 G As23_f0 cs23_f0 s23.f0 Cs23_f0) ?_ ?_
            · clear hk24
              skip
              refine WP.any (N := 15) (S := [⟨some 28, [0], []⟩, ⟨some 29, [0], []⟩, ⟨some 30, [29], [1]⟩, ⟨some 31, [30], [2]⟩, ⟨some 32, [31], [3]⟩, ⟨some 33, [32], [4]⟩, ⟨some 34, [1], []⟩, ⟨some 35, [6], []⟩, ⟨some 36, [34, 35], [6, 7]⟩, ⟨some 37, [36], [8]⟩, ⟨some 38, [37], [9]⟩, ⟨some 39, [33, 38], [5, 10]⟩, ⟨some 40, [28], [0, 1, 2, 3, 4, 5, 6, 7, 8, 9, 10, 11]⟩, ⟨some 41, [40], [0, 1, 2, 3, 4, 5, 6, 7, 8, 9, 10, 11, 12]⟩, ⟨none, [39, 41], [0, 1, 2, 3, 4, 5, 6, 7, 8, 9, 10, 11, 13]⟩]) (kw := 14) (G0 := G) (Γ0 := [[(b0, .cells #[.slice Ay5_f0 y5.f0.length cy5_f0] 30 (0, 0))]]) mo (by kernel_rfl) (fun hS => ?_)
              refine WA.pure [0, 1, 2, 3, 6, 7] [0, 1, 5, 6, 28, 31, 34, 35] (m := 9) (b' := 207) (L' := [(0, .pointer (some ⟨b0, 0, none⟩)), (1, .slice Al1 l1.length cl1), (5, .int .i64 y3), (6, .int .i64 y4), (28, .pointer (some ⟨b0, 0, none⟩)), (31, .pointer (some ⟨b0, 0, none⟩)), (34, .slice Al1 l1.length cl1), (35, .int .i64 y4)]) (by kernel_rfl) (NoPanic.then (NoPanic.block (NoPanic.then (NoPanic.then (NoPanic.block (NoPanic.then (NoPanic.then (NoPanic.body)))))))) (Under.mem (C := [(b0, .cells #[.slice Ay5_f0 y5.f0.length cy5_f0] 30 (0, 0))]) (by repeat first | exact List.Mem.head _ | apply List.Mem.tail)) hS (by kernel_rfl) ?_
              refine WA.tellD [14] (i := 4) (m := 8) (b' := 223) (by kernel_rfl) (NoPanic.then (NoPanic.block (NoPanic.then (NoPanic.then (NoPanic.block (NoPanic.then (NoPanic.then (NoPanic.body)))))))) (Under.mem (C := [(b0, .cells #[.slice Ay5_f0 y5.f0.length cy5_f0] 30 (0, 0))]) (by repeat first | exact List.Mem.head _ | apply List.Mem.tail)) hS (by kernel_rfl) (op := .load 28 (.tmp 31)) (ty := 28) (d := some 32) (g := none) (by kernel_rfl) (by kernel_rfl) (by kernel_rfl) (Tells.load_box (i := 0) (b := b0) (o := 0) (agg := false) (by rfl) ag28 (by kernel_rfl) (fun _ => rfl) (Nat.le_of_ble_eq_true rfl) (v := .slice Ay5_f0 y5.f0.length cy5_f0) (by kernel_rfl)) ?_
              by_cases hb25 : 0 ≤ y4 ∧ y4 < (l1.length : Int)
              case neg => rw [if_neg hb25] at h; cases h
              rw [if_pos hb25] at h
              refine WA.tellD [14] (i := 8) (m := 7) (b' := 479) (by kernel_rfl) (NoPanic.then (NoPanic.block (NoPanic.then (NoPanic.then (NoPanic.block (NoPanic.then (NoPanic.then (NoPanic.body)))))))) (Under.mem (C := [(b0, .cells #[.slice Ay5_f0 y5.f0.length cy5_f0] 30 (0, 0))]) (by repeat first | exact List.Mem.head _ | apply List.Mem.tail)) hS (by kernel_rfl) (op := .indexAddr 28 (.tmp 34) (.tmp 35)) (ty := 0) (d := some 36) (g := none) (by kernel_rfl) (by kernel_rfl) (by kernel_rfl) (Tells.indexAddr (A := Al1) (n := l1.length) (c := cl1) (k := .i64) (j := y4) (by kernel_rfl) (by kernel_rfl) (Hl1.isSome hb25.1 hb25.2) hb25.1 hb25.2 sl28) ?_
              refine WA.tellDE [14] (i := 9) (m := 6) (b' := 991) (by kernel_rfl) (NoPanic.then (NoPanic.block (NoPanic.then (NoPanic.then (NoPanic.block (NoPanic.then (NoPanic.then (NoPanic.body)))))))) (Under.mem (C := [(b0, .cells #[.slice Ay5_f0 y5.f0.length cy5_f0] 30 (0, 0))]) (by repeat first | exact List.Mem.head _ | apply List.Mem.tail)) hS (by kernel_rfl) (op := .load 36 (.tmp 36)) (ty := 36) (d := some 37) (g := none) (by kernel_rfl) (by kernel_rfl) (by kernel_rfl) (Hl1.load (agg := true) hb25.1 hb25.2 z36 ag36 (fun h => by cases h) (by kernel_rfl)) ?_
              rintro _ rfl
              refine WA.two (i := 5) (j := 10) (m := 5) (by kernel_rfl) hS (by kernel_rfl) ?_ ?_
              · refine WO.addNil ?_
                by_cases hb26 : ([] : List T36).length + y5.f0.length ≤ 1073741824
                case neg => rw [if_neg hb26] at h; cases h
                rw [if_pos hb26] at h
                refine WO.op (b' := 1023) (by kernel_rfl) (op := .call { callee := (.builtin .append), args := #[(.const (.slice none 0 0)), (.tmp 32)], argTypes := #[28, 28] }) (ty := 28) (d := some 33) (g := none) (by kernel_rfl) (by kernel_rfl) (by kernel_rfl) (Ow.append (ys := y5.f0) (v := .slice Ay5_f0 y5.f0.length cy5_f0) (Ow.nil k36 G) (i := 0) rfl (by kernel_rfl) (by kernel_rfl) (Hy5_f0.src (i := 2) rfl) sl28 ze36 nt28 (by decide) hb26) ?_
                rintro _ _ _ ⟨rfl, AN27, cN27, CN27, rfl, HN27, rfl⟩
                refine ⟨_, _, Under.refl, (Under.mem (C := [(b0, .cells #[.slice Ay5_f0 y5.f0.length cy5_f0] 30 (0, 0))]) (by repeat first | exact List.Mem.head _ | apply List.Mem.tail)), ?_⟩
                refine WA.op (i := 10) (m := 4) (b' := 2047) (by kernel_rfl) hS (by kernel_rfl) (op := .buildSlice 28 1 #[(0, (.tmp 37))]) (ty := 28) (d := some 38) (g := none) (by kernel_rfl) (by kernel_rfl) (by kernel_rfl) (Does.new (o := .cells #[.int .i64 ((l1.getD y4.toNat z36).f0), .int .i64 ((l1.getD y4.toNat z36).f1), .int .i64 ((l1.getD y4.toNat z36).f2), .int .i64 ((l1.getD y4.toNat z36).f3), .string ((l1.getD y4.toNat z36).f4)] 36 (0, 0)) (v := fun r => .slice (some ⟨r, 0, none⟩) 1 1) (fun r => by kernel_rfl)) ?_
                rintro _ _ _ ⟨b28, rfl, rfl, rfl⟩
                refine ⟨_, _, Under.refl, (Under.mem (C := [(b0, .cells #[.slice Ay5_f0 y5.f0.length cy5_f0] 30 (0, 0))]) (by repeat first | exact List.Mem.head _ | apply List.Mem.tail)), ?_⟩
                have Ho30 : Ow k36 G (some ⟨b28, 0, none⟩) 1 ([(l1.getD y4.toNat z36)] : List T36) [(b28, .cells #[.int .i64 ((l1.getD y4.toNat z36).f0), .int .i64 ((l1.getD y4.toNat z36).f1), .int .i64 ((l1.getD y4.toNat z36).f2), .int .i64 ((l1.getD y4.toNat z36).f3), .string ((l1.getD y4.toNat z36).f4)] 36 (0, 0))] := Ow.lit (kd := k36) (G := G) (b := b28) (T := 36) (xs := ([(l1.getD y4.toNat z36)] : List T36)) (cs := [.int .i64 ((l1.getD y4.toNat z36).f0), .int .i64 ((l1.getD y4.toNat z36).f1), .int .i64 ((l1.getD y4.toNat z36).f2), .int .i64 ((l1.getD y4.toNat z36).f3), .string ((l1.getD y4.toNat z36).f4)]) (.cons (x := (l1.getD y4.toNat z36)) (cs := [.int .i64 ((l1.getD y4.toNat z36).f0), .int .i64 ((l1.getD y4.toNat z36).f1), .int .i64 ((l1.getD y4.toNat z36).f2), .int .i64 ((l1.getD y4.toNat z36).f3), .string ((l1.getD y4.toNat z36).f4)]) (by exact rfl) .nil)
                by_cases hb31 : (([] : List T36) ++ y5.f0).length + ([(l1.getD y4.toNat z36)] : List T36).length ≤ 1073741824
                case neg => rw [if_neg hb31] at h; cases h
                rw [if_pos hb31] at h
                refine WA.op (i := 11) (m := 3) (b' := 4095) (by kernel_rfl) hS (by kernel_rfl) (op := .call { callee := (.builtin .append), args := #[(.tmp 33), (.tmp 38)], argTypes := #[28, 28] }) (ty := 28) (d := some 39) (g := none) (by kernel_rfl) (by kernel_rfl) (by kernel_rfl) (Ow.append (ys := ([(l1.getD y4.toNat z36)] : List T36)) (v := .slice (some ⟨b28, 0, none⟩) ([(l1.getD y4.toNat z36)] : List T36).length 1) HN27 (i := 1) rfl (by kernel_rfl) (by kernel_rfl) (Ho30.src (i := 0) rfl) sl28 ze36 nt28 (by decide) hb31) ?_
                rintro _ _ _ ⟨rfl, AN32, cN32, CN32, rfl, HN32, rfl⟩
                refine ⟨_, _, Under.refl, (Under.mem (C := [(b0, .cells #[.slice Ay5_f0 y5.f0.length cy5_f0] 30 (0, 0))]) (by repeat first | exact List.Mem.head _ | apply List.Mem.tail)), ?_⟩
                refine WA.pure [12, 13] [0, 1, 5, 6, 39, 41] (m := 1) (b' := 16383) (L' := [(0, .pointer (some ⟨b0, 0, none⟩)), (1, .slice Al1 l1.length cl1), (5, .int .i64 y3), (6, .int .i64 y4), (39, .slice AN32 ((([] : List T36) ++ y5.f0) ++ ([(l1.getD y4.toNat z36)] : List T36)).length cN32), (41, .pointer (some ⟨b0, 0, none⟩))]) (by kernel_rfl) (NoPanic.then (NoPanic.block (NoPanic.then (NoPanic.then (NoPanic.block (NoPanic.then (NoPanic.then (NoPanic.body)))))))) (Under.mem (C := [(b0, .cells #[.slice Ay5_f0 y5.f0.length cy5_f0] 30 (0, 0))]) (by repeat first | exact List.Mem.head _ | apply List.Mem.tail)) hS (by kernel_rfl) ?_
                refine WA.opK (i := 14) (kw' := 15) (m := 0) (b' := 32767) (by kernel_rfl) rfl hS (by kernel_rfl) (op := .store 28 (.tmp 41) (.tmp 39)) (ty := 0) (d := none) (g := none) (by kernel_rfl) (by kernel_rfl) (by kernel_rfl) (Does.store_box (i := 2) (b := b0) (o := 0) (v := .slice AN32 ((([] : List T36) ++ y5.f0) ++ ([(l1.getD y4.toNat z36)] : List T36)).length cN32) (by rfl) sz28 (by kernel_rfl) (by kernel_rfl) (by kernel_rfl) (Free.zero _) (Nat.le_of_ble_eq_true rfl) (cells' := #[.slice AN32 ((([] : List T36) ++ y5.f0) ++ ([(l1.getD y4.toNat z36)] : List T36)).length cN32]) (by kernel_rfl)) ?_
                rintro _ _ _ ⟨rfl, rfl, rfl⟩
                refine ⟨_, _, (Under.mem (C := [(b0, .cells #[.slice AN32 ((([] : List T36) ++ y5.f0) ++ ([(l1.getD y4.toNat z36)] : List T36)).length cN32] 30 (0, 0))]) (by repeat first | exact List.Mem.head _ | apply List.Mem.tail)), ?_⟩
                refine WA.done hS (by kernel_rfl) ?_
                refine QP.pick [0, 1, 5, 6] ?_
                refine QP.dropAt 3 ?_
                refine QP.dropAt 0 ?_
                refine QP.front (i := 1) rfl ?_
                refine QP.pick [0, 1, 5, 6] ?_
                exact QP.meet ⟨_, Option.some.inj h, AN32, cN32, CN32, rfl, rfl, rfl, HN32⟩
              · refine WO.op (b' := 2015) (by kernel_rfl) (op := .buildSlice 28 1 #[(0, (.tmp 37))]) (ty := 28) (d := some 38) (g := none) (by kernel_rfl) (by kernel_rfl) (by kernel_rfl) (Does.new (o := .cells #[.int .i64 ((l1.getD y4.toNat z36).f0), .int .i64 ((l1.getD y4.toNat z36).f1), .int .i64 ((l1.getD y4.toNat z36).f2), .int .i64 ((l1.getD y4.toNat z36).f3), .string ((l1.getD y4.toNat z36).f4)] 36 (0, 0)) (v := fun r => .slice (some ⟨r, 0, none⟩) 1 1) (fun r => by kernel_rfl)) ?_
                rintro _ _ _ ⟨b26, rfl, rfl, rfl⟩
                refine ⟨_, _, Under.refl, (Under.mem (C := [(b0, .cells #[.slice Ay5_f0 y5.f0.length cy5_f0] 30 (0, 0))]) (by repeat first | exact List.Mem.head _ | apply List.Mem.tail)), ?_⟩
                have Ho28 : Ow k36 G (some ⟨b26, 0, none⟩) 1 ([(l1.getD y4.toNat z36)] : List T36) [(b26, .cells #[.int .i64 ((l1.getD y4.toNat z36).f0), .int .i64 ((l1.getD y4.toNat z36).f1), .int .i64 ((l1.getD y4.toNat z36).f2), .int .i64 ((l1.getD y4.toNat z36).f3), .string ((l1.getD y4.toNat z36).f4)] 36 (0, 0))] := Ow.lit (kd := k36) (G := G) (b := b26) (T := 36) (xs := ([(l1.getD y4.toNat z36)] : List T36)) (cs := [.int .i64 ((l1.getD y4.toNat z36).f0), .int .i64 ((l1.getD y4.toNat z36).f1), .int .i64 ((l1.getD y4.toNat z36).f2), .int .i64 ((l1.getD y4.toNat z36).f3), .string ((l1.getD y4.toNat z36).f4)]) (.cons (x := (l1.getD y4.toNat z36)) (cs := [.int .i64 ((l1.getD y4.toNat z36).f0), .int .i64 ((l1.getD y4.toNat z36).f1), .int .i64 ((l1.getD y4.toNat z36).f2), .int .i64 ((l1.getD y4.toNat z36).f3), .string ((l1.getD y4.toNat z36).f4)]) (by exact rfl) .nil)
                refine WA.addNil ?_
                by_cases hb29 : ([] : List T36).length + y5.f0.length ≤ 1073741824
                case neg => rw [if_neg hb29] at h; cases h
                rw [if_pos hb29] at h
                refine WA.op (i := 5) (m := 4) (b' := 2047) (by kernel_rfl) hS (by kernel_rfl) (op := .call { callee := (.builtin .append), args := #[(.const (.slice none 0 0)), (.tmp 32)], argTypes := #[28, 28] }) (ty := 28) (d := some 33) (g := none) (by kernel_rfl) (by kernel_rfl) (by kernel_rfl) (Ow.append (ys := y5.f0) (v := .slice Ay5_f0 y5.f0.length cy5_f0) (Ow.nil k36 G) (i := 0) rfl (by kernel_rfl) (by kernel_rfl) (Hy5_f0.src (i := 3) rfl) sl28 ze36 nt28 (by decide) hb29) ?_
                rintro _ _ _ ⟨rfl, AN30, cN30, CN30, rfl, HN30, rfl⟩
                refine ⟨_, _, Under.refl, (Under.mem (C := [(b0, .cells #[.slice Ay5_f0 y5.f0.length cy5_f0] 30 (0, 0))]) (by repeat first | exact List.Mem.head _ | apply List.Mem.tail)), ?_⟩
                by_cases hb31 : (([] : List T36) ++ y5.f0).length + ([(l1.getD y4.toNat z36)] : List T36).length ≤ 1073741824
                case neg => rw [if_neg hb31] at h; cases h
                rw [if_pos hb31] at h
                refine WA.op (i := 11) (m := 3) (b' := 4095) (by kernel_rfl) hS (by kernel_rfl) (op := .call { callee := (.builtin .append), args := #[(.tmp 33), (.tmp 38)], argTypes := #[28, 28] }) (ty := 28) (d := some 39) (g := none) (by kernel_rfl) (by kernel_rfl) (by kernel_rfl) (Ow.append (ys := ([(l1.getD y4.toNat z36)] : List T36)) (v := .slice (some ⟨b26, 0, none⟩) ([(l1.getD y4.toNat z36)] : List T36).length 1) HN30 (i := 0) rfl (by kernel_rfl) (by kernel_rfl) (Ho28.src (i := 1) rfl) sl28 ze36 nt28 (by decide) hb31) ?_
                rintro _ _ _ ⟨rfl, AN32, cN32, CN32, rfl, HN32, rfl⟩
                refine ⟨_, _, Under.refl, (Under.mem (C := [(b0, .cells #[.slice Ay5_f0 y5.f0.length cy5_f0] 30 (0, 0))]) (by repeat first | exact List.Mem.head _ | apply List.Mem.tail)), ?_⟩
                refine WA.pure [12, 13] [0, 1, 5, 6, 39, 41] (m := 1) (b' := 16383) (L' := [(0, .pointer (some ⟨b0, 0, none⟩)), (1, .slice Al1 l1.length cl1), (5, .int .i64 y3), (6, .int .i64 y4), (39, .slice AN32 ((([] : List T36) ++ y5.f0) ++ ([(l1.getD y4.toNat z36)] : List T36)).length cN32), (41, .pointer (some ⟨b0, 0, none⟩))]) (by kernel_rfl) (NoPanic.then (NoPanic.block (NoPanic.then (NoPanic.then (NoPanic.block (NoPanic.then (NoPanic.then (NoPanic.body)))))))) (Under.mem (C := [(b0, .cells #[.slice Ay5_f0 y5.f0.length cy5_f0] 30 (0, 0))]) (by repeat first | exact List.Mem.head _ | apply List.Mem.tail)) hS (by kernel_rfl) ?_
                refine WA.opK (i := 14) (kw' := 15) (m := 0) (b' := 32767) (by kernel_rfl) rfl hS (by kernel_rfl) (op := .store 28 (.tmp 41) (.tmp 39)) (ty := 0) (d := none) (g := none) (by kernel_rfl) (by kernel_rfl) (by kernel_rfl) (Does.store_box (i := 2) (b := b0) (o := 0) (v := .slice AN32 ((([] : List T36) ++ y5.f0) ++ ([(l1.getD y4.toNat z36)] : List T36)).length cN32) (by rfl) sz28 (by kernel_rfl) (by kernel_rfl) (by kernel_rfl) (Free.zero _) (Nat.le_of_ble_eq_true rfl) (cells' := #[.slice AN32 ((([] : List T36) ++ y5.f0) ++ ([(l1.getD y4.toNat z36)] : List T36)).length cN32]) (by kernel_rfl)) ?_
                rintro _ _ _ ⟨rfl, rfl, rfl⟩
                refine ⟨_, _, (Under.mem (C := [(b0, .cells #[.slice AN32 ((([] : List T36) ++ y5.f0) ++ ([(l1.getD y4.toNat z36)] : List T36)).length cN32] 30 (0, 0))]) (by repeat first | exact List.Mem.head _ | apply List.Mem.tail)), ?_⟩
                refine WA.done hS (by kernel_rfl) ?_
                refine QP.pick [0, 1, 5, 6] ?_
                refine QP.dropAt 3 ?_
                refine QP.dropAt 1 ?_
                refine QP.front (i := 1) rfl ?_
                refine QP.pick [0, 1, 5, 6] ?_
                exact QP.meet ⟨_, Option.some.inj h, AN32, cN32, CN32, rfl, rfl, rfl, HN32⟩
            · rintro _ _ _ ⟨s23, rfl, As23_f0, cs23_f0, Cs23_f0, rfl, rfl, rfl, Hs23_f0⟩
              clear h
              replace h := hk24
              refine WP.regionP [0, 1, 5, 6] (L' := [(0, .pointer (some ⟨b0, 0, none⟩)), (1, .slice Al1 l1.length cl1), (5, .int .i64 (IntKind.i64.wrap (y3 + 1))), (6, .int .i64 y4)]) (by kernel_rfl) ?_
              refine QP.blockN ?_
              refine QP.next ?_
              refine WP.pick [0, 1, 5, 6] ?_
              refine WP.regionP [0, 1, 5, 6] (L' := [(0, .pointer (some ⟨b0, 0, none⟩)), (1, .slice Al1 l1.length cl1), (5, .int .i64 (IntKind.i64.wrap (y3 + 1))), (6, .int .i64 (IntKind.i64.wrap (y4 + 1)))]) (by kernel_rfl) ?_
              refine QP.front (i := 1) rfl ?_
              refine QP.front (i := 1) rfl ?_
              refine QP.pick [0, 1, 5, 6] ?_
              exact QP.meet ⟨kn7, Nat.lt_succ_self _, (IntKind.i64.wrap (y3 + 1)), (IntKind.i64.wrap (y4 + 1)), s23, h, As23_f0, cs23_f0, Cs23_f0, rfl, rfl, rfl, Hs23_f0⟩
          · replace hc := (Bool.eq_false_iff.1 hc)
            rw [if_neg hc] at h
            have hc22 := hc
            clear hc
            refine WP.skip ?_
            refine QP.blockN ?_
            refine QP.next ?_
            refine WP.pick [0, 1, 5, 6] ?_
            refine WP.regionP [0, 1, 5, 6] (L' := [(0, .pointer (some ⟨b0, 0, none⟩)), (1, .slice Al1 l1.length cl1), (5, .int .i64 y3), (6, .int .i64 (IntKind.i64.wrap (y4 + 1)))]) (by kernel_rfl) ?_
            refine QP.front (i := 1) rfl ?_
            refine QP.front (i := 1) rfl ?_
            refine QP.pick [0, 1, 5, 6] ?_
            exact QP.meet ⟨kn7, Nat.lt_succ_self _, y3, (IntKind.i64.wrap (y4 + 1)), y5, h, Ay5_f0, cy5_f0, Cy5_f0, rfl, rfl, rfl, Hy5_f0⟩
      · replace hc := of_decide_eq_false hc
        rw [if_neg hc] at h
        have hc8 := hc
        clear hc
        refine WP.exit ?_
        refine QP.thenE ?_
        refine QP.thenE ?_
        refine QP.blockE ?_
        refine QP.pick [5] ?_
        exact QP.meet ⟨_, Option.some.inj h, Ay5_f0, cy5_f0, Cy5_f0, rfl, rfl, rfl, Hy5_f0⟩
  · rintro _ _ _ ⟨s1, rfl, As1_2_f0, cs1_2_f0, Cs1_2_f0, rfl, rfl, rfl, Hs1_2_f0⟩
    clear h
    replace h := hk2
    refine QP.next ?_
    refine WP.pick [5] ?_
    refine WP.seqP [4] (L' := [(4, .int .i64 s1.1)]) (by kernel_rfl) ?_
    refine WP.ret ?_
    obtain rfl := Option.some.inj h
    exact QP.returned [4] [.int .i64 s1.1] _ (by kernel_rfl) (by kernel_rfl) (by kernel_rfl) (fun W hI => ⟨_, _, _, rfl, ⟨As1_2_f0, cs1_2_f0, Cs1_2_f0, rfl, Hs1_2_f0, rfl, rfl⟩, hI⟩)
end Go.Proofs.YtajhihpaccggdaaDoor.Gf
