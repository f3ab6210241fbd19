/- Walks of Go functions: what each tells, as a plain Lean function, and that the Go code comes to it. Written by gg.py of this repo. -/
import Derived.Test.YtjefgmglgphdbaaDoorT
import Derived.Test.YtjefgmglgphdbaaDoorF0
import Derived.Test.YtjefgmglgphdbaaDoorF1
namespace Go.Proofs.YtjefgmglgphdbaaDoor.Gf
open Go Go.Gg
set_option maxRecDepth 100000
set_option linter.unusedVariables false
set_option linter.unusedSimpArgs false

/-! ### grapevine/grapevineref3.Below: function 16 -/
def grapevineref3_Below_l0 (l0 : List Int) (l1 : List Int) : Nat → Int → Option (Sum Bool Unit)
  | 0, _ => none
  | k + 1, y4 => (if y4 < (l0.length : Int) then (if 0 ≤ y4 ∧ y4 < (l0.length : Int) then (if 0 ≤ y4 ∧ y4 < (l1.length : Int) then (if (l0.getD y4.toNat 0) > (l1.getD y4.toNat 0) then some (Sum.inl false) else grapevineref3_Below_l0 l0 l1 k (IntKind.i64.wrap (y4 + 1))) else none) else none) else some (Sum.inr ()))
def grapevineref3_Below (k : Nat) (l0 : List Int) (l1 : List Int) : Option Bool := (if ¬ (l0.length : Int) = (l1.length : Int) then some false else ((grapevineref3_Below_l0 l0 l1 k 0).bind fun os2 => match os2 with | Sum.inl r => some r | Sum.inr s2 => some true))
set_option maxHeartbeats 4000000 in
theorem grapevineref3_Below_calls {B : World} {G : GMap} {Γ : List Chunk} {W : World} (k : Nat) (l0 : List Int) (l1 : List Int) (Al0 : Option Addr) (cl0 : Nat) (Hl0 : Rd (kInt .i64) G Al0 cl0 l0) (Al1 : Option Addr) (cl1 : Nat) (Hl1 : Rd (kInt .i64) G Al1 cl1 l1) (r : Bool) (h : grapevineref3_Below k l0 l1 = some r) (hI : Inv B G (Γ) W) :
    Calls Tryd.prog 16 [.slice Al0 l0.length cl0, .slice Al1 l1.length cl1].toArray W (Ret B (fun v G' Γ' => v = .bool r ∧ G = G' ∧ Γ = Γ')) := by
  refine calls_WP (Γ := Γ) (G := G) (B := B) Tryd.func16 rfl (by kernel_rfl) ?_ hI
  clear hI
  unfold grapevineref3_Below at h
  refine WP.seqP [0, 1] (L' := [(0, .slice Al0 l0.length cl0), (1, .slice Al1 l1.length cl1)]) (by kernel_rfl) ?_
  refine WP.seq ?_
  refine WP.seqP [0, 1, 10] (L' := [(0, .slice Al0 l0.length cl0), (1, .slice Al1 l1.length cl1), (10, .bool ((l0.length : Int) != (l1.length : Int)))]) (by kernel_rfl) ?_
  refine WP.cond (b := ((l0.length : Int) != (l1.length : Int))) (by kernel_rfl) (fun hc => ?_) (fun hc => ?_)
  · replace hc := (bne_iff_ne.1 hc)
    rw [if_pos hc] at h
    have hc1 := hc
    clear hc
    refine WP.seqP [4] (L' := [(4, .bool false)]) (by kernel_rfl) ?_
    refine WP.ret ?_
    refine QP.thenR ?_
    obtain rfl := Option.some.inj h
    exact QP.returned [4] [.bool false] _ (by kernel_rfl) (by kernel_rfl) (by kernel_rfl) (fun W hI => ⟨_, _, _, rfl, ⟨rfl, rfl, rfl⟩, hI⟩)
  · replace hc := (not_not_intro (bne_eq_false_iff_eq.1 hc))
    rw [if_neg hc] at h
    have hc1 := hc
    clear hc
    refine WP.skip ?_
    refine QP.next ?_
    refine WP.pick [0, 1] ?_
    refine WP.seq ?_
    refine WP.seqP [0, 1, 5] (L' := [(0, .slice Al0 l0.length cl0), (1, .slice Al1 l1.length cl1), (5, .int .i64 0)]) (by kernel_rfl) ?_
    rw [Option.bind_eq_some_iff] at h
    obtain ⟨os2, h, hk3⟩ := h
    refine WP.cutQ (fun L' G' Γ' => ∃ s2 : Unit, Sum.inr s2 = os2 ∧ L' = [] ∧ G = G' ∧ Γ = Γ') ?_ ?_
    · skip
      refine WP.block ?_
      refine WP.pick [0, 1, 5] ?_
      refine WP.loopF (fun kn5 L' G' Γ' => ∃ (y4 : Int), grapevineref3_Below_l0 l0 l1 kn5 y4 = some os2 ∧ L' = [(0, .slice Al0 l0.length cl0), (1, .slice Al1 l1.length cl1), (5, .int .i64 y4)] ∧ G = G' ∧ Γ = Γ') ?_ k ⟨0, h, rfl, rfl, rfl⟩
      clear h
      rintro kn6 _ _ _ ⟨y4, h, rfl, rfl, rfl⟩
      cases kn6 with
      | zero => exact absurd h (by simp [grapevineref3_Below_l0])
      | succ kn6 =>
        simp only [grapevineref3_Below_l0] at h
        refine WP.seq ?_
        refine WP.seqP [0, 1, 5, 14] (L' := [(0, .slice Al0 l0.length cl0), (1, .slice Al1 l1.length cl1), (5, .int .i64 y4), (14, .bool (decide (y4 < (l0.length : Int))))]) (by kernel_rfl) ?_
        refine WP.cond (b := decide (y4 < (l0.length : Int))) (by kernel_rfl) (fun hc => ?_) (fun hc => ?_)
        · replace hc := of_decide_eq_true hc
          rw [if_pos hc] at h
          have hc7 := hc
          clear hc
          refine WP.skip ?_
          refine QP.next ?_
          refine WP.pick [0, 1, 5] ?_
          refine WP.seq ?_
          refine WP.block ?_
          refine WP.seq ?_
          refine WP.any (N := 9) (S := [⟨some 17, [0], []⟩, ⟨some 18, [5], []⟩, ⟨some 19, [17, 18], [0, 1]⟩, ⟨some 20, [19], [2]⟩, ⟨some 21, [1], []⟩, ⟨some 22, [5], []⟩, ⟨some 23, [21, 22], [4, 5]⟩, ⟨some 24, [23], [6]⟩, ⟨some 25, [20, 24], [3, 7]⟩]) (kw := 9) (G0 := G) (Γ0 := Γ) mo (by kernel_rfl) (fun hS => ?_)
          refine WA.pure [0, 1, 4, 5] [0, 1, 5, 17, 18, 21, 22] (m := 5) (b' := 51) (L' := [(0, .slice Al0 l0.length cl0), (1, .slice Al1 l1.length cl1), (5, .int .i64 y4), (17, .slice Al0 l0.length cl0), (18, .int .i64 y4), (21, .slice Al1 l1.length cl1), (22, .int .i64 y4)]) (by kernel_rfl) (NoPanic.then (NoPanic.block (NoPanic.then (NoPanic.then (NoPanic.block (NoPanic.then (NoPanic.then (NoPanic.body)))))))) Under.refl hS (by kernel_rfl) ?_
          by_cases hb8 : 0 ≤ y4 ∧ y4 < (l0.length : Int)
          case neg => rw [if_neg hb8] at h; cases h
          rw [if_pos hb8] at h
          refine WA.tellD [] (i := 2) (m := 4) (b' := 55) (by kernel_rfl) (NoPanic.then (NoPanic.block (NoPanic.then (NoPanic.then (NoPanic.block (NoPanic.then (NoPanic.then (NoPanic.body)))))))) Under.refl hS (by kernel_rfl) (op := .indexAddr 27 (.tmp 17) (.tmp 18)) (ty := 0) (d := some 19) (g := none) (by kernel_rfl) (by kernel_rfl) (by kernel_rfl) (Tells.indexAddr (A := Al0) (n := l0.length) (c := cl0) (k := .i64) (j := y4) (by kernel_rfl) (by kernel_rfl) (Hl0.isSome hb8.1 hb8.2) hb8.1 hb8.2 sl27) ?_
          refine WA.tellDE [] (i := 3) (m := 3) (b' := 63) (by kernel_rfl) (NoPanic.then (NoPanic.block (NoPanic.then (NoPanic.then (NoPanic.block (NoPanic.then (NoPanic.then (NoPanic.body)))))))) Under.refl hS (by kernel_rfl) (op := .load 3 (.tmp 19)) (ty := 3) (d := some 20) (g := none) (by kernel_rfl) (by kernel_rfl) (by kernel_rfl) (Hl0.load (agg := false) hb8.1 hb8.2 0 ag3 (fun _ => rfl) (by kernel_rfl)) ?_
          rintro _ rfl
          by_cases hb9 : 0 ≤ y4 ∧ y4 < (l1.length : Int)
          case neg => rw [if_neg hb9] at h; cases h
          rw [if_pos hb9] at h
          refine WA.tellD [] (i := 6) (m := 2) (b' := 127) (by kernel_rfl) (NoPanic.then (NoPanic.block (NoPanic.then (NoPanic.then (NoPanic.block (NoPanic.then (NoPanic.then (NoPanic.body)))))))) Under.refl hS (by kernel_rfl) (op := .indexAddr 27 (.tmp 21) (.tmp 22)) (ty := 0) (d := some 23) (g := none) (by kernel_rfl) (by kernel_rfl) (by kernel_rfl) (Tells.indexAddr (A := Al1) (n := l1.length) (c := cl1) (k := .i64) (j := y4) (by kernel_rfl) (by kernel_rfl) (Hl1.isSome hb9.1 hb9.2) hb9.1 hb9.2 sl27) ?_
          refine WA.tellDE [] (i := 7) (m := 1) (b' := 255) (by kernel_rfl) (NoPanic.then (NoPanic.block (NoPanic.then (NoPanic.then (NoPanic.block (NoPanic.then (NoPanic.then (NoPanic.body)))))))) Under.refl hS (by kernel_rfl) (op := .load 3 (.tmp 23)) (ty := 3) (d := some 24) (g := none) (by kernel_rfl) (by kernel_rfl) (by kernel_rfl) (Hl1.load (agg := false) hb9.1 hb9.2 0 ag3 (fun _ => rfl) (by kernel_rfl)) ?_
          rintro _ rfl
          refine WA.pure [8] [0, 1, 5, 25] (m := 0) (b' := 511) (L' := [(0, .slice Al0 l0.length cl0), (1, .slice Al1 l1.length cl1), (5, .int .i64 y4), (25, .bool (decide ((l0.getD y4.toNat 0) > (l1.getD y4.toNat 0))))]) (by kernel_rfl) (NoPanic.then (NoPanic.block (NoPanic.then (NoPanic.then (NoPanic.block (NoPanic.then (NoPanic.then (NoPanic.body)))))))) Under.refl hS (by kernel_rfl) ?_
          refine WA.done hS (by kernel_rfl) ?_
          refine QP.pick [0, 1, 5, 25] ?_
          refine QP.next ?_
          refine WP.cond (b := decide ((l0.getD y4.toNat 0) > (l1.getD y4.toNat 0))) (by kernel_rfl) (fun hc => ?_) (fun hc => ?_)
          · replace hc := of_decide_eq_true hc
            rw [if_pos hc] at h
            have hc10 := hc
            clear hc
            refine WP.seqP [4] (L' := [(4, .bool false)]) (by kernel_rfl) ?_
            refine WP.ret ?_
            refine QP.blockR ?_
            refine QP.thenR ?_
            refine QP.thenR ?_
            refine QP.blockR ?_
            refine QP.thenR ?_
            refine QP.thenR ?_
            obtain rfl := Option.some.inj h
            obtain rfl := Option.some.inj (show some _ = some _ from hk3)
            exact QP.returned [4] [.bool false] _ (by kernel_rfl) (by kernel_rfl) (by kernel_rfl) (fun W hI => ⟨_, _, _, rfl, ⟨rfl, rfl, rfl⟩, hI⟩)
          · replace hc := of_decide_eq_false hc
            rw [if_neg hc] at h
            have hc10 := hc
            clear hc
            refine WP.skip ?_
            refine QP.blockN ?_
            refine QP.next ?_
            refine WP.pick [0, 1, 5] ?_
            refine WP.regionP [0, 1, 5] (L' := [(0, .slice Al0 l0.length cl0), (1, .slice Al1 l1.length cl1), (5, .int .i64 (IntKind.i64.wrap (y4 + 1)))]) (by kernel_rfl) ?_
            refine QP.pick [0, 1, 5] ?_
            exact QP.meet ⟨kn6, Nat.lt_succ_self _, (IntKind.i64.wrap (y4 + 1)), h, rfl, rfl, rfl⟩
        · replace hc := of_decide_eq_false hc
          rw [if_neg hc] at h
          have hc7 := hc
          clear hc
          refine WP.exit ?_
          refine QP.thenE ?_
          refine QP.thenE ?_
          refine QP.blockE ?_
          refine QP.pick [] ?_
          exact QP.meet ⟨_, Option.some.inj h, rfl, rfl, rfl⟩
    · rintro _ _ _ ⟨s2, rfl, rfl, rfl, rfl⟩
      clear h
      replace h := hk3
      dsimp only at h
      refine QP.next ?_
      refine WP.pick [] ?_
      refine WP.seqP [4] (L' := [(4, .bool true)]) (by kernel_rfl) ?_
      refine WP.ret ?_
      obtain rfl := Option.some.inj h
      exact QP.returned [4] [.bool true] _ (by kernel_rfl) (by kernel_rfl) (by kernel_rfl) (fun W hI => ⟨_, _, _, rfl, ⟨rfl, rfl, rfl⟩, hI⟩)

/-! ### grapevine/grapevinelaw19.whole: function 17 -/
def grapevinelaw19_whole_l1 (t1 : List Int) (t9 : List T34) (y26 : Int) : Nat → Int → Int → Option (Sum Bool Int)
  | 0, _, _ => none
  | k + 1, y35, y36 => (if 0 ≤ y26 ∧ y26 < (t1.length : Int) then (if y36 ≤ (t1.getD y26.toNat 0) then ((if y35 ≥ (t9.length : Int) then some true else (if 0 ≤ y35 ∧ y35 < (t9.length : Int) then (if ¬ ((t9.getD y35.toNat z34).f0) = y26 then some true else (if 0 ≤ y35 ∧ y35 < (t9.length : Int) then some (((t9.getD y35.toNat z34).f1) != y36) else none)) else none)).bind fun s41 => (if s41 = true then some (Sum.inl false) else grapevinelaw19_whole_l1 t1 t9 y26 k (IntKind.i64.wrap (y35 + 1)) (IntKind.i64.wrap (y36 + 1)))) else some (Sum.inr y35)) else none)
def grapevinelaw19_whole_l0 (t1 : List Int) (t5 : List Int) (t9 : List T34) : Nat → Int → Int → Option (Sum Bool Int)
  | 0, _, _ => none
  | k + 1, y25, y26 => (if y26 < (t1.length : Int) then (if 0 ≤ y26 ∧ y26 < (t5.length : Int) then ((some (IntKind.i64.wrap ((t5.getD y26.toNat 0) + 1))).bind fun v31 => ((grapevinelaw19_whole_l1 t1 t9 y26 k y25 v31).bind fun os33 => match os33 with | Sum.inl r => some (Sum.inl r) | Sum.inr s33 => grapevinelaw19_whole_l0 t1 t5 t9 k s33 (IntKind.i64.wrap (y26 + 1)))) else none) else some (Sum.inr y25))
def grapevinelaw19_whole (k : Nat) (a0 : T63) : Option Bool := ((state_State_V a0).bind fun t1 => ((state_State_W a0).bind fun t5 => ((state_State_Records k a0).bind fun t9 => ((if ¬ (t1.length : Int) = (t5.length : Int) then some true else ((grapevineref3_Below k t5 t1).bind fun t16 => some (!t16))).bind fun s13 => (if s13 = true then some false else ((grapevinelaw19_whole_l0 t1 t5 t9 k 0 0).bind fun os23 => match os23 with | Sum.inl r => some r | Sum.inr s23 => some (s23 == (t9.length : Int))))))))
set_option maxHeartbeats 4000000 in
theorem grapevinelaw19_whole_calls {B : World} {G : GMap} {Γ : List Chunk} {W : World} (k : Nat) (a0 : T63) (b0 : Nat) (Aa0_f0 : Option Addr) (ca0_f0 : Nat) (Ca0_f0 : Chunk) (Ha0_f0 : Ow (kInt .i64) G Aa0_f0 ca0_f0 a0.f0 Ca0_f0) (Aa0_f1 : Option Addr) (ca0_f1 : Nat) (Ca0_f1 : Chunk) (Ha0_f1 : Ow (kInt .i64) G Aa0_f1 ca0_f1 a0.f1 Ca0_f1) (Aa0_f2 : Option Addr) (ca0_f2 : Nat) (Ca0_f2 : Chunk) (Ha0_f2 : MpF m61 G Aa0_f2 ca0_f2 a0.f2 Ca0_f2) (r : Bool) (h : grapevinelaw19_whole k a0 = some r) (hI : Inv B G ([(b0, .cells #[.slice Aa0_f0 a0.f0.length ca0_f0, .slice Aa0_f1 a0.f1.length ca0_f1, mpv Aa0_f2] 63 (0, 0))] :: Ca0_f0 :: Ca0_f1 :: Ca0_f2 :: Γ) W) :
    Calls Tryd.prog 17 [.pointer (some ⟨b0, 0, none⟩)].toArray W (Ret B (fun v G' Γ' => v = .bool r ∧ G = G' ∧ [(b0, .cells #[.slice Aa0_f0 a0.f0.length ca0_f0, .slice Aa0_f1 a0.f1.length ca0_f1, mpv Aa0_f2] 63 (0, 0))] :: Ca0_f0 :: Ca0_f1 :: Ca0_f2 :: Γ = Γ')) := by
  refine calls_WP (Γ := [(b0, .cells #[.slice Aa0_f0 a0.f0.length ca0_f0, .slice Aa0_f1 a0.f1.length ca0_f1, mpv Aa0_f2] 63 (0, 0))] :: Ca0_f0 :: Ca0_f1 :: Ca0_f2 :: Γ) (G := G) (B := B) Tryd.func17 rfl (by kernel_rfl) ?_ hI
  clear hI
  unfold grapevinelaw19_whole at h
  refine WP.seqP [0] (L' := [(0, .pointer (some ⟨b0, 0, none⟩))]) (by kernel_rfl) ?_
  refine WP.seqR ?_
  refine WL.pure 0 1 [0, 9] (L' := [(0, .pointer (some ⟨b0, 0, none⟩)), (9, .pointer (some ⟨b0, 0, none⟩))]) (by kernel_rfl) (by decide) ?_
  rw [Option.bind_eq_some_iff] at h
  obtain ⟨t1, ht2, h⟩ := h
  refine WL.op (op := .call { callee := (.value (.func 11)), args := #[(.tmp 9)], argTypes := #[23] }) (ty := 27) (d := some 10) (g := none) (by kernel_rfl) (by kernel_rfl) (by kernel_rfl) (Does.call (f := 11) (args := [.pointer (some ⟨b0, 0, none⟩)]) (by kernel_rfl) (fun W hI => (state_State_V_calls a0 b0 Aa0_f0 ca0_f0 Ca0_f0 Ha0_f0 Aa0_f1 ca0_f1 Ca0_f1 Ha0_f1 Aa0_f2 ca0_f2 Ca0_f2 Ha0_f2 t1 ht2 hI))) ?_
  rintro _ _ _ ⟨AR3, cR3, CR3, rfl, HR3, rfl, rfl⟩
  refine WL.pure 2 3 [0, 10, 11] (L' := [(0, .pointer (some ⟨b0, 0, none⟩)), (10, .slice AR3 t1.length cR3), (11, .pointer (some ⟨b0, 0, none⟩))]) (by kernel_rfl) (by decide) ?_
  refine WL.reperm (Γ' := [(b0, .cells #[.slice Aa0_f0 a0.f0.length ca0_f0, .slice Aa0_f1 a0.f1.length ca0_f1, mpv Aa0_f2] 63 (0, 0))] :: Ca0_f0 :: Ca0_f1 :: Ca0_f2 :: CR3 :: Γ) (perm_sel [1, 2, 3, 4, 0] (by kernel_rfl) rfl) ?_
  rw [Option.bind_eq_some_iff] at h
  obtain ⟨t5, ht6, h⟩ := h
  refine WL.op (op := .call { callee := (.value (.func 12)), args := #[(.tmp 11)], argTypes := #[23] }) (ty := 27) (d := some 12) (g := none) (by kernel_rfl) (by kernel_rfl) (by kernel_rfl) (Does.call (f := 12) (args := [.pointer (some ⟨b0, 0, none⟩)]) (by kernel_rfl) (fun W hI => (state_State_W_calls a0 b0 Aa0_f0 ca0_f0 Ca0_f0 Ha0_f0 Aa0_f1 ca0_f1 Ca0_f1 Ha0_f1 Aa0_f2 ca0_f2 Ca0_f2 Ha0_f2 t5 ht6 hI))) ?_
  rintro _ _ _ ⟨AR7, cR7, CR7, rfl, HR7, rfl, rfl⟩
  refine WL.pure 4 5 [10, 12, 13] (L' := [(10, .slice AR3 t1.length cR3), (12, .slice AR7 t5.length cR7), (13, .pointer (some ⟨b0, 0, none⟩))]) (by kernel_rfl) (by decide) ?_
  refine WL.reperm (Γ' := [(b0, .cells #[.slice Aa0_f0 a0.f0.length ca0_f0, .slice Aa0_f1 a0.f1.length ca0_f1, mpv Aa0_f2] 63 (0, 0))] :: Ca0_f0 :: Ca0_f1 :: Ca0_f2 :: CR7 :: CR3 :: Γ) (perm_sel [1, 2, 3, 4, 0] (by kernel_rfl) rfl) ?_
  rw [Option.bind_eq_some_iff] at h
  obtain ⟨t9, ht10, h⟩ := h
  refine WL.op (op := .call { callee := (.value (.func 19)), args := #[(.tmp 13)], argTypes := #[23] }) (ty := 45) (d := some 14) (g := none) (by kernel_rfl) (by kernel_rfl) (by kernel_rfl) (Does.call (f := 19) (args := [.pointer (some ⟨b0, 0, none⟩)]) (by kernel_rfl) (fun W hI => (state_State_Records_calls k a0 b0 Aa0_f0 ca0_f0 Ca0_f0 Ha0_f0 Aa0_f1 ca0_f1 Ca0_f1 Ha0_f1 Aa0_f2 ca0_f2 Ca0_f2 Ha0_f2 t9 ht10 hI))) ?_
  rintro _ _ _ ⟨AR11, cR11, CR11, rfl, HR11, rfl, rfl⟩
  refine WL.restQ 6 [3, 4, 5] (L' := [(3, .slice AR3 t1.length cR3), (4, .slice AR7 t5.length cR7), (5, .slice AR11 t9.length cR11)]) (by kernel_rfl) ?_
  refine WP.seq ?_
  rw [Option.bind_eq_some_iff] at h
  obtain ⟨os13, h, hk14⟩ := h
  refine WP.cut (fun L' G' Γ' => ∃ s13 : Bool, s13 = os13 ∧ L' = [(3, .slice AR3 t1.length cR3), (4, .slice AR7 t5.length cR7), (5, .slice AR11 t9.length cR11), (25, .bool s13)] ∧ G = G' ∧ CR11 :: [(b0, .cells #[.slice Aa0_f0 a0.f0.length ca0_f0, .slice Aa0_f1 a0.f1.length ca0_f1, mpv Aa0_f2] 63 (0, 0))] :: Ca0_f0 :: Ca0_f1 :: Ca0_f2 :: CR7 :: CR3 :: Γ = Γ') ?_ ?_
  · clear hk14
    refine WP.region ?_
    refine WL.pure 0 6 [3, 4, 5, 20] (L' := [(3, .slice AR3 t1.length cR3), (4, .slice AR7 t5.length cR7), (5, .slice AR11 t9.length cR11), (20, .bool ((t1.length : Int) != (t5.length : Int)))]) (by kernel_rfl) (by decide) ?_
    refine WL.split 20 (b := ((t1.length : Int) != (t5.length : Int))) (by kernel_rfl) (fun hc => ?_) (fun hc => ?_)
    · replace hc := (bne_iff_ne.1 hc)
      rw [if_pos hc] at h
      have hc15 := hc
      clear hc
      refine WL.rest 6 [3, 4, 5, 25] (L' := [(3, .slice AR3 t1.length cR3), (4, .slice AR7 t5.length cR7), (5, .slice AR11 t9.length cR11), (25, .bool true)]) (by kernel_rfl) ?_
      refine QP.pick [3, 4, 5, 25] ?_
      exact QP.meet ⟨_, Option.some.inj h, rfl, rfl, rfl⟩
    · replace hc := (not_not_intro (bne_eq_false_iff_eq.1 hc))
      rw [if_neg hc] at h
      have hc15 := hc
      clear hc
      refine WL.pure 6 8 [3, 4, 5, 20, 21, 22] (L' := [(3, .slice AR3 t1.length cR3), (4, .slice AR7 t5.length cR7), (5, .slice AR11 t9.length cR11), (20, .bool false), (21, .slice AR7 t5.length cR7), (22, .slice AR3 t1.length cR3)]) (by kernel_rfl) (by decide) ?_
      rw [Option.bind_eq_some_iff] at h
      obtain ⟨t16, ht17, h⟩ := h
      refine WL.op (op := .call { callee := (.value (.func 16)), args := #[(.tmp 21), (.tmp 22)], argTypes := #[27, 27] }) (ty := 4) (d := some 23) (g := some (5, false)) (by kernel_rfl) (by kernel_rfl) (by kernel_rfl) (Does.call (Φ := fun v' G' Γ' => v' = .bool t16 ∧ G = G' ∧ CR11 :: [(b0, .cells #[.slice Aa0_f0 a0.f0.length ca0_f0, .slice Aa0_f1 a0.f1.length ca0_f1, mpv Aa0_f2] 63 (0, 0))] :: Ca0_f0 :: Ca0_f1 :: Ca0_f2 :: CR7 :: CR3 :: Γ = Γ') (f := 16) (args := [.slice AR7 t5.length cR7, .slice AR3 t1.length cR3]) (by kernel_rfl) (fun W hI => (Calls.lendN (Φ := fun v' N => v' = .bool t16 ∧ N = []) (H := []) (i := 5) rfl hI (fun _ e l20 nl20 hI => by subst e; exact Calls.lendN (Φ := fun v' N => v' = .bool t16 ∧ N = []) (H := []) (i := 6) rfl hI (fun _ e l21 nl21 hI => by subst e; exact (((grapevineref3_Below_calls k t5 t1 AR7 cR7 ((HR7.rdN l20 nl20).mono l21) AR3 cR3 ((HR3.mono l20).rdN l21 nl21) t16 ht17 hI)).mono fun _ _ hr => by obtain ⟨_, _, _, rfl, hd, hI⟩ := hr; obtain ⟨rfl, rfl, rfl⟩ := hd; exact ⟨_, _, _, rfl, ⟨[], ⟨rfl, rfl⟩, rfl, rfl⟩, hI⟩)))).mono fun _ _ hr => by obtain ⟨_, _, _, rfl, ⟨_, hd, rfl, rfl⟩, hI⟩ := hr; obtain ⟨rfl, rfl⟩ := hd; exact ⟨_, _, _, rfl, ⟨rfl, rfl, rfl⟩, hI⟩)) ?_
      rintro _ _ _ ⟨rfl, rfl, rfl⟩
      refine WL.rest 9 [3, 4, 5, 25] (L' := [(3, .slice AR3 t1.length cR3), (4, .slice AR7 t5.length cR7), (5, .slice AR11 t9.length cR11), (25, .bool (!t16))]) (by kernel_rfl) ?_
      refine QP.pick [3, 4, 5, 25] ?_
      exact QP.meet ⟨_, Option.some.inj h, rfl, rfl, rfl⟩
  · rintro _ _ _ ⟨s13, rfl, rfl, rfl, rfl⟩
    clear h
    replace h := hk14
    refine WP.cond (b := s13) (by kernel_rfl) (fun hc => ?_) (fun hc => ?_)
    · replace hc := hc
      rw [if_pos hc] at h
      have hc22 := hc
      clear hc
      refine WP.seqP [2] (L' := [(2, .bool false)]) (by kernel_rfl) ?_
      refine WP.dropAt 6 ?_
      refine WP.dropAt 5 ?_
      refine WP.dropAt 0 ?_
      refine WP.ret ?_
      refine QP.thenR ?_
      obtain rfl := Option.some.inj h
      exact QP.returned [2] [.bool false] _ (by kernel_rfl) (by kernel_rfl) (by kernel_rfl) (fun W hI => ⟨_, _, _, rfl, ⟨rfl, rfl, rfl⟩, hI⟩)
    · replace hc := (Bool.eq_false_iff.1 hc)
      rw [if_neg hc] at h
      have hc22 := hc
      clear hc
      refine WP.skip ?_
      refine QP.next ?_
      refine WP.pick [3, 4, 5] ?_
      refine WP.seqP [3, 4, 5, 6] (L' := [(3, .slice AR3 t1.length cR3), (4, .slice AR7 t5.length cR7), (5, .slice AR11 t9.length cR11), (6, .int .i64 0)]) (by kernel_rfl) ?_
      refine WP.seq ?_
      refine WP.seqP [3, 4, 5, 6, 7] (L' := [(3, .slice AR3 t1.length cR3), (4, .slice AR7 t5.length cR7), (5, .slice AR11 t9.length cR11), (6, .int .i64 0), (7, .int .i64 0)]) (by kernel_rfl) ?_
      rw [Option.bind_eq_some_iff] at h
      obtain ⟨os23, h, hk24⟩ := h
      refine WP.cutQ (fun L' G' Γ' => ∃ s23 : Int, Sum.inr s23 = os23 ∧ L' = [(5, .slice AR11 t9.length cR11), (6, .int .i64 s23)] ∧ G = G' ∧ CR11 :: [(b0, .cells #[.slice Aa0_f0 a0.f0.length ca0_f0, .slice Aa0_f1 a0.f1.length ca0_f1, mpv Aa0_f2] 63 (0, 0))] :: Ca0_f0 :: Ca0_f1 :: Ca0_f2 :: Γ = Γ') ?_ ?_
      · skip
        refine WP.block ?_
        refine WP.pick [3, 4, 5, 6, 7] ?_
        refine WP.loopF (fun kn27 L' G' Γ' => ∃ (y25 : Int), ∃ (y26 : Int), grapevinelaw19_whole_l0 t1 t5 t9 kn27 y25 y26 = some os23 ∧ L' = [(3, .slice AR3 t1.length cR3), (4, .slice AR7 t5.length cR7), (5, .slice AR11 t9.length cR11), (6, .int .i64 y25), (7, .int .i64 y26)] ∧ G = G' ∧ CR11 :: [(b0, .cells #[.slice Aa0_f0 a0.f0.length ca0_f0, .slice Aa0_f1 a0.f1.length ca0_f1, mpv Aa0_f2] 63 (0, 0))] :: Ca0_f0 :: Ca0_f1 :: Ca0_f2 :: CR7 :: CR3 :: Γ = Γ') ?_ k ⟨0, 0, h, rfl, rfl, rfl⟩
        clear h
        rintro kn28 _ _ _ ⟨y25, y26, h, rfl, rfl, rfl⟩
        cases kn28 with
        | zero => exact absurd h (by simp [grapevinelaw19_whole_l0])
        | succ kn28 =>
          simp only [grapevinelaw19_whole_l0] at h
          refine WP.seq ?_
          refine WP.seqP [3, 4, 5, 6, 7, 29] (L' := [(3, .slice AR3 t1.length cR3), (4, .slice AR7 t5.length cR7), (5, .slice AR11 t9.length cR11), (6, .int .i64 y25), (7, .int .i64 y26), (29, .bool (decide (y26 < (t1.length : Int))))]) (by kernel_rfl) ?_
          refine WP.cond (b := decide (y26 < (t1.length : Int))) (by kernel_rfl) (fun hc => ?_) (fun hc => ?_)
          · replace hc := of_decide_eq_true hc
            rw [if_pos hc] at h
            have hc29 := hc
            clear hc
            refine WP.skip ?_
            refine QP.next ?_
            refine WP.pick [3, 4, 5, 6, 7] ?_
            refine WP.seq ?_
            refine WP.block ?_
            refine WP.seqR ?_
            refine WL.pure 0 2 [3, 4, 5, 6, 7, 32, 33] (L' := [(3, .slice AR3 t1.length cR3), (4, .slice AR7 t5.length cR7), (5, .slice AR11 t9.length cR11), (6, .int .i64 y25), (7, .int .i64 y26), (32, .slice AR7 t5.length cR7), (33, .int .i64 y26)]) (by kernel_rfl) (by decide) ?_
            by_cases hb30 : 0 ≤ y26 ∧ y26 < (t5.length : Int)
            case neg => rw [if_neg hb30] at h; cases h
            rw [if_pos hb30] at h
            refine WL.tell (op := .indexAddr 27 (.tmp 32) (.tmp 33)) (ty := 0) (d := some 34) (g := none) (by kernel_rfl) (by kernel_rfl) (by kernel_rfl) (Tells.indexAddr (A := AR7) (n := t5.length) (c := cR7) (k := .i64) (j := y26) (by kernel_rfl) (by kernel_rfl) (HR7.isSome hb30.1 hb30.2) hb30.1 hb30.2 sl27) ?_
            refine WL.tellE (op := .load 3 (.tmp 34)) (ty := 3) (d := some 35) (g := none) (by kernel_rfl) (by kernel_rfl) (by kernel_rfl) (HR7.load (i := 5) rfl (agg := false) hb30.1 hb30.2 0 ag3 (fun _ => rfl) (by kernel_rfl)) ?_
            rintro _ rfl
            refine WL.restQ 4 [3, 4, 5, 6, 7, 8] (L' := [(3, .slice AR3 t1.length cR3), (4, .slice AR7 t5.length cR7), (5, .slice AR11 t9.length cR11), (6, .int .i64 y25), (7, .int .i64 y26), (8, .int .i64 (IntKind.i64.wrap ((t5.getD y26.toNat 0) + 1)))]) (by kernel_rfl) ?_
            obtain ⟨v31, hv32, h⟩ := Option.bind_eq_some_iff.1 h
            replace hv32 := Option.some.inj hv32
            refine WP.reput 8 (v := .int .i64 (IntKind.i64.wrap ((t5.getD y26.toNat 0) + 1))) (v' := .int .i64 v31) (by kernel_rfl) (by subst hv32; rfl) ?_
            refine WP.pick [3, 4, 5, 6, 7, 8] ?_
            rw [Option.bind_eq_some_iff] at h
            obtain ⟨os33, h, hk34⟩ := h
            refine WP.cutQ (fun L' G' Γ' => ∃ s33 : Int, Sum.inr s33 = os33 ∧ L' = [(3, .slice AR3 t1.length cR3), (4, .slice AR7 t5.length cR7), (5, .slice AR11 t9.length cR11), (6, .int .i64 s33), (7, .int .i64 y26)] ∧ G = G' ∧ CR11 :: [(b0, .cells #[.slice Aa0_f0 a0.f0.length ca0_f0, .slice Aa0_f1 a0.f1.length ca0_f1, mpv Aa0_f2] 63 (0, 0))] :: Ca0_f0 :: Ca0_f1 :: Ca0_f2 :: CR7 :: CR3 :: Γ = Γ') ?_ ?_
            · skip
              refine WP.block ?_
              refine WP.pick [3, 4, 5, 6, 7, 8] ?_
              refine WP.loopF (fun kn37 L' G' Γ' => ∃ (y35 : Int), ∃ (y36 : Int), grapevinelaw19_whole_l1 t1 t9 y26 kn37 y35 y36 = some os33 ∧ L' = [(3, .slice AR3 t1.length cR3), (4, .slice AR7 t5.length cR7), (5, .slice AR11 t9.length cR11), (6, .int .i64 y35), (7, .int .i64 y26), (8, .int .i64 y36)] ∧ G = G' ∧ CR11 :: [(b0, .cells #[.slice Aa0_f0 a0.f0.length ca0_f0, .slice Aa0_f1 a0.f1.length ca0_f1, mpv Aa0_f2] 63 (0, 0))] :: Ca0_f0 :: Ca0_f1 :: Ca0_f2 :: CR7 :: CR3 :: Γ = Γ') ?_ kn28 ⟨y25, v31, h, rfl, rfl, rfl⟩
              clear h
              rintro kn38 _ _ _ ⟨y35, y36, h, rfl, rfl, rfl⟩
              cases kn38 with
              | zero => exact absurd h (by simp [grapevinelaw19_whole_l1])
              | succ kn38 =>
                simp only [grapevinelaw19_whole_l1] at h
                refine WP.seq ?_
                refine WP.seqR ?_
                refine WL.pure 0 3 [3, 4, 5, 6, 7, 8, 37, 38, 39] (L' := [(3, .slice AR3 t1.length cR3), (4, .slice AR7 t5.length cR7), (5, .slice AR11 t9.length cR11), (6, .int .i64 y35), (7, .int .i64 y26), (8, .int .i64 y36), (37, .int .i64 y36), (38, .slice AR3 t1.length cR3), (39, .int .i64 y26)]) (by kernel_rfl) (by decide) ?_
                by_cases hb39 : 0 ≤ y26 ∧ y26 < (t1.length : Int)
                case neg => rw [if_neg hb39] at h; cases h
                rw [if_pos hb39] at h
                refine WL.tell (op := .indexAddr 27 (.tmp 38) (.tmp 39)) (ty := 0) (d := some 40) (g := none) (by kernel_rfl) (by kernel_rfl) (by kernel_rfl) (Tells.indexAddr (A := AR3) (n := t1.length) (c := cR3) (k := .i64) (j := y26) (by kernel_rfl) (by kernel_rfl) (HR3.isSome hb39.1 hb39.2) hb39.1 hb39.2 sl27) ?_
                refine WL.tellE (op := .load 3 (.tmp 40)) (ty := 3) (d := some 41) (g := none) (by kernel_rfl) (by kernel_rfl) (by kernel_rfl) (HR3.load (i := 6) rfl (agg := false) hb39.1 hb39.2 0 ag3 (fun _ => rfl) (by kernel_rfl)) ?_
                rintro _ rfl
                refine WL.restQ 5 [3, 4, 5, 6, 7, 8, 42] (L' := [(3, .slice AR3 t1.length cR3), (4, .slice AR7 t5.length cR7), (5, .slice AR11 t9.length cR11), (6, .int .i64 y35), (7, .int .i64 y26), (8, .int .i64 y36), (42, .bool (decide (y36 ≤ (t1.getD y26.toNat 0))))]) (by kernel_rfl) ?_
                refine WP.cond (b := decide (y36 ≤ (t1.getD y26.toNat 0))) (by kernel_rfl) (fun hc => ?_) (fun hc => ?_)
                · replace hc := of_decide_eq_true hc
                  rw [if_pos hc] at h
                  have hc40 := hc
                  clear hc
                  refine WP.skip ?_
                  refine QP.next ?_
                  refine WP.pick [3, 4, 5, 6, 7, 8] ?_
                  refine WP.seq ?_
                  refine WP.block ?_
                  refine WP.seq ?_
                  rw [Option.bind_eq_some_iff] at h
                  obtain ⟨os41, h, hk42⟩ := h
                  refine WP.cut (fun L' G' Γ' => ∃ s41 : Bool, s41 = os41 ∧ L' = [(3, .slice AR3 t1.length cR3), (4, .slice AR7 t5.length cR7), (5, .slice AR11 t9.length cR11), (6, .int .i64 y35), (7, .int .i64 y26), (8, .int .i64 y36), (68, .bool s41)] ∧ G = G' ∧ CR11 :: [(b0, .cells #[.slice Aa0_f0 a0.f0.length ca0_f0, .slice Aa0_f1 a0.f1.length ca0_f1, mpv Aa0_f2] 63 (0, 0))] :: Ca0_f0 :: Ca0_f1 :: Ca0_f2 :: CR7 :: CR3 :: Γ = Γ') ?_ ?_
                  · clear hk42
                    refine WP.region ?_
                    refine WL.pure 0 5 [3, 4, 5, 6, 7, 8, 49] (L' := [(3, .slice AR3 t1.length cR3), (4, .slice AR7 t5.length cR7), (5, .slice AR11 t9.length cR11), (6, .int .i64 y35), (7, .int .i64 y26), (8, .int .i64 y36), (49, .bool (decide (y35 ≥ (t9.length : Int))))]) (by kernel_rfl) (by decide) ?_
                    refine WL.split 49 (b := decide (y35 ≥ (t9.length : Int))) (by kernel_rfl) (fun hc => ?_) (fun hc => ?_)
                    · replace hc := of_decide_eq_true hc
                      rw [if_pos hc] at h
                      have hc43 := hc
                      clear hc
                      refine WL.rest 5 [3, 4, 5, 6, 7, 8, 68] (L' := [(3, .slice AR3 t1.length cR3), (4, .slice AR7 t5.length cR7), (5, .slice AR11 t9.length cR11), (6, .int .i64 y35), (7, .int .i64 y26), (8, .int .i64 y36), (68, .bool true)]) (by kernel_rfl) ?_
                      refine QP.pick [3, 4, 5, 6, 7, 8, 68] ?_
                      exact QP.meet ⟨_, Option.some.inj h, rfl, rfl, rfl⟩
                    · replace hc := of_decide_eq_false hc
                      rw [if_neg hc] at h
                      have hc43 := hc
                      clear hc
                      refine WL.pure 5 7 [3, 4, 5, 6, 7, 8, 49, 50, 51] (L' := [(3, .slice AR3 t1.length cR3), (4, .slice AR7 t5.length cR7), (5, .slice AR11 t9.length cR11), (6, .int .i64 y35), (7, .int .i64 y26), (8, .int .i64 y36), (49, .bool false), (50, .slice AR11 t9.length cR11), (51, .int .i64 y35)]) (by kernel_rfl) (by decide) ?_
                      by_cases hb44 : 0 ≤ y35 ∧ y35 < (t9.length : Int)
                      case neg => rw [if_neg hb44] at h; cases h
                      rw [if_pos hb44] at h
                      refine WL.tell (op := .indexAddr 45 (.tmp 50) (.tmp 51)) (ty := 0) (d := some 52) (g := some (4, false)) (by kernel_rfl) (by kernel_rfl) (by kernel_rfl) (Tells.indexAddr (A := AR11) (n := t9.length) (c := cR11) (k := .i64) (j := y35) (by kernel_rfl) (by kernel_rfl) (HR11.isSome hb44.1 hb44.2) hb44.1 hb44.2 sl45) ?_
                      refine WL.tell (op := .fieldAddr 34 (.tmp 52) 0) (ty := 0) (d := some 53) (g := some (4, false)) (by kernel_rfl) (by kernel_rfl) (by kernel_rfl) (Tells.fieldElem (m := y35.toNat * 5) (A := AR11) (by kernel_rfl) (HR11.isSome hb44.1 hb44.2) fi34_0) ?_
                      refine WL.tell (op := .fieldAddr 30 (.tmp 53) 0) (ty := 0) (d := some 54) (g := some (4, false)) (by kernel_rfl) (by kernel_rfl) (by kernel_rfl) (Tells.fieldElem (m := y35.toNat * 5 + 0) (A := AR11) (by kernel_rfl) (HR11.isSome hb44.1 hb44.2) fi30_0) ?_
                      refine WL.tellE (op := .load 3 (.tmp 54)) (ty := 3) (d := some 55) (g := some (4, false)) (by kernel_rfl) (by kernel_rfl) (by kernel_rfl) (HR11.loadF (i := 0) rfl (agg := false) (off := 0) hb44.1 hb44.2 z34 ag3 (fun _ => rfl) (by decide) (by kernel_rfl)) ?_
                      rintro _ rfl
                      refine WL.pure 11 15 [3, 4, 5, 6, 7, 8, 59] (L' := [(3, .slice AR3 t1.length cR3), (4, .slice AR7 t5.length cR7), (5, .slice AR11 t9.length cR11), (6, .int .i64 y35), (7, .int .i64 y26), (8, .int .i64 y36), (59, .bool (((t9.getD y35.toNat z34).f0) != y26))]) (by kernel_rfl) (by decide) ?_
                      refine WL.split 59 (b := (((t9.getD y35.toNat z34).f0) != y26)) (by kernel_rfl) (fun hc => ?_) (fun hc => ?_)
                      · replace hc := (bne_iff_ne.1 hc)
                        rw [if_pos hc] at h
                        have hc45 := hc
                        clear hc
                        refine WL.rest 15 [3, 4, 5, 6, 7, 8, 68] (L' := [(3, .slice AR3 t1.length cR3), (4, .slice AR7 t5.length cR7), (5, .slice AR11 t9.length cR11), (6, .int .i64 y35), (7, .int .i64 y26), (8, .int .i64 y36), (68, .bool true)]) (by kernel_rfl) ?_
                        refine QP.pick [3, 4, 5, 6, 7, 8, 68] ?_
                        exact QP.meet ⟨_, Option.some.inj h, rfl, rfl, rfl⟩
                      · replace hc := (not_not_intro (bne_eq_false_iff_eq.1 hc))
                        rw [if_neg hc] at h
                        have hc45 := hc
                        clear hc
                        refine WL.pure 15 17 [3, 4, 5, 6, 7, 8, 59, 60, 61] (L' := [(3, .slice AR3 t1.length cR3), (4, .slice AR7 t5.length cR7), (5, .slice AR11 t9.length cR11), (6, .int .i64 y35), (7, .int .i64 y26), (8, .int .i64 y36), (59, .bool false), (60, .slice AR11 t9.length cR11), (61, .int .i64 y35)]) (by kernel_rfl) (by decide) ?_
                        by_cases hb46 : 0 ≤ y35 ∧ y35 < (t9.length : Int)
                        case neg => rw [if_neg hb46] at h; cases h
                        rw [if_pos hb46] at h
                        refine WL.tell (op := .indexAddr 45 (.tmp 60) (.tmp 61)) (ty := 0) (d := some 62) (g := some (14, false)) (by kernel_rfl) (by kernel_rfl) (by kernel_rfl) (Tells.indexAddr (A := AR11) (n := t9.length) (c := cR11) (k := .i64) (j := y35) (by kernel_rfl) (by kernel_rfl) (HR11.isSome hb46.1 hb46.2) hb46.1 hb46.2 sl45) ?_
                        refine WL.tell (op := .fieldAddr 34 (.tmp 62) 0) (ty := 0) (d := some 63) (g := some (14, false)) (by kernel_rfl) (by kernel_rfl) (by kernel_rfl) (Tells.fieldElem (m := y35.toNat * 5) (A := AR11) (by kernel_rfl) (HR11.isSome hb46.1 hb46.2) fi34_0) ?_
                        refine WL.tell (op := .fieldAddr 30 (.tmp 63) 1) (ty := 0) (d := some 64) (g := some (14, false)) (by kernel_rfl) (by kernel_rfl) (by kernel_rfl) (Tells.fieldElem (m := y35.toNat * 5 + 0) (A := AR11) (by kernel_rfl) (HR11.isSome hb46.1 hb46.2) fi30_1) ?_
                        refine WL.tellE (op := .load 3 (.tmp 64)) (ty := 3) (d := some 65) (g := some (14, false)) (by kernel_rfl) (by kernel_rfl) (by kernel_rfl) (HR11.loadF (i := 0) rfl (agg := false) (off := 1) hb46.1 hb46.2 z34 ag3 (fun _ => rfl) (by decide) (by kernel_rfl)) ?_
                        rintro _ rfl
                        refine WL.rest 21 [3, 4, 5, 6, 7, 8, 68] (L' := [(3, .slice AR3 t1.length cR3), (4, .slice AR7 t5.length cR7), (5, .slice AR11 t9.length cR11), (6, .int .i64 y35), (7, .int .i64 y26), (8, .int .i64 y36), (68, .bool (((t9.getD y35.toNat z34).f1) != y36))]) (by kernel_rfl) ?_
                        refine QP.pick [3, 4, 5, 6, 7, 8, 68] ?_
                        exact QP.meet ⟨_, Option.some.inj h, rfl, rfl, rfl⟩
                  · rintro _ _ _ ⟨s41, rfl, rfl, rfl, rfl⟩
                    clear h
                    replace h := hk42
                    refine WP.cond (b := s41) (by kernel_rfl) (fun hc => ?_) (fun hc => ?_)
                    · replace hc := hc
                      rw [if_pos hc] at h
                      have hc47 := hc
                      clear hc
                      refine WP.seqP [2] (L' := [(2, .bool false)]) (by kernel_rfl) ?_
                      refine WP.dropAt 6 ?_
                      refine WP.dropAt 5 ?_
                      refine WP.dropAt 0 ?_
                      refine WP.ret ?_
                      refine QP.thenR ?_
                      refine QP.blockR ?_
                      refine QP.thenR ?_
                      refine QP.thenR ?_
                      refine QP.blockR ?_
                      refine QP.thenR ?_
                      refine QP.blockR ?_
                      refine QP.thenR ?_
                      refine QP.thenR ?_
                      refine QP.blockR ?_
                      refine QP.thenR ?_
                      refine QP.thenR ?_
                      obtain rfl := Option.some.inj h
                      obtain rfl := Option.some.inj (show some (Sum.inl _) = some _ from hk34)
                      obtain rfl := Option.some.inj (show some _ = some _ from hk24)
                      exact QP.returned [2] [.bool false] _ (by kernel_rfl) (by kernel_rfl) (by kernel_rfl) (fun W hI => ⟨_, _, _, rfl, ⟨rfl, rfl, rfl⟩, hI⟩)
                    · replace hc := (Bool.eq_false_iff.1 hc)
                      rw [if_neg hc] at h
                      have hc47 := hc
                      clear hc
                      refine WP.skip ?_
                      refine QP.next ?_
                      refine WP.pick [3, 4, 5, 6, 7, 8] ?_
                      refine WP.regionP [3, 4, 5, 6, 7, 8] (L' := [(3, .slice AR3 t1.length cR3), (4, .slice AR7 t5.length cR7), (5, .slice AR11 t9.length cR11), (6, .int .i64 (IntKind.i64.wrap (y35 + 1))), (7, .int .i64 y26), (8, .int .i64 y36)]) (by kernel_rfl) ?_
                      refine QP.blockN ?_
                      refine QP.next ?_
                      refine WP.pick [3, 4, 5, 6, 7, 8] ?_
                      refine WP.regionP [3, 4, 5, 6, 7, 8] (L' := [(3, .slice AR3 t1.length cR3), (4, .slice AR7 t5.length cR7), (5, .slice AR11 t9.length cR11), (6, .int .i64 (IntKind.i64.wrap (y35 + 1))), (7, .int .i64 y26), (8, .int .i64 (IntKind.i64.wrap (y36 + 1)))]) (by kernel_rfl) ?_
                      refine QP.pick [3, 4, 5, 6, 7, 8] ?_
                      exact QP.meet ⟨kn38, Nat.lt_succ_self _, (IntKind.i64.wrap (y35 + 1)), (IntKind.i64.wrap (y36 + 1)), h, rfl, rfl, rfl⟩
                · replace hc := of_decide_eq_false hc
                  rw [if_neg hc] at h
                  have hc40 := hc
                  clear hc
                  refine WP.exit ?_
                  refine QP.thenE ?_
                  refine QP.thenE ?_
                  refine QP.blockE ?_
                  refine QP.pick [3, 4, 5, 6, 7] ?_
                  exact QP.meet ⟨_, Option.some.inj h, rfl, rfl, rfl⟩
            · rintro _ _ _ ⟨s33, rfl, rfl, rfl, rfl⟩
              clear h
              replace h := hk34
              dsimp only at h
              refine QP.blockN ?_
              refine QP.next ?_
              refine WP.pick [3, 4, 5, 6, 7] ?_
              refine WP.regionP [3, 4, 5, 6, 7] (L' := [(3, .slice AR3 t1.length cR3), (4, .slice AR7 t5.length cR7), (5, .slice AR11 t9.length cR11), (6, .int .i64 s33), (7, .int .i64 (IntKind.i64.wrap (y26 + 1)))]) (by kernel_rfl) ?_
              refine QP.pick [3, 4, 5, 6, 7] ?_
              exact QP.meet ⟨kn28, Nat.lt_succ_self _, s33, (IntKind.i64.wrap (y26 + 1)), h, rfl, rfl, rfl⟩
          · replace hc := of_decide_eq_false hc
            rw [if_neg hc] at h
            have hc29 := hc
            clear hc
            refine WP.exit ?_
            refine QP.thenE ?_
            refine QP.thenE ?_
            refine QP.blockE ?_
            refine QP.dropAt 6 ?_
            refine QP.dropAt 5 ?_
            refine QP.pick [5, 6] ?_
            exact QP.meet ⟨_, Option.some.inj h, rfl, rfl, rfl⟩
      · rintro _ _ _ ⟨s23, rfl, rfl, rfl, rfl⟩
        clear h
        replace h := hk24
        dsimp only at h
        refine QP.next ?_
        refine WP.pick [5, 6] ?_
        refine WP.seqP [2] (L' := [(2, .bool (s23 == (t9.length : Int)))]) (by kernel_rfl) ?_
        refine WP.dropAt 0 ?_
        refine WP.ret ?_
        obtain rfl := Option.some.inj h
        exact QP.returned [2] [.bool (s23 == (t9.length : Int))] _ (by kernel_rfl) (by kernel_rfl) (by kernel_rfl) (fun W hI => ⟨_, _, _, rfl, ⟨rfl, rfl, rfl⟩, hI⟩)

/-! ### grapevine/state.Join: function 24 -/
noncomputable def state_Join_40_l0 (a0e1 : T63) : Nat → (List T30) → T63 → Option T63
  | 0, _, _ => none
  | k + 1, y22, y23 => (pickF a0e1.f2 y22 (some y23) (fun an26 => fun en26 => (if (!((y23.f2 an26).isSome)) = true then state_Join_40_l0 a0e1 k (an26 :: y22) (⟨y23.f0, y23.f1, (fput y23.f2 an26 en26)⟩ : T63) else state_Join_40_l0 a0e1 k (an26 :: y22) y23)))
noncomputable def state_Join_40_l1 (a0e0 : T63) : Nat → (List T30) → T63 → Option T63
  | 0, _, _ => none
  | k + 1, y51, y52 => (pickF a0e0.f2 y51 (some y52) (fun an55 => fun en55 => (if (!((y52.f2 an55).isSome)) = true then state_Join_40_l1 a0e0 k (an55 :: y51) (⟨y52.f0, y52.f1, (fput y52.f2 an55 en55)⟩ : T63) else state_Join_40_l1 a0e0 k (an55 :: y51) y52)))
noncomputable def state_Join_40 (k : Nat) (a0e0 : T63) (a0e1 : T63) : Option (Option T63) := (((state_State_Copy a0e0).bind fun t4 => (if ¬ (a0e1.f0.length : Int) = (t4.f0.length : Int) then some (Sum.inl none) else ((vector_Join k ([t4.f0, a0e1.f0] : List (List Int))).bind fun t12 => ((state_Join_40_l0 a0e1 k ([] : List T30) (⟨t12, t4.f1, t4.f2⟩ : T63)).bind fun s20 => ((state_State_Raise k s20 a0e1.f1).bind fun t32 => (if ¬ (a0e0.f0.length : Int) = (t32.2.f0.length : Int) then some (Sum.inl none) else ((vector_Join k ([t32.2.f0, a0e0.f0] : List (List Int))).bind fun t41 => ((state_Join_40_l1 a0e0 k ([] : List T30) (⟨t41, t32.2.f1, t32.2.f2⟩ : T63)).bind fun s49 => ((state_State_Raise k s49 a0e0.f1).bind fun t61 => some (Sum.inr t61.2)))))))))).bind fun os1 => match os1 with | Sum.inl r => some r | Sum.inr s1 => some (some s1))
set_option maxHeartbeats 4000000 in
theorem state_Join_40_calls {B : World} {G : GMap} {Γ : List Chunk} {W : World} (k : Nat) (a0e0 : T63) (a0e1 : T63) (bp0 : Nat) (bp0e0 : Nat) (Aa0e0_f0 : Option Addr) (ca0e0_f0 : Nat) (Ca0e0_f0 : Chunk) (Ha0e0_f0 : Ow (kInt .i64) G Aa0e0_f0 ca0e0_f0 a0e0.f0 Ca0e0_f0) (Aa0e0_f1 : Option Addr) (ca0e0_f1 : Nat) (Ca0e0_f1 : Chunk) (Ha0e0_f1 : Ow (kInt .i64) G Aa0e0_f1 ca0e0_f1 a0e0.f1 Ca0e0_f1) (Aa0e0_f2 : Option Addr) (ca0e0_f2 : Nat) (Ca0e0_f2 : Chunk) (Ha0e0_f2 : MpF m61 G Aa0e0_f2 ca0e0_f2 a0e0.f2 Ca0e0_f2) (bp0e1 : Nat) (Aa0e1_f0 : Option Addr) (ca0e1_f0 : Nat) (Ca0e1_f0 : Chunk) (Ha0e1_f0 : Ow (kInt .i64) G Aa0e1_f0 ca0e1_f0 a0e1.f0 Ca0e1_f0) (Aa0e1_f1 : Option Addr) (ca0e1_f1 : Nat) (Ca0e1_f1 : Chunk) (Ha0e1_f1 : Ow (kInt .i64) G Aa0e1_f1 ca0e1_f1 a0e1.f1 Ca0e1_f1) (Aa0e1_f2 : Option Addr) (ca0e1_f2 : Nat) (Ca0e1_f2 : Chunk) (Ha0e1_f2 : MpF m61 G Aa0e1_f2 ca0e1_f2 a0e1.f2 Ca0e1_f2) (r : Option T63) (h : state_Join_40 k a0e0 a0e1 = some r) (hI : Inv B G ([(bp0, .cells #[.pointer (some ⟨bp0e0, 0, none⟩), .pointer (some ⟨bp0e1, 0, none⟩), .pointer (some ⟨bp0e0, 0, none⟩)] 23 (0, 0))] :: [(bp0e0, .cells #[.slice Aa0e0_f0 a0e0.f0.length ca0e0_f0, .slice Aa0e0_f1 a0e0.f1.length ca0e0_f1, mpv Aa0e0_f2] 63 (0, 0))] :: Ca0e0_f0 :: Ca0e0_f1 :: Ca0e0_f2 :: [(bp0e1, .cells #[.slice Aa0e1_f0 a0e1.f0.length ca0e1_f0, .slice Aa0e1_f1 a0e1.f1.length ca0e1_f1, mpv Aa0e1_f2] 63 (0, 0))] :: Ca0e1_f0 :: Ca0e1_f1 :: Ca0e1_f2 :: Γ) W) :
    Calls Tryd.prog 24 [.slice (some ⟨bp0, 0, none⟩) 3 3].toArray W (Ret B (fun v G' Γ' => (r = none ∧ v = .pointer none ∧ G = G' ∧ [(bp0, .cells #[.pointer (some ⟨bp0e0, 0, none⟩), .pointer (some ⟨bp0e1, 0, none⟩), .pointer (some ⟨bp0e0, 0, none⟩)] 23 (0, 0))] :: [(bp0e0, .cells #[.slice Aa0e0_f0 a0e0.f0.length ca0e0_f0, .slice Aa0e0_f1 a0e0.f1.length ca0e0_f1, mpv Aa0e0_f2] 63 (0, 0))] :: Ca0e0_f0 :: Ca0e0_f1 :: Ca0e0_f2 :: [(bp0e1, .cells #[.slice Aa0e1_f0 a0e1.f0.length ca0e1_f0, .slice Aa0e1_f1 a0e1.f1.length ca0e1_f1, mpv Aa0e1_f2] 63 (0, 0))] :: Ca0e1_f0 :: Ca0e1_f1 :: Ca0e1_f2 :: Γ = Γ') ∨ (∃ (x : T63), r = some x ∧ ∃ (bR : Nat), ∃ (AR_0 : Option Addr), ∃ (cR_0 : Nat), ∃ (CR_0 : Chunk), ∃ (AR_1 : Option Addr), ∃ (cR_1 : Nat), ∃ (CR_1 : Chunk), ∃ (AR_2 : Option Addr), ∃ (cR_2 : Nat), ∃ (CR_2 : Chunk), v = .pointer (some ⟨bR, 0, none⟩) ∧ Ow (kInt .i64) G' AR_0 cR_0 x.f0 CR_0 ∧ Ow (kInt .i64) G' AR_1 cR_1 x.f1 CR_1 ∧ MpF m61 G' AR_2 cR_2 x.f2 CR_2 ∧ G = G' ∧ [(bR, .cells #[.slice AR_0 x.f0.length cR_0, .slice AR_1 x.f1.length cR_1, mpv AR_2] 63 (0, 0))] :: CR_0 :: CR_1 :: CR_2 :: [(bp0, .cells #[.pointer (some ⟨bp0e0, 0, none⟩), .pointer (some ⟨bp0e1, 0, none⟩), .pointer (some ⟨bp0e0, 0, none⟩)] 23 (0, 0))] :: [(bp0e0, .cells #[.slice Aa0e0_f0 a0e0.f0.length ca0e0_f0, .slice Aa0e0_f1 a0e0.f1.length ca0e0_f1, mpv Aa0e0_f2] 63 (0, 0))] :: Ca0e0_f0 :: Ca0e0_f1 :: Ca0e0_f2 :: [(bp0e1, .cells #[.slice Aa0e1_f0 a0e1.f0.length ca0e1_f0, .slice Aa0e1_f1 a0e1.f1.length ca0e1_f1, mpv Aa0e1_f2] 63 (0, 0))] :: Ca0e1_f0 :: Ca0e1_f1 :: Ca0e1_f2 :: Γ = Γ'))) := by
  refine calls_WP (Γ := [(bp0, .cells #[.pointer (some ⟨bp0e0, 0, none⟩), .pointer (some ⟨bp0e1, 0, none⟩), .pointer (some ⟨bp0e0, 0, none⟩)] 23 (0, 0))] :: [(bp0e0, .cells #[.slice Aa0e0_f0 a0e0.f0.length ca0e0_f0, .slice Aa0e0_f1 a0e0.f1.length ca0e0_f1, mpv Aa0e0_f2] 63 (0, 0))] :: Ca0e0_f0 :: Ca0e0_f1 :: Ca0e0_f2 :: [(bp0e1, .cells #[.slice Aa0e1_f0 a0e1.f0.length ca0e1_f0, .slice Aa0e1_f1 a0e1.f1.length ca0e1_f1, mpv Aa0e1_f2] 63 (0, 0))] :: Ca0e1_f0 :: Ca0e1_f1 :: Ca0e1_f2 :: Γ) (G := G) (B := B) Tryd.func24 rfl (by kernel_rfl) ?_ hI
  clear hI
  unfold state_Join_40 at h
  refine WP.seqP [0] (L' := [(0, .slice (some ⟨bp0, 0, none⟩) 3 3)]) (by kernel_rfl) ?_
  refine WP.seqP [0, 3] (L' := [(0, .slice (some ⟨bp0, 0, none⟩) 3 3), (3, .pointer none)]) (by kernel_rfl) ?_
  refine WP.seq ?_
  refine WP.seqP [3, 10, 11, 12] (L' := [(3, .pointer none), (10, .slice (some ⟨bp0, 0, none⟩) 3 3), (11, .int .i64 3), (12, .int .i64 0)]) (by kernel_rfl) ?_
  rw [Option.bind_eq_some_iff] at h
  obtain ⟨os1, h, hk3⟩ := h
  refine WP.cutQ (fun L' G' Γ' => ∃ s1 : T63, Sum.inr s1 = os1 ∧ ∃ (bn2 : Nat), ∃ (As1_f0 : Option Addr), ∃ (cs1_f0 : Nat), ∃ (Cs1_f0 : Chunk), ∃ (As1_f1 : Option Addr), ∃ (cs1_f1 : Nat), ∃ (Cs1_f1 : Chunk), ∃ (As1_f2 : Option Addr), ∃ (cs1_f2 : Nat), ∃ (Cs1_f2 : Chunk), L' = [(3, .pointer (some ⟨bn2, 0, none⟩))] ∧ G = G' ∧ [(bn2, .cells #[.slice As1_f0 s1.f0.length cs1_f0, .slice As1_f1 s1.f1.length cs1_f1, mpv As1_f2] 63 (0, 0))] :: Cs1_f0 :: Cs1_f1 :: Cs1_f2 :: [(bp0, .cells #[.pointer (some ⟨bp0e0, 0, none⟩), .pointer (some ⟨bp0e1, 0, none⟩), .pointer (some ⟨bp0e0, 0, none⟩)] 23 (0, 0))] :: [(bp0e0, .cells #[.slice Aa0e0_f0 a0e0.f0.length ca0e0_f0, .slice Aa0e0_f1 a0e0.f1.length ca0e0_f1, mpv Aa0e0_f2] 63 (0, 0))] :: Ca0e0_f0 :: Ca0e0_f1 :: Ca0e0_f2 :: [(bp0e1, .cells #[.slice Aa0e1_f0 a0e1.f0.length ca0e1_f0, .slice Aa0e1_f1 a0e1.f1.length ca0e1_f1, mpv Aa0e1_f2] 63 (0, 0))] :: Ca0e1_f0 :: Ca0e1_f1 :: Ca0e1_f2 :: Γ = Γ' ∧ Ow (kInt .i64) G As1_f0 cs1_f0 s1.f0 Cs1_f0 ∧ Ow (kInt .i64) G As1_f1 cs1_f1 s1.f1 Cs1_f1 ∧ MpF m61 G As1_f2 cs1_f2 s1.f2 Cs1_f2) ?_ ?_
  · skip
    refine WP.block ?_
    refine WP.pick [3, 10, 11, 12] ?_
    refine WP.around ?_
    refine WP.seqP [3, 10, 11, 12, 13] (L' := [(3, .pointer none), (10, .slice (some ⟨bp0, 0, none⟩) 3 3), (11, .int .i64 3), (12, .int .i64 0), (13, .bool true)]) (by kernel_rfl) ?_
    refine WP.seq ?_
    refine WP.yes (by kernel_rfl) ?_
    refine WP.skip ?_
    refine QP.next ?_
    refine WP.pick [3, 10, 11, 12] ?_
    refine WP.seq ?_
    refine WP.block ?_
    refine WP.seqR ?_
    refine WL.pure 0 1 [3, 10, 11, 12, 14] (L' := [(3, .pointer none), (10, .slice (some ⟨bp0, 0, none⟩) 3 3), (11, .int .i64 3), (12, .int .i64 0), (14, .int .i64 0)]) (by kernel_rfl) (by decide) ?_
    refine WL.tell (op := .indexAddr 52 (.tmp 10) (.tmp 12)) (ty := 0) (d := some 15) (g := none) (by kernel_rfl) (by kernel_rfl) (by kernel_rfl) (Tells.indexAddr (A := some ⟨bp0, 0, none⟩) (n := 3) (c := 3) (k := .i64) (j := 0) (by kernel_rfl) (by kernel_rfl) rfl (by decide) (by decide) sl52) ?_
    refine WL.tell (op := .load 23 (.tmp 15)) (ty := 23) (d := some 16) (g := none) (by kernel_rfl) (by kernel_rfl) (by kernel_rfl) (Tells.load_box (i := 0) (b := bp0) (o := 0) (agg := false) (by rfl) ag23 (by kernel_rfl) (fun _ => rfl) (Nat.le_of_ble_eq_true rfl) (v := .pointer (some ⟨bp0e0, 0, none⟩)) (by kernel_rfl)) ?_
    refine WL.restQ 3 [3, 4, 5, 10, 11, 12] (L' := [(3, .pointer none), (4, .int .i64 0), (5, .pointer (some ⟨bp0e0, 0, none⟩)), (10, .slice (some ⟨bp0, 0, none⟩) 3 3), (11, .int .i64 3), (12, .int .i64 0)]) (by kernel_rfl) ?_
    refine WP.seq ?_
    refine WP.seq ?_
    refine WP.any (N := 19) (S := [⟨some 17, [5], []⟩, ⟨some 18, [17], [0]⟩, ⟨some 19, [18], [1]⟩, ⟨some 20, [4, 19], [2]⟩, ⟨some 21, [19, 20], [2, 3]⟩, ⟨some 22, [19, 21], [2, 4]⟩, ⟨some 23, [5, 22], [5]⟩, ⟨some 24, [22, 23], [5, 6]⟩, ⟨some 25, [22, 24], [5, 7]⟩, ⟨some 26, [22, 25], [5, 8]⟩, ⟨some 27, [22, 26], [5, 9]⟩, ⟨some 28, [3, 22], [5]⟩, ⟨some 29, [22, 28], [5, 11]⟩, ⟨some 30, [22, 29], [5, 12]⟩, ⟨some 31, [22, 30], [5, 13]⟩, ⟨some 32, [22, 31], [5, 14]⟩, ⟨some 33, [22, 27, 32], [5, 10, 15]⟩, ⟨some 34, [19, 22, 33], [2, 5, 16]⟩, ⟨some 35, [19, 34], [2, 17]⟩]) (kw := 19) (G0 := G) (Γ0 := [(bp0, .cells #[.pointer (some ⟨bp0e0, 0, none⟩), .pointer (some ⟨bp0e1, 0, none⟩), .pointer (some ⟨bp0e0, 0, none⟩)] 23 (0, 0))] :: [(bp0e0, .cells #[.slice Aa0e0_f0 a0e0.f0.length ca0e0_f0, .slice Aa0e0_f1 a0e0.f1.length ca0e0_f1, mpv Aa0e0_f2] 63 (0, 0))] :: Ca0e0_f0 :: Ca0e0_f1 :: Ca0e0_f2 :: [(bp0e1, .cells #[.slice Aa0e1_f0 a0e1.f0.length ca0e1_f0, .slice Aa0e1_f1 a0e1.f1.length ca0e1_f1, mpv Aa0e1_f2] 63 (0, 0))] :: Ca0e1_f0 :: Ca0e1_f1 :: Ca0e1_f2 :: Γ) mo (by kernel_rfl) (fun hS => ?_)
    refine WA.pure [0, 1, 2, 3, 4, 5, 6, 7, 8, 9, 10, 11, 12, 13, 14, 15, 16, 17, 18] [3, 4, 5, 10, 11, 12, 20, 21, 22, 23, 24, 25, 26, 27, 28, 29, 30, 31, 32, 33, 34, 35] (m := 0) (b' := 524287) (L' := [(3, .pointer none), (4, .int .i64 0), (5, .pointer (some ⟨bp0e0, 0, none⟩)), (10, .slice (some ⟨bp0, 0, none⟩) 3 3), (11, .int .i64 3), (12, .int .i64 0), (20, .int .i64 0), (21, .bool false), (22, .bool false), (23, undef), (24, undef), (25, undef), (26, undef), (27, undef), (28, undef), (29, undef), (30, undef), (31, undef), (32, undef), (33, undef), (34, .bool false), (35, .bool false)]) (by kernel_rfl) (NoPanic.then (NoPanic.then (NoPanic.block (NoPanic.then (NoPanic.then (NoPanic.block (NoPanic.then (NoPanic.then (NoPanic.body))))))))) Under.refl hS (by kernel_rfl) ?_
    refine WA.done hS (by kernel_rfl) ?_
    refine QP.pick [3, 4, 5, 10, 11, 12, 20, 21, 22, 23, 24, 25, 26, 27, 28, 29, 30, 31, 32, 33, 34, 35] ?_
    refine QP.next ?_
    refine WP.no (by kernel_rfl) ?_
    refine WP.skip ?_
    refine QP.next ?_
    refine WP.pick [3, 4, 5, 10, 11, 12, 20, 21, 22, 23, 24, 25, 26, 27, 28, 29, 30, 31, 32, 33, 34] ?_
    refine WP.seq ?_
    refine WP.seqP [3, 5, 10, 11, 12, 20, 21, 22, 23, 24, 25, 26, 27, 28, 29, 30, 31, 32, 33, 34, 37] (L' := [(3, .pointer none), (5, .pointer (some ⟨bp0e0, 0, none⟩)), (10, .slice (some ⟨bp0, 0, none⟩) 3 3), (11, .int .i64 3), (12, .int .i64 0), (20, .int .i64 0), (21, .bool false), (22, .bool false), (23, undef), (24, undef), (25, undef), (26, undef), (27, undef), (28, undef), (29, undef), (30, undef), (31, undef), (32, undef), (33, undef), (34, .bool false), (37, .bool true)]) (by kernel_rfl) ?_
    refine WP.yes (by kernel_rfl) ?_
    refine WP.seqR ?_
    refine WL.pure 0 1 [3, 10, 11, 12, 20, 21, 22, 23, 24, 25, 26, 27, 28, 29, 30, 31, 32, 33, 34, 38] (L' := [(3, .pointer none), (10, .slice (some ⟨bp0, 0, none⟩) 3 3), (11, .int .i64 3), (12, .int .i64 0), (20, .int .i64 0), (21, .bool false), (22, .bool false), (23, undef), (24, undef), (25, undef), (26, undef), (27, undef), (28, undef), (29, undef), (30, undef), (31, undef), (32, undef), (33, undef), (34, .bool false), (38, .pointer (some ⟨bp0e0, 0, none⟩))]) (by kernel_rfl) (by decide) ?_
    refine WL.reperm (Γ' := [(bp0e0, .cells #[.slice Aa0e0_f0 a0e0.f0.length ca0e0_f0, .slice Aa0e0_f1 a0e0.f1.length ca0e0_f1, mpv Aa0e0_f2] 63 (0, 0))] :: Ca0e0_f0 :: Ca0e0_f1 :: Ca0e0_f2 :: [(bp0, .cells #[.pointer (some ⟨bp0e0, 0, none⟩), .pointer (some ⟨bp0e1, 0, none⟩), .pointer (some ⟨bp0e0, 0, none⟩)] 23 (0, 0))] :: [(bp0e1, .cells #[.slice Aa0e1_f0 a0e1.f0.length ca0e1_f0, .slice Aa0e1_f1 a0e1.f1.length ca0e1_f1, mpv Aa0e1_f2] 63 (0, 0))] :: Ca0e1_f0 :: Ca0e1_f1 :: Ca0e1_f2 :: Γ) (perm_sel [1, 2, 3, 4, 0] (by kernel_rfl) rfl) ?_
    rw [Option.bind_eq_some_iff] at h
    obtain ⟨t4, ht5, h⟩ := h
    refine WL.op (op := .call { callee := (.value (.func 26)), args := #[(.tmp 38)], argTypes := #[23] }) (ty := 23) (d := some 39) (g := none) (by kernel_rfl) (by kernel_rfl) (by kernel_rfl) (Does.call (f := 26) (args := [.pointer (some ⟨bp0e0, 0, none⟩)]) (by kernel_rfl) (fun W hI => (state_State_Copy_calls a0e0 bp0e0 Aa0e0_f0 ca0e0_f0 Ca0e0_f0 Ha0e0_f0 Aa0e0_f1 ca0e0_f1 Ca0e0_f1 Ha0e0_f1 Aa0e0_f2 ca0e0_f2 Ca0e0_f2 Ha0e0_f2 t4 ht5 hI))) ?_
    rintro _ _ _ ⟨bR6, AR6_0, cR6_0, CR6_0, AR6_1, cR6_1, CR6_1, AR6_2, cR6_2, CR6_2, rfl, HR6_0, HR6_1, HR6_2, rfl, rfl⟩
    refine WL.restQ 2 [3, 10, 11, 12, 20, 21, 22, 23, 24, 25, 26, 27, 28, 29, 30, 31, 32, 33, 34] (L' := [(3, .pointer (some ⟨bR6, 0, none⟩)), (10, .slice (some ⟨bp0, 0, none⟩) 3 3), (11, .int .i64 3), (12, .int .i64 0), (20, .int .i64 0), (21, .bool false), (22, .bool false), (23, undef), (24, undef), (25, undef), (26, undef), (27, undef), (28, undef), (29, undef), (30, undef), (31, undef), (32, undef), (33, undef), (34, .bool false)]) (by kernel_rfl) ?_
    refine WP.exit ?_
    refine QP.thenE ?_
    refine QP.blockE ?_
    refine QP.next ?_
    refine WP.pick [3, 10, 11, 12, 20, 21, 22, 23, 24, 25, 26, 27, 28, 29, 30, 31, 32, 33, 34] ?_
    refine WP.regionP [3, 10, 11, 12, 20, 21, 22, 23, 24, 25, 26, 27, 28, 29, 30, 31, 32, 33, 34] (L' := [(3, .pointer (some ⟨bR6, 0, none⟩)), (10, .slice (some ⟨bp0, 0, none⟩) 3 3), (11, .int .i64 3), (12, .int .i64 1), (20, .int .i64 0), (21, .bool false), (22, .bool false), (23, undef), (24, undef), (25, undef), (26, undef), (27, undef), (28, undef), (29, undef), (30, undef), (31, undef), (32, undef), (33, undef), (34, .bool false)]) (by kernel_rfl) ?_
    refine QP.around ?_
    refine WR.pick [3, 10, 11, 12, 20, 21, 22, 23, 24, 25, 26, 27, 28, 29, 30, 31, 32, 33, 34] ?_
    refine WR.again ?_
    refine WP.seqP [3, 10, 11, 12, 13, 20, 21, 22, 23, 24, 25, 26, 27, 28, 29, 30, 31, 32, 33, 34] (L' := [(3, .pointer (some ⟨bR6, 0, none⟩)), (10, .slice (some ⟨bp0, 0, none⟩) 3 3), (11, .int .i64 3), (12, .int .i64 1), (13, .bool true), (20, .int .i64 0), (21, .bool false), (22, .bool false), (23, undef), (24, undef), (25, undef), (26, undef), (27, undef), (28, undef), (29, undef), (30, undef), (31, undef), (32, undef), (33, undef), (34, .bool false)]) (by kernel_rfl) ?_
    refine WP.seq ?_
    refine WP.yes (by kernel_rfl) ?_
    refine WP.skip ?_
    refine QP.next ?_
    refine WP.pick [3, 10, 11, 12, 20, 21, 22, 23, 24, 25, 26, 27, 28, 29, 30, 31, 32, 33, 34] ?_
    refine WP.seq ?_
    refine WP.block ?_
    refine WP.seqR ?_
    refine WL.pure 0 1 [3, 10, 11, 12, 14, 20, 21, 22, 23, 24, 25, 26, 27, 28, 29, 30, 31, 32, 33, 34] (L' := [(3, .pointer (some ⟨bR6, 0, none⟩)), (10, .slice (some ⟨bp0, 0, none⟩) 3 3), (11, .int .i64 3), (12, .int .i64 1), (14, .int .i64 1), (20, .int .i64 0), (21, .bool false), (22, .bool false), (23, undef), (24, undef), (25, undef), (26, undef), (27, undef), (28, undef), (29, undef), (30, undef), (31, undef), (32, undef), (33, undef), (34, .bool false)]) (by kernel_rfl) (by decide) ?_
    refine WL.tell (op := .indexAddr 52 (.tmp 10) (.tmp 12)) (ty := 0) (d := some 15) (g := none) (by kernel_rfl) (by kernel_rfl) (by kernel_rfl) (Tells.indexAddr (A := some ⟨bp0, 0, none⟩) (n := 3) (c := 3) (k := .i64) (j := 1) (by kernel_rfl) (by kernel_rfl) rfl (by decide) (by decide) sl52) ?_
    refine WL.tell (op := .load 23 (.tmp 15)) (ty := 23) (d := some 16) (g := none) (by kernel_rfl) (by kernel_rfl) (by kernel_rfl) (Tells.load_box (i := 8) (b := bp0) (o := 1) (agg := false) (by rfl) ag23 (by kernel_rfl) (fun _ => rfl) (Nat.le_of_ble_eq_true rfl) (v := .pointer (some ⟨bp0e1, 0, none⟩)) (by kernel_rfl)) ?_
    refine WL.restQ 3 [3, 4, 5, 10, 11, 12, 20, 21, 22, 23, 24, 25, 26, 27, 28, 29, 30, 31, 32, 33, 34] (L' := [(3, .pointer (some ⟨bR6, 0, none⟩)), (4, .int .i64 1), (5, .pointer (some ⟨bp0e1, 0, none⟩)), (10, .slice (some ⟨bp0, 0, none⟩) 3 3), (11, .int .i64 3), (12, .int .i64 1), (20, .int .i64 0), (21, .bool false), (22, .bool false), (23, undef), (24, undef), (25, undef), (26, undef), (27, undef), (28, undef), (29, undef), (30, undef), (31, undef), (32, undef), (33, undef), (34, .bool false)]) (by kernel_rfl) ?_
    refine WP.seq ?_
    refine WP.seq ?_
    refine WP.any (N := 19) (S := [⟨some 17, [5], []⟩, ⟨some 18, [17], [0]⟩, ⟨some 19, [18], [1]⟩, ⟨some 20, [4, 19], [2]⟩, ⟨some 21, [19, 20], [2, 3]⟩, ⟨some 22, [19, 21], [2, 4]⟩, ⟨some 23, [5, 22], [5]⟩, ⟨some 24, [22, 23], [5, 6]⟩, ⟨some 25, [22, 24], [5, 7]⟩, ⟨some 26, [22, 25], [5, 8]⟩, ⟨some 27, [22, 26], [5, 9]⟩, ⟨some 28, [3, 22], [5]⟩, ⟨some 29, [22, 28], [5, 11]⟩, ⟨some 30, [22, 29], [5, 12]⟩, ⟨some 31, [22, 30], [5, 13]⟩, ⟨some 32, [22, 31], [5, 14]⟩, ⟨some 33, [22, 27, 32], [5, 10, 15]⟩, ⟨some 34, [19, 22, 33], [2, 5, 16]⟩, ⟨some 35, [19, 34], [2, 17]⟩]) (kw := 19) (G0 := G) (Γ0 := [(bR6, .cells #[.slice AR6_0 t4.f0.length cR6_0, .slice AR6_1 t4.f1.length cR6_1, mpv AR6_2] 63 (0, 0))] :: CR6_0 :: CR6_1 :: CR6_2 :: [(bp0e0, .cells #[.slice Aa0e0_f0 a0e0.f0.length ca0e0_f0, .slice Aa0e0_f1 a0e0.f1.length ca0e0_f1, mpv Aa0e0_f2] 63 (0, 0))] :: Ca0e0_f0 :: Ca0e0_f1 :: Ca0e0_f2 :: [(bp0, .cells #[.pointer (some ⟨bp0e0, 0, none⟩), .pointer (some ⟨bp0e1, 0, none⟩), .pointer (some ⟨bp0e0, 0, none⟩)] 23 (0, 0))] :: [(bp0e1, .cells #[.slice Aa0e1_f0 a0e1.f0.length ca0e1_f0, .slice Aa0e1_f1 a0e1.f1.length ca0e1_f1, mpv Aa0e1_f2] 63 (0, 0))] :: Ca0e1_f0 :: Ca0e1_f1 :: Ca0e1_f2 :: Γ) mo (by kernel_rfl) (fun hS => ?_)
    refine WA.pure [0, 1, 2, 3, 4, 5, 6, 7, 8, 11, 12, 13] [3, 4, 5, 10, 11, 12, 19, 20, 21, 22, 23, 24, 25, 26, 27, 28, 29, 30, 31, 32, 33, 34] (m := 7) (b' := 14847) (L' := [(3, .pointer (some ⟨bR6, 0, none⟩)), (4, .int .i64 1), (5, .pointer (some ⟨bp0e1, 0, none⟩)), (10, .slice (some ⟨bp0, 0, none⟩) 3 3), (11, .int .i64 3), (12, .int .i64 1), (19, .bool false), (20, .int .i64 1), (21, .bool true), (22, .bool true), (23, .pointer (some ⟨bp0e1, 0, none⟩)), (24, .pointer (some ⟨bp0e1, 0, none⟩)), (25, .pointer (some ⟨bp0e1, 0, none⟩)), (26, undef), (27, undef), (28, .pointer (some ⟨bR6, 0, none⟩)), (29, .pointer (some ⟨bR6, 0, none⟩)), (30, .pointer (some ⟨bR6, 0, none⟩)), (31, undef), (32, undef), (33, undef), (34, .bool false)]) (by kernel_rfl) (NoPanic.then (NoPanic.then (NoPanic.block (NoPanic.then (NoPanic.then (NoPanic.block (NoPanic.then (NoPanic.then (NoPanic.body))))))))) Under.refl hS (by kernel_rfl) ?_
    refine WA.tellD [] (i := 9) (m := 6) (b' := 15359) (by kernel_rfl) (NoPanic.then (NoPanic.then (NoPanic.block (NoPanic.then (NoPanic.then (NoPanic.block (NoPanic.then (NoPanic.then (NoPanic.body))))))))) Under.refl hS (by kernel_rfl) (op := .load 27 (.tmp 25)) (ty := 27) (d := some 26) (g := some (5, true)) (by kernel_rfl) (by kernel_rfl) (by kernel_rfl) (Tells.load_box (i := 9) (b := bp0e1) (o := 0) (agg := false) (by rfl) ag27 (by kernel_rfl) (fun _ => rfl) (Nat.le_of_ble_eq_true rfl) (v := .slice Aa0e1_f0 a0e1.f0.length ca0e1_f0) (by kernel_rfl)) ?_
    refine WA.pure [10] [3, 4, 5, 10, 11, 12, 19, 20, 21, 22, 23, 24, 25, 26, 27, 28, 29, 30, 31, 32, 33, 34] (m := 5) (b' := 16383) (L' := [(3, .pointer (some ⟨bR6, 0, none⟩)), (4, .int .i64 1), (5, .pointer (some ⟨bp0e1, 0, none⟩)), (10, .slice (some ⟨bp0, 0, none⟩) 3 3), (11, .int .i64 3), (12, .int .i64 1), (19, .bool false), (20, .int .i64 1), (21, .bool true), (22, .bool true), (23, .pointer (some ⟨bp0e1, 0, none⟩)), (24, .pointer (some ⟨bp0e1, 0, none⟩)), (25, .pointer (some ⟨bp0e1, 0, none⟩)), (26, .slice Aa0e1_f0 a0e1.f0.length ca0e1_f0), (27, .int .i64 (a0e1.f0.length : Int)), (28, .pointer (some ⟨bR6, 0, none⟩)), (29, .pointer (some ⟨bR6, 0, none⟩)), (30, .pointer (some ⟨bR6, 0, none⟩)), (31, undef), (32, undef), (33, undef), (34, .bool false)]) (by kernel_rfl) (NoPanic.then (NoPanic.then (NoPanic.block (NoPanic.then (NoPanic.then (NoPanic.block (NoPanic.then (NoPanic.then (NoPanic.body))))))))) Under.refl hS (by kernel_rfl) ?_
    refine WA.tellD [] (i := 14) (m := 4) (b' := 32767) (by kernel_rfl) (NoPanic.then (NoPanic.then (NoPanic.block (NoPanic.then (NoPanic.then (NoPanic.block (NoPanic.then (NoPanic.then (NoPanic.body))))))))) Under.refl hS (by kernel_rfl) (op := .load 27 (.tmp 30)) (ty := 27) (d := some 31) (g := some (5, true)) (by kernel_rfl) (by kernel_rfl) (by kernel_rfl) (Tells.load_box (i := 0) (b := bR6) (o := 0) (agg := false) (by rfl) ag27 (by kernel_rfl) (fun _ => rfl) (Nat.le_of_ble_eq_true rfl) (v := .slice AR6_0 t4.f0.length cR6_0) (by kernel_rfl)) ?_
    refine WA.pure [15, 16, 17, 18] [3, 4, 5, 10, 11, 12, 20, 21, 22, 23, 24, 25, 26, 27, 28, 29, 30, 31, 32, 33, 34, 35] (m := 0) (b' := 524287) (L' := [(3, .pointer (some ⟨bR6, 0, none⟩)), (4, .int .i64 1), (5, .pointer (some ⟨bp0e1, 0, none⟩)), (10, .slice (some ⟨bp0, 0, none⟩) 3 3), (11, .int .i64 3), (12, .int .i64 1), (20, .int .i64 1), (21, .bool true), (22, .bool true), (23, .pointer (some ⟨bp0e1, 0, none⟩)), (24, .pointer (some ⟨bp0e1, 0, none⟩)), (25, .pointer (some ⟨bp0e1, 0, none⟩)), (26, .slice Aa0e1_f0 a0e1.f0.length ca0e1_f0), (27, .int .i64 (a0e1.f0.length : Int)), (28, .pointer (some ⟨bR6, 0, none⟩)), (29, .pointer (some ⟨bR6, 0, none⟩)), (30, .pointer (some ⟨bR6, 0, none⟩)), (31, .slice AR6_0 t4.f0.length cR6_0), (32, .int .i64 (t4.f0.length : Int)), (33, .bool ((a0e1.f0.length : Int) != (t4.f0.length : Int))), (34, .bool ((a0e1.f0.length : Int) != (t4.f0.length : Int))), (35, .bool ((a0e1.f0.length : Int) != (t4.f0.length : Int)))]) (by kernel_rfl) (NoPanic.then (NoPanic.then (NoPanic.block (NoPanic.then (NoPanic.then (NoPanic.block (NoPanic.then (NoPanic.then (NoPanic.body))))))))) Under.refl hS (by kernel_rfl) ?_
    refine WA.done hS (by kernel_rfl) ?_
    refine QP.pick [3, 4, 5, 10, 11, 12, 20, 21, 22, 23, 24, 25, 26, 27, 28, 29, 30, 31, 32, 33, 34, 35] ?_
    refine QP.next ?_
    refine WP.cond (b := ((a0e1.f0.length : Int) != (t4.f0.length : Int))) (by kernel_rfl) (fun hc => ?_) (fun hc => ?_)
    · replace hc := (bne_iff_ne.1 hc)
      rw [if_pos hc] at h
      have hc8 := hc
      clear hc
      refine WP.seqP [2] (L' := [(2, .pointer none)]) (by kernel_rfl) ?_
      refine WP.dropAt 3 ?_
      refine WP.dropAt 2 ?_
      refine WP.dropAt 1 ?_
      refine WP.dropAt 0 ?_
      refine WP.ret ?_
      refine QP.thenR ?_
      refine QP.blockR ?_
      refine QP.thenR ?_
      refine QP.thenR ?_
      refine QP.blockR ?_
      refine QP.thenR ?_
      refine QP.thenR ?_
      obtain rfl := Option.some.inj h
      obtain rfl := Option.some.inj (show some _ = some _ from hk3)
      refine QP.reperm (Γ' := [(bp0, .cells #[.pointer (some ⟨bp0e0, 0, none⟩), .pointer (some ⟨bp0e1, 0, none⟩), .pointer (some ⟨bp0e0, 0, none⟩)] 23 (0, 0))] :: [(bp0e0, .cells #[.slice Aa0e0_f0 a0e0.f0.length ca0e0_f0, .slice Aa0e0_f1 a0e0.f1.length ca0e0_f1, mpv Aa0e0_f2] 63 (0, 0))] :: Ca0e0_f0 :: Ca0e0_f1 :: Ca0e0_f2 :: [(bp0e1, .cells #[.slice Aa0e1_f0 a0e1.f0.length ca0e1_f0, .slice Aa0e1_f1 a0e1.f1.length ca0e1_f1, mpv Aa0e1_f2] 63 (0, 0))] :: Ca0e1_f0 :: Ca0e1_f1 :: Ca0e1_f2 :: Γ) (perm_sel [4, 0, 1, 2, 3] (by kernel_rfl) rfl) ?_
      exact QP.returned [2] [.pointer none] _ (by kernel_rfl) (by kernel_rfl) (by kernel_rfl) (fun W hI => ⟨_, _, _, rfl, (Or.inl ⟨rfl, ⟨rfl, rfl, rfl⟩⟩), hI⟩)
    · replace hc := (not_not_intro (bne_eq_false_iff_eq.1 hc))
      rw [if_neg hc] at h
      have hc8 := hc
      clear hc
      refine WP.skip ?_
      refine QP.next ?_
      refine WP.pick [3, 4, 5, 10, 11, 12, 20, 21, 22, 23, 24, 25, 26, 27, 28, 29, 30, 31, 32, 33, 34] ?_
      refine WP.seq ?_
      refine WP.seqP [3, 5, 10, 11, 12, 20, 21, 22, 23, 24, 25, 26, 27, 28, 29, 30, 31, 32, 33, 34, 37] (L' := [(3, .pointer (some ⟨bR6, 0, none⟩)), (5, .pointer (some ⟨bp0e1, 0, none⟩)), (10, .slice (some ⟨bp0, 0, none⟩) 3 3), (11, .int .i64 3), (12, .int .i64 1), (20, .int .i64 1), (21, .bool true), (22, .bool true), (23, .pointer (some ⟨bp0e1, 0, none⟩)), (24, .pointer (some ⟨bp0e1, 0, none⟩)), (25, .pointer (some ⟨bp0e1, 0, none⟩)), (26, .slice Aa0e1_f0 a0e1.f0.length ca0e1_f0), (27, .int .i64 (a0e1.f0.length : Int)), (28, .pointer (some ⟨bR6, 0, none⟩)), (29, .pointer (some ⟨bR6, 0, none⟩)), (30, .pointer (some ⟨bR6, 0, none⟩)), (31, .slice AR6_0 t4.f0.length cR6_0), (32, .int .i64 (t4.f0.length : Int)), (33, .bool ((a0e1.f0.length : Int) != (t4.f0.length : Int))), (34, .bool ((a0e1.f0.length : Int) != (t4.f0.length : Int))), (37, .bool false)]) (by kernel_rfl) ?_
      refine WP.no (by kernel_rfl) ?_
      refine WP.skip ?_
      refine QP.next ?_
      refine WP.pick [3, 5, 10, 11, 12, 20, 21, 22, 23, 24, 25, 26, 27, 28, 29, 30, 31, 32, 33, 34] ?_
      refine WP.seq ?_
      refine WP.any (N := 14) (S := [⟨some 40, [3], []⟩, ⟨some 41, [3], []⟩, ⟨some 42, [41], [1]⟩, ⟨some 43, [42], [2]⟩, ⟨some 44, [43], [3]⟩, ⟨some 45, [5], []⟩, ⟨some 46, [45], [5]⟩, ⟨some 47, [46], [6]⟩, ⟨some 48, [47], [7]⟩, ⟨some 49, [44, 48], [4, 8]⟩, ⟨some 50, [49], [9]⟩, ⟨some 51, [40], [0, 1, 2, 3, 4, 5, 6, 7, 8, 9, 10]⟩, ⟨some 52, [51], [0, 1, 2, 3, 4, 5, 6, 7, 8, 9, 10, 11]⟩, ⟨none, [50, 52], [0, 1, 2, 3, 4, 5, 6, 7, 8, 9, 10, 12]⟩]) (kw := 13) (G0 := G) (Γ0 := [(bR6, .cells #[.slice AR6_0 t4.f0.length cR6_0, .slice AR6_1 t4.f1.length cR6_1, mpv AR6_2] 63 (0, 0))] :: CR6_0 :: CR6_1 :: CR6_2 :: [(bp0e0, .cells #[.slice Aa0e0_f0 a0e0.f0.length ca0e0_f0, .slice Aa0e0_f1 a0e0.f1.length ca0e0_f1, mpv Aa0e0_f2] 63 (0, 0))] :: Ca0e0_f0 :: Ca0e0_f1 :: Ca0e0_f2 :: [(bp0, .cells #[.pointer (some ⟨bp0e0, 0, none⟩), .pointer (some ⟨bp0e1, 0, none⟩), .pointer (some ⟨bp0e0, 0, none⟩)] 23 (0, 0))] :: [(bp0e1, .cells #[.slice Aa0e1_f0 a0e1.f0.length ca0e1_f0, .slice Aa0e1_f1 a0e1.f1.length ca0e1_f1, mpv Aa0e1_f2] 63 (0, 0))] :: Ca0e1_f0 :: Ca0e1_f1 :: Ca0e1_f2 :: Γ) mo (by kernel_rfl) (fun hS => ?_)
      refine WA.pure [0, 1, 2, 3, 5, 6, 7] [3, 5, 10, 11, 12, 20, 21, 22, 23, 24, 25, 26, 27, 28, 29, 30, 31, 32, 33, 34, 40, 43, 47] (m := 7) (b' := 239) (L' := [(3, .pointer (some ⟨bR6, 0, none⟩)), (5, .pointer (some ⟨bp0e1, 0, none⟩)), (10, .slice (some ⟨bp0, 0, none⟩) 3 3), (11, .int .i64 3), (12, .int .i64 1), (20, .int .i64 1), (21, .bool true), (22, .bool true), (23, .pointer (some ⟨bp0e1, 0, none⟩)), (24, .pointer (some ⟨bp0e1, 0, none⟩)), (25, .pointer (some ⟨bp0e1, 0, none⟩)), (26, .slice Aa0e1_f0 a0e1.f0.length ca0e1_f0), (27, .int .i64 (a0e1.f0.length : Int)), (28, .pointer (some ⟨bR6, 0, none⟩)), (29, .pointer (some ⟨bR6, 0, none⟩)), (30, .pointer (some ⟨bR6, 0, none⟩)), (31, .slice AR6_0 t4.f0.length cR6_0), (32, .int .i64 (t4.f0.length : Int)), (33, .bool ((a0e1.f0.length : Int) != (t4.f0.length : Int))), (34, .bool ((a0e1.f0.length : Int) != (t4.f0.length : Int))), (40, .pointer (some ⟨bR6, 0, none⟩)), (43, .pointer (some ⟨bR6, 0, none⟩)), (47, .pointer (some ⟨bp0e1, 0, none⟩))]) (by kernel_rfl) (NoPanic.then (NoPanic.block (NoPanic.then (NoPanic.then (NoPanic.block (NoPanic.then (NoPanic.then (NoPanic.body)))))))) Under.refl hS (by kernel_rfl) ?_
      refine WA.tellD [13] (i := 4) (m := 6) (b' := 255) (by kernel_rfl) (NoPanic.then (NoPanic.block (NoPanic.then (NoPanic.then (NoPanic.block (NoPanic.then (NoPanic.then (NoPanic.body)))))))) Under.refl hS (by kernel_rfl) (op := .load 27 (.tmp 43)) (ty := 27) (d := some 44) (g := none) (by kernel_rfl) (by kernel_rfl) (by kernel_rfl) (Tells.load_box (i := 0) (b := bR6) (o := 0) (agg := false) (by rfl) ag27 (by kernel_rfl) (fun _ => rfl) (Nat.le_of_ble_eq_true rfl) (v := .slice AR6_0 t4.f0.length cR6_0) (by kernel_rfl)) ?_
      refine WA.tellD [13] (i := 8) (m := 5) (b' := 511) (by kernel_rfl) (NoPanic.then (NoPanic.block (NoPanic.then (NoPanic.then (NoPanic.block (NoPanic.then (NoPanic.then (NoPanic.body)))))))) Under.refl hS (by kernel_rfl) (op := .load 27 (.tmp 47)) (ty := 27) (d := some 48) (g := none) (by kernel_rfl) (by kernel_rfl) (by kernel_rfl) (Tells.load_box (i := 9) (b := bp0e1) (o := 0) (agg := false) (by rfl) ag27 (by kernel_rfl) (fun _ => rfl) (Nat.le_of_ble_eq_true rfl) (v := .slice Aa0e1_f0 a0e1.f0.length ca0e1_f0) (by kernel_rfl)) ?_
      refine WA.op (i := 9) (m := 4) (b' := 1023) (by kernel_rfl) hS (by kernel_rfl) (op := .buildSlice 50 2 #[(0, (.tmp 44)), (1, (.tmp 48))]) (ty := 50) (d := some 49) (g := none) (by kernel_rfl) (by kernel_rfl) (by kernel_rfl) (Does.new (o := .cells #[.slice AR6_0 t4.f0.length cR6_0, .slice Aa0e1_f0 a0e1.f0.length ca0e1_f0] 27 (0, 0)) (v := fun r => .slice (some ⟨r, 0, none⟩) 2 2) (fun r => by kernel_rfl)) ?_
      rintro _ _ _ ⟨b9, rfl, rfl, rfl⟩
      refine ⟨_, _, Under.cons Under.refl, Under.refl, ?_⟩
      rw [Option.bind_eq_some_iff] at h
      obtain ⟨t12, ht13, h⟩ := h
      refine WA.op (i := 10) (m := 3) (b' := 2047) (by kernel_rfl) hS (by kernel_rfl) (op := .call { callee := (.value (.func 33)), args := #[(.tmp 49)], argTypes := #[50] }) (ty := 27) (d := some 50) (g := none) (by kernel_rfl) (by kernel_rfl) (by kernel_rfl) (Does.call (Φ := fun v' G' Γ' => ∃ (AR14 : Option Addr), ∃ (cR14 : Nat), ∃ (CR14 : Chunk), v' = .slice AR14 t12.length cR14 ∧ Ow (kInt .i64) G AR14 cR14 t12 CR14 ∧ G = G' ∧ CR14 :: [(b9, .cells #[.slice AR6_0 t4.f0.length cR6_0, .slice Aa0e1_f0 a0e1.f0.length ca0e1_f0] 27 (0, 0))] :: [(bR6, .cells #[.slice AR6_0 t4.f0.length cR6_0, .slice AR6_1 t4.f1.length cR6_1, mpv AR6_2] 63 (0, 0))] :: CR6_0 :: CR6_1 :: CR6_2 :: [(bp0e0, .cells #[.slice Aa0e0_f0 a0e0.f0.length ca0e0_f0, .slice Aa0e0_f1 a0e0.f1.length ca0e0_f1, mpv Aa0e0_f2] 63 (0, 0))] :: Ca0e0_f0 :: Ca0e0_f1 :: Ca0e0_f2 :: [(bp0, .cells #[.pointer (some ⟨bp0e0, 0, none⟩), .pointer (some ⟨bp0e1, 0, none⟩), .pointer (some ⟨bp0e0, 0, none⟩)] 23 (0, 0))] :: [(bp0e1, .cells #[.slice Aa0e1_f0 a0e1.f0.length ca0e1_f0, .slice Aa0e1_f1 a0e1.f1.length ca0e1_f1, mpv Aa0e1_f2] 63 (0, 0))] :: Ca0e1_f0 :: Ca0e1_f1 :: Ca0e1_f2 :: Γ = Γ') (f := 33) (args := [.slice (some ⟨b9, 0, none⟩) ([t4.f0, a0e1.f0] : List (List Int)).length 2]) (by kernel_rfl) (fun W hI => (Calls.lendN (Φ := fun v' N => ∃ (AR14 : Option Addr), ∃ (cR14 : Nat), ∃ (CR14 : Chunk), v' = .slice AR14 t12.length cR14 ∧ Ow (kInt .i64) G AR14 cR14 t12 CR14 ∧ N = [CR14]) (H := []) (i := 2) rfl hI (fun _ e l16 nl16 hI => by subst e; exact Calls.lendN (Φ := fun v' N => ∃ (AR14 : Option Addr), ∃ (cR14 : Nat), ∃ (CR14 : Chunk), v' = .slice AR14 t12.length cR14 ∧ Ow (kInt .i64) G AR14 cR14 t12 CR14 ∧ N = [CR14]) (H := []) (i := 11) rfl hI (fun _ e l17 nl17 hI => by subst e; exact Calls.lendN (Φ := fun v' N => ∃ (AR14 : Option Addr), ∃ (cR14 : Nat), ∃ (CR14 : Chunk), v' = .slice AR14 t12.length cR14 ∧ Ow (kInt .i64) G AR14 cR14 t12 CR14 ∧ N = [CR14]) (H := []) (i := 0) rfl hI (fun _ e l18 nl18 hI => by subst e; exact (((vector_Join_calls k ([t4.f0, a0e1.f0] : List (List Int)) (some ⟨b9, 0, none⟩) 2 ((Ow.lit (kd := (kSlice (kInt .i64))) (b := b9) (T := 27) (xs := ([t4.f0, a0e1.f0] : List (List Int))) (cs := [.slice AR6_0 t4.f0.length cR6_0, .slice Aa0e1_f0 a0e1.f0.length ca0e1_f0]) (.cons (x := t4.f0) (cs := [.slice AR6_0 t4.f0.length cR6_0]) ⟨AR6_0, cR6_0, rfl, ((HR6_0.rdN l16 nl16).mono l17)⟩ (.cons (x := a0e1.f0) (cs := [.slice Aa0e1_f0 a0e1.f0.length ca0e1_f0]) ⟨Aa0e1_f0, ca0e1_f0, rfl, ((Ha0e1_f0.mono l16).rdN l17 nl17)⟩ .nil))).rdN l18 nl18) t12 ht13 hI)).mono fun _ _ hr => by obtain ⟨_, _, _, rfl, hd, hI⟩ := hr; obtain ⟨AR14, cR14, CR14, rfl, HR14, rfl, rfl⟩ := hd; exact ⟨_, _, _, rfl, ⟨[CR14], ⟨AR14, cR14, CR14, rfl, (HR14.flat (kInt_flat _)), rfl⟩, rfl, rfl⟩, hI⟩))))).mono fun _ _ hr => by obtain ⟨_, _, _, rfl, ⟨_, hd, rfl, rfl⟩, hI⟩ := hr; obtain ⟨AR14, cR14, CR14, rfl, HR14, rfl⟩ := hd; exact ⟨_, _, _, rfl, ⟨AR14, cR14, CR14, rfl, HR14, rfl, rfl⟩, hI⟩)) ?_
      rintro _ _ _ ⟨AR14, cR14, CR14, rfl, HR14, rfl, rfl⟩
      refine ⟨_, _, Under.cons (Under.refl), Under.refl, ?_⟩
      refine WA.pure [11, 12] [3, 5, 10, 11, 12, 20, 21, 22, 23, 24, 25, 26, 27, 28, 29, 30, 31, 32, 33, 34, 50, 52] (m := 1) (b' := 8191) (L' := [(3, .pointer (some ⟨bR6, 0, none⟩)), (5, .pointer (some ⟨bp0e1, 0, none⟩)), (10, .slice (some ⟨bp0, 0, none⟩) 3 3), (11, .int .i64 3), (12, .int .i64 1), (20, .int .i64 1), (21, .bool true), (22, .bool true), (23, .pointer (some ⟨bp0e1, 0, none⟩)), (24, .pointer (some ⟨bp0e1, 0, none⟩)), (25, .pointer (some ⟨bp0e1, 0, none⟩)), (26, .slice Aa0e1_f0 a0e1.f0.length ca0e1_f0), (27, .int .i64 (a0e1.f0.length : Int)), (28, .pointer (some ⟨bR6, 0, none⟩)), (29, .pointer (some ⟨bR6, 0, none⟩)), (30, .pointer (some ⟨bR6, 0, none⟩)), (31, .slice AR6_0 t4.f0.length cR6_0), (32, .int .i64 (t4.f0.length : Int)), (33, .bool ((a0e1.f0.length : Int) != (t4.f0.length : Int))), (34, .bool ((a0e1.f0.length : Int) != (t4.f0.length : Int))), (50, .slice AR14 t12.length cR14), (52, .pointer (some ⟨bR6, 0, none⟩))]) (by kernel_rfl) (NoPanic.then (NoPanic.block (NoPanic.then (NoPanic.then (NoPanic.block (NoPanic.then (NoPanic.then (NoPanic.body)))))))) Under.refl hS (by kernel_rfl) ?_
      refine WA.opK (i := 13) (kw' := 14) (m := 0) (b' := 16383) (by kernel_rfl) rfl hS (by kernel_rfl) (op := .store 27 (.tmp 52) (.tmp 50)) (ty := 0) (d := none) (g := none) (by kernel_rfl) (by kernel_rfl) (by kernel_rfl) (Does.store_box (i := 2) (b := bR6) (o := 0) (v := .slice AR14 t12.length cR14) (by rfl) sz27 (by kernel_rfl) (by kernel_rfl) (by kernel_rfl) (Free.zero _) (Nat.le_of_ble_eq_true rfl) (cells' := #[.slice AR14 t12.length cR14, .slice AR6_1 t4.f1.length cR6_1, mpv AR6_2]) (by kernel_rfl)) ?_
      rintro _ _ _ ⟨rfl, rfl, rfl⟩
      refine ⟨_, _, Under.refl, ?_⟩
      refine WA.done hS (by kernel_rfl) ?_
      refine QP.pick [3, 5, 10, 11, 12, 20, 21, 22, 23, 24, 25, 26, 27, 28, 29, 30, 31, 32, 33, 34] ?_
      refine QP.next ?_
      refine WP.dropAt 1 ?_
      refine WP.seq ?_
      refine WP.seqR ?_
      refine WL.pure 0 3 [3, 5, 10, 11, 12, 20, 21, 22, 23, 24, 25, 26, 27, 28, 29, 30, 31, 32, 33, 34, 55] (L' := [(3, .pointer (some ⟨bR6, 0, none⟩)), (5, .pointer (some ⟨bp0e1, 0, none⟩)), (10, .slice (some ⟨bp0, 0, none⟩) 3 3), (11, .int .i64 3), (12, .int .i64 1), (20, .int .i64 1), (21, .bool true), (22, .bool true), (23, .pointer (some ⟨bp0e1, 0, none⟩)), (24, .pointer (some ⟨bp0e1, 0, none⟩)), (25, .pointer (some ⟨bp0e1, 0, none⟩)), (26, .slice Aa0e1_f0 a0e1.f0.length ca0e1_f0), (27, .int .i64 (a0e1.f0.length : Int)), (28, .pointer (some ⟨bR6, 0, none⟩)), (29, .pointer (some ⟨bR6, 0, none⟩)), (30, .pointer (some ⟨bR6, 0, none⟩)), (31, .slice AR6_0 t4.f0.length cR6_0), (32, .int .i64 (t4.f0.length : Int)), (33, .bool ((a0e1.f0.length : Int) != (t4.f0.length : Int))), (34, .bool ((a0e1.f0.length : Int) != (t4.f0.length : Int))), (55, .pointer (some ⟨bp0e1, 2, none⟩))]) (by kernel_rfl) (by decide) ?_
      refine WL.tell (op := .load 61 (.tmp 55)) (ty := 61) (d := some 56) (g := none) (by kernel_rfl) (by kernel_rfl) (by kernel_rfl) (Tells.load_box (i := 10) (b := bp0e1) (o := 2) (agg := false) (by rfl) ag61 (by kernel_rfl) (fun _ => rfl) (Nat.le_of_ble_eq_true rfl) (v := mpv Aa0e1_f2) (by kernel_rfl)) ?_
      refine WL.op (op := .range 61 (.tmp 56)) (ty := 0) (d := some 57) (g := none) (by kernel_rfl) (by kernel_rfl) (by kernel_rfl) (Does.rangeF mt61 Ha0e1_f2 (i := 13) rfl (by kernel_rfl)) ?_
      rintro _ _ _ ⟨it19, Cit19, rfl, Hit19, rfl, rfl⟩
      refine WL.addNil ?_
      refine WL.restQ 5 [3, 5, 10, 11, 12, 20, 21, 22, 23, 24, 25, 26, 27, 28, 29, 30, 31, 32, 33, 34, 57] (L' := [(3, .pointer (some ⟨bR6, 0, none⟩)), (5, .pointer (some ⟨bp0e1, 0, none⟩)), (10, .slice (some ⟨bp0, 0, none⟩) 3 3), (11, .int .i64 3), (12, .int .i64 1), (20, .int .i64 1), (21, .bool true), (22, .bool true), (23, .pointer (some ⟨bp0e1, 0, none⟩)), (24, .pointer (some ⟨bp0e1, 0, none⟩)), (25, .pointer (some ⟨bp0e1, 0, none⟩)), (26, .slice Aa0e1_f0 a0e1.f0.length ca0e1_f0), (27, .int .i64 (a0e1.f0.length : Int)), (28, .pointer (some ⟨bR6, 0, none⟩)), (29, .pointer (some ⟨bR6, 0, none⟩)), (30, .pointer (some ⟨bR6, 0, none⟩)), (31, .slice AR6_0 t4.f0.length cR6_0), (32, .int .i64 (t4.f0.length : Int)), (33, .bool ((a0e1.f0.length : Int) != (t4.f0.length : Int))), (34, .bool ((a0e1.f0.length : Int) != (t4.f0.length : Int))), (57, .pointer (some ⟨it19, 0, none⟩))]) (by kernel_rfl) ?_
      rw [Option.bind_eq_some_iff] at h
      obtain ⟨os20, h, hk21⟩ := h
      refine WP.cutQ (fun L' G' Γ' => ∃ s20 : T63, s20 = os20 ∧ ∃ (As20_f0 : Option Addr), ∃ (cs20_f0 : Nat), ∃ (Cs20_f0 : Chunk), ∃ (As20_f1 : Option Addr), ∃ (cs20_f1 : Nat), ∃ (Cs20_f1 : Chunk), ∃ (As20_f2 : Option Addr), ∃ (cs20_f2 : Nat), ∃ (Cs20_f2 : Chunk), L' = [(3, .pointer (some ⟨bR6, 0, none⟩)), (5, .pointer (some ⟨bp0e1, 0, none⟩)), (10, .slice (some ⟨bp0, 0, none⟩) 3 3), (11, .int .i64 3), (12, .int .i64 1), (20, .int .i64 1), (21, .bool true), (22, .bool true), (23, .pointer (some ⟨bp0e1, 0, none⟩)), (24, .pointer (some ⟨bp0e1, 0, none⟩)), (25, .pointer (some ⟨bp0e1, 0, none⟩)), (26, .slice Aa0e1_f0 a0e1.f0.length ca0e1_f0), (27, .int .i64 (a0e1.f0.length : Int)), (28, .pointer (some ⟨bR6, 0, none⟩)), (29, .pointer (some ⟨bR6, 0, none⟩)), (30, .pointer (some ⟨bR6, 0, none⟩)), (31, .slice AR6_0 t4.f0.length cR6_0), (32, .int .i64 (t4.f0.length : Int)), (33, .bool ((a0e1.f0.length : Int) != (t4.f0.length : Int))), (34, .bool ((a0e1.f0.length : Int) != (t4.f0.length : Int)))] ∧ G = G' ∧ [(bR6, .cells #[.slice As20_f0 s20.f0.length cs20_f0, .slice As20_f1 s20.f1.length cs20_f1, mpv As20_f2] 63 (0, 0))] :: Cs20_f0 :: Cs20_f1 :: Cs20_f2 :: CR6_0 :: [(bp0e0, .cells #[.slice Aa0e0_f0 a0e0.f0.length ca0e0_f0, .slice Aa0e0_f1 a0e0.f1.length ca0e0_f1, mpv Aa0e0_f2] 63 (0, 0))] :: Ca0e0_f0 :: Ca0e0_f1 :: Ca0e0_f2 :: [(bp0, .cells #[.pointer (some ⟨bp0e0, 0, none⟩), .pointer (some ⟨bp0e1, 0, none⟩), .pointer (some ⟨bp0e0, 0, none⟩)] 23 (0, 0))] :: [(bp0e1, .cells #[.slice Aa0e1_f0 a0e1.f0.length ca0e1_f0, .slice Aa0e1_f1 a0e1.f1.length ca0e1_f1, mpv Aa0e1_f2] 63 (0, 0))] :: Ca0e1_f0 :: Ca0e1_f1 :: Ca0e1_f2 :: Γ = Γ' ∧ Ow (kInt .i64) G As20_f0 cs20_f0 s20.f0 Cs20_f0 ∧ Ow (kInt .i64) G As20_f1 cs20_f1 s20.f1 Cs20_f1 ∧ MpF m61 G As20_f2 cs20_f2 s20.f2 Cs20_f2) ?_ ?_
      · clear hk21
        refine WP.block ?_
        refine WP.pick [3, 5, 10, 11, 12, 20, 21, 22, 23, 24, 25, 26, 27, 28, 29, 30, 31, 32, 33, 34, 57] ?_
        refine WP.loopF (fun kn24 L' G' Γ' => ∃ (y22 : List T30), ∃ (y23 : T63), state_Join_40_l0 a0e1 kn24 y22 y23 = some os20 ∧ ∃ (Cy22 : Chunk), ∃ (Ay23_f0 : Option Addr), ∃ (cy23_f0 : Nat), ∃ (Cy23_f0 : Chunk), ∃ (Ay23_f1 : Option Addr), ∃ (cy23_f1 : Nat), ∃ (Cy23_f1 : Chunk), ∃ (Ay23_f2 : Option Addr), ∃ (cy23_f2 : Nat), ∃ (Cy23_f2 : Chunk), L' = [(3, .pointer (some ⟨bR6, 0, none⟩)), (5, .pointer (some ⟨bp0e1, 0, none⟩)), (10, .slice (some ⟨bp0, 0, none⟩) 3 3), (11, .int .i64 3), (12, .int .i64 1), (20, .int .i64 1), (21, .bool true), (22, .bool true), (23, .pointer (some ⟨bp0e1, 0, none⟩)), (24, .pointer (some ⟨bp0e1, 0, none⟩)), (25, .pointer (some ⟨bp0e1, 0, none⟩)), (26, .slice Aa0e1_f0 a0e1.f0.length ca0e1_f0), (27, .int .i64 (a0e1.f0.length : Int)), (28, .pointer (some ⟨bR6, 0, none⟩)), (29, .pointer (some ⟨bR6, 0, none⟩)), (30, .pointer (some ⟨bR6, 0, none⟩)), (31, .slice AR6_0 t4.f0.length cR6_0), (32, .int .i64 (t4.f0.length : Int)), (33, .bool ((a0e1.f0.length : Int) != (t4.f0.length : Int))), (34, .bool ((a0e1.f0.length : Int) != (t4.f0.length : Int))), (57, .pointer (some ⟨it19, 0, none⟩))] ∧ G = G' ∧ [] :: Cy22 :: Cy23_f0 :: [(bR6, .cells #[.slice Ay23_f0 y23.f0.length cy23_f0, .slice Ay23_f1 y23.f1.length cy23_f1, mpv Ay23_f2] 63 (0, 0))] :: CR6_0 :: Cy23_f1 :: Cy23_f2 :: [(bp0e0, .cells #[.slice Aa0e0_f0 a0e0.f0.length ca0e0_f0, .slice Aa0e0_f1 a0e0.f1.length ca0e0_f1, mpv Aa0e0_f2] 63 (0, 0))] :: Ca0e0_f0 :: Ca0e0_f1 :: Ca0e0_f2 :: [(bp0, .cells #[.pointer (some ⟨bp0e0, 0, none⟩), .pointer (some ⟨bp0e1, 0, none⟩), .pointer (some ⟨bp0e0, 0, none⟩)] 23 (0, 0))] :: [(bp0e1, .cells #[.slice Aa0e1_f0 a0e1.f0.length ca0e1_f0, .slice Aa0e1_f1 a0e1.f1.length ca0e1_f1, mpv Aa0e1_f2] 63 (0, 0))] :: Ca0e1_f0 :: Ca0e1_f1 :: Ca0e1_f2 :: Γ = Γ' ∧ ItF m61 Aa0e1_f2 a0e1.f2 Ca0e1_f2 it19 y22 Cy22 ∧ Ow (kInt .i64) G Ay23_f0 cy23_f0 y23.f0 Cy23_f0 ∧ Ow (kInt .i64) G Ay23_f1 cy23_f1 y23.f1 Cy23_f1 ∧ MpF m61 G Ay23_f2 cy23_f2 y23.f2 Cy23_f2) ?_ k ⟨([] : List T30), (⟨t12, t4.f1, t4.f2⟩ : T63), h, Cit19, AR14, cR14, CR14, AR6_1, cR6_1, CR6_1, AR6_2, cR6_2, CR6_2, rfl, rfl, rfl, Hit19, HR14, HR6_1, HR6_2⟩
        clear h
        rintro kn25 _ _ _ ⟨y22, y23, h, Cy22, Ay23_f0, cy23_f0, Cy23_f0, Ay23_f1, cy23_f1, Cy23_f1, Ay23_f2, cy23_f2, Cy23_f2, rfl, rfl, rfl, Hy22, Hy23_f0, Hy23_f1, Hy23_f2⟩
        cases kn25 with
        | zero => exact absurd h (by simp [state_Join_40_l0])
        | succ kn25 =>
          simp only [state_Join_40_l0] at h
          refine WP.seqR ?_
          refine WL.op (op := .next (.tmp 57) false) (ty := 0) (d := some 58) (g := none) (by kernel_rfl) (by kernel_rfl) (by kernel_rfl) (Does.nextF Ha0e1_f2 Hy22 (i := 15) (j := 1) rfl rfl (by kernel_rfl)) ?_
          rintro _ _ _ (⟨rfl, hov, rfl, rfl⟩ | ⟨an26, en26, Cn26, rfl, hinn26, hnsn26, Hitn26, Hcurn26, rfl, rfl⟩)
          · rw [pickF_over hov] at h
            clear hov
            refine WL.restQ 1 [3, 5, 10, 11, 12, 20, 21, 22, 23, 24, 25, 26, 27, 28, 29, 30, 31, 32, 33, 34, 57, 59] (L' := [(3, .pointer (some ⟨bR6, 0, none⟩)), (5, .pointer (some ⟨bp0e1, 0, none⟩)), (10, .slice (some ⟨bp0, 0, none⟩) 3 3), (11, .int .i64 3), (12, .int .i64 1), (20, .int .i64 1), (21, .bool true), (22, .bool true), (23, .pointer (some ⟨bp0e1, 0, none⟩)), (24, .pointer (some ⟨bp0e1, 0, none⟩)), (25, .pointer (some ⟨bp0e1, 0, none⟩)), (26, .slice Aa0e1_f0 a0e1.f0.length ca0e1_f0), (27, .int .i64 (a0e1.f0.length : Int)), (28, .pointer (some ⟨bR6, 0, none⟩)), (29, .pointer (some ⟨bR6, 0, none⟩)), (30, .pointer (some ⟨bR6, 0, none⟩)), (31, .slice AR6_0 t4.f0.length cR6_0), (32, .int .i64 (t4.f0.length : Int)), (33, .bool ((a0e1.f0.length : Int) != (t4.f0.length : Int))), (34, .bool ((a0e1.f0.length : Int) != (t4.f0.length : Int))), (57, .pointer (some ⟨it19, 0, none⟩)), (59, .bool false)]) (by kernel_rfl) ?_
            refine WP.seq ?_
            refine WP.no (by kernel_rfl) ?_
            refine WP.exit ?_
            refine QP.thenE ?_
            refine QP.thenE ?_
            refine QP.blockE ?_
            refine QP.dropAt 1 ?_
            refine QP.dropAt 0 ?_
            refine QP.reperm (Γ' := [(bR6, .cells #[.slice Ay23_f0 y23.f0.length cy23_f0, .slice Ay23_f1 y23.f1.length cy23_f1, mpv Ay23_f2] 63 (0, 0))] :: Cy23_f0 :: Cy23_f1 :: Cy23_f2 :: CR6_0 :: [(bp0e0, .cells #[.slice Aa0e0_f0 a0e0.f0.length ca0e0_f0, .slice Aa0e0_f1 a0e0.f1.length ca0e0_f1, mpv Aa0e0_f2] 63 (0, 0))] :: Ca0e0_f0 :: Ca0e0_f1 :: Ca0e0_f2 :: [(bp0, .cells #[.pointer (some ⟨bp0e0, 0, none⟩), .pointer (some ⟨bp0e1, 0, none⟩), .pointer (some ⟨bp0e0, 0, none⟩)] 23 (0, 0))] :: [(bp0e1, .cells #[.slice Aa0e1_f0 a0e1.f0.length ca0e1_f0, .slice Aa0e1_f1 a0e1.f1.length ca0e1_f1, mpv Aa0e1_f2] 63 (0, 0))] :: Ca0e1_f0 :: Ca0e1_f1 :: Ca0e1_f2 :: Γ) (perm_sel [1, 0, 3, 4, 2] (by kernel_rfl) rfl) ?_
            refine QP.pick [3, 5, 10, 11, 12, 20, 21, 22, 23, 24, 25, 26, 27, 28, 29, 30, 31, 32, 33, 34] ?_
            exact QP.meet ⟨_, Option.some.inj h, Ay23_f0, cy23_f0, Cy23_f0, Ay23_f1, cy23_f1, Cy23_f1, Ay23_f2, cy23_f2, Cy23_f2, rfl, rfl, rfl, Hy23_f0, Hy23_f1, Hy23_f2⟩
          · replace h := pickF_pick h hinn26 hnsn26
            refine WL.restQ 1 [3, 5, 10, 11, 12, 20, 21, 22, 23, 24, 25, 26, 27, 28, 29, 30, 31, 32, 33, 34, 57, 59] (L' := [(3, .pointer (some ⟨bR6, 0, none⟩)), (5, .pointer (some ⟨bp0e1, 0, none⟩)), (10, .slice (some ⟨bp0, 0, none⟩) 3 3), (11, .int .i64 3), (12, .int .i64 1), (20, .int .i64 1), (21, .bool true), (22, .bool true), (23, .pointer (some ⟨bp0e1, 0, none⟩)), (24, .pointer (some ⟨bp0e1, 0, none⟩)), (25, .pointer (some ⟨bp0e1, 0, none⟩)), (26, .slice Aa0e1_f0 a0e1.f0.length ca0e1_f0), (27, .int .i64 (a0e1.f0.length : Int)), (28, .pointer (some ⟨bR6, 0, none⟩)), (29, .pointer (some ⟨bR6, 0, none⟩)), (30, .pointer (some ⟨bR6, 0, none⟩)), (31, .slice AR6_0 t4.f0.length cR6_0), (32, .int .i64 (t4.f0.length : Int)), (33, .bool ((a0e1.f0.length : Int) != (t4.f0.length : Int))), (34, .bool ((a0e1.f0.length : Int) != (t4.f0.length : Int))), (57, .pointer (some ⟨it19, 0, none⟩)), (59, .bool true)]) (by kernel_rfl) ?_
            refine WP.seq ?_
            refine WP.yes (by kernel_rfl) ?_
            refine WP.skip ?_
            refine QP.next ?_
            refine WP.pick [3, 5, 10, 11, 12, 20, 21, 22, 23, 24, 25, 26, 27, 28, 29, 30, 31, 32, 33, 34, 57] ?_
            refine WP.block ?_
            refine WP.seqR ?_
            refine WL.tell (op := .entry (.tmp 57)) (ty := 0) (d := some 60) (g := none) (by kernel_rfl) (by kernel_rfl) (by kernel_rfl) (Tells.entryF Hitn26 Hcurn26 (i := 15) (j := 1) rfl rfl (by kernel_rfl)) ?_
            refine WL.pure 1 3 [3, 5, 10, 11, 12, 20, 21, 22, 23, 24, 25, 26, 27, 28, 29, 30, 31, 32, 33, 34, 57, 61, 62] (L' := [(3, .pointer (some ⟨bR6, 0, none⟩)), (5, .pointer (some ⟨bp0e1, 0, none⟩)), (10, .slice (some ⟨bp0, 0, none⟩) 3 3), (11, .int .i64 3), (12, .int .i64 1), (20, .int .i64 1), (21, .bool true), (22, .bool true), (23, .pointer (some ⟨bp0e1, 0, none⟩)), (24, .pointer (some ⟨bp0e1, 0, none⟩)), (25, .pointer (some ⟨bp0e1, 0, none⟩)), (26, .slice Aa0e1_f0 a0e1.f0.length ca0e1_f0), (27, .int .i64 (a0e1.f0.length : Int)), (28, .pointer (some ⟨bR6, 0, none⟩)), (29, .pointer (some ⟨bR6, 0, none⟩)), (30, .pointer (some ⟨bR6, 0, none⟩)), (31, .slice AR6_0 t4.f0.length cR6_0), (32, .int .i64 (t4.f0.length : Int)), (33, .bool ((a0e1.f0.length : Int) != (t4.f0.length : Int))), (34, .bool ((a0e1.f0.length : Int) != (t4.f0.length : Int))), (57, .pointer (some ⟨it19, 0, none⟩)), (61, .agg #[.int .i64 an26.f0, .int .i64 an26.f1]), (62, .agg #[.int .i64 en26.f0, .int .i64 en26.f1, .int .i64 en26.f2, .int .i64 en26.f3, .string en26.f4])]) (by kernel_rfl) (by decide) ?_
            refine WL.op (op := .alloc 30) (ty := 0) (d := some 6) (g := none) (by kernel_rfl) (by kernel_rfl) (by kernel_rfl) (Does.new (o := .cells #[.int .i64 0, .int .i64 0] 30 (0, 0)) (v := fun r => .pointer (some ⟨r, 0, none⟩)) (fun r => by kernel_rfl)) ?_
            rintro _ _ _ ⟨b27, rfl, rfl, rfl⟩
            refine WL.op (op := .alloc 34) (ty := 0) (d := some 7) (g := none) (by kernel_rfl) (by kernel_rfl) (by kernel_rfl) (Does.new (o := .cells #[.int .i64 0, .int .i64 0, .int .i64 0, .int .i64 0, .string (⟨#[]⟩ : ByteArray)] 34 (0, 0)) (v := fun r => .pointer (some ⟨r, 0, none⟩)) (fun r => by kernel_rfl)) ?_
            rintro _ _ _ ⟨b28, rfl, rfl, rfl⟩
            refine WL.op (op := .store 30 (.tmp 6) (.tmp 61)) (ty := 0) (d := none) (g := none) (by kernel_rfl) (by kernel_rfl) (by kernel_rfl) (Does.store_box (i := 1) (b := b27) (o := 0) (v := .agg #[.int .i64 an26.f0, .int .i64 an26.f1]) (by rfl) sz30 (by kernel_rfl) (by kernel_rfl) (by kernel_rfl) (Free.zero _) (Nat.le_of_ble_eq_true rfl) (cells' := #[.int .i64 an26.f0, .int .i64 an26.f1]) (by kernel_rfl)) ?_
            rintro _ _ _ ⟨rfl, rfl, rfl⟩
            refine WL.op (op := .store 34 (.tmp 7) (.tmp 62)) (ty := 0) (d := none) (g := none) (by kernel_rfl) (by kernel_rfl) (by kernel_rfl) (Does.store_box (i := 0) (b := b28) (o := 0) (v := .agg #[.int .i64 en26.f0, .int .i64 en26.f1, .int .i64 en26.f2, .int .i64 en26.f3, .string en26.f4]) (by rfl) sz34 (by kernel_rfl) (by kernel_rfl) (by kernel_rfl) (Free.zero _) (Nat.le_of_ble_eq_true rfl) (cells' := #[.int .i64 en26.f0, .int .i64 en26.f1, .int .i64 en26.f2, .int .i64 en26.f3, .string en26.f4]) (by kernel_rfl)) ?_
            rintro _ _ _ ⟨rfl, rfl, rfl⟩
            refine WL.restQ 7 [3, 5, 6, 7, 10, 11, 12, 20, 21, 22, 23, 24, 25, 26, 27, 28, 29, 30, 31, 32, 33, 34, 57] (L' := [(3, .pointer (some ⟨bR6, 0, none⟩)), (5, .pointer (some ⟨bp0e1, 0, none⟩)), (6, .pointer (some ⟨b27, 0, none⟩)), (7, .pointer (some ⟨b28, 0, none⟩)), (10, .slice (some ⟨bp0, 0, none⟩) 3 3), (11, .int .i64 3), (12, .int .i64 1), (20, .int .i64 1), (21, .bool true), (22, .bool true), (23, .pointer (some ⟨bp0e1, 0, none⟩)), (24, .pointer (some ⟨bp0e1, 0, none⟩)), (25, .pointer (some ⟨bp0e1, 0, none⟩)), (26, .slice Aa0e1_f0 a0e1.f0.length ca0e1_f0), (27, .int .i64 (a0e1.f0.length : Int)), (28, .pointer (some ⟨bR6, 0, none⟩)), (29, .pointer (some ⟨bR6, 0, none⟩)), (30, .pointer (some ⟨bR6, 0, none⟩)), (31, .slice AR6_0 t4.f0.length cR6_0), (32, .int .i64 (t4.f0.length : Int)), (33, .bool ((a0e1.f0.length : Int) != (t4.f0.length : Int))), (34, .bool ((a0e1.f0.length : Int) != (t4.f0.length : Int))), (57, .pointer (some ⟨it19, 0, none⟩))]) (by kernel_rfl) ?_
            refine WP.seq ?_
            refine WP.any (N := 12) (S := [⟨some 64, [3], []⟩, ⟨some 65, [64], [0]⟩, ⟨some 66, [65], [1]⟩, ⟨some 67, [66], [2]⟩, ⟨some 68, [6], []⟩, ⟨some 69, [67, 68], [3, 4]⟩, ⟨some 63, [69], [5]⟩, ⟨some 70, [63], [6]⟩, ⟨some 71, [63], [6]⟩, ⟨some 8, [], []⟩, ⟨none, [8, 70], [0, 1, 2, 3, 4, 5, 6, 7, 9]⟩, ⟨some 9, [71], [0, 1, 2, 3, 4, 5, 6, 7, 8, 9, 10]⟩]) (kw := 10) (G0 := G) (Γ0 := [(b28, .cells #[.int .i64 en26.f0, .int .i64 en26.f1, .int .i64 en26.f2, .int .i64 en26.f3, .string en26.f4] 34 (0, 0))] :: [(b27, .cells #[.int .i64 an26.f0, .int .i64 an26.f1] 30 (0, 0))] :: [] :: Cn26 :: Cy23_f0 :: [(bR6, .cells #[.slice Ay23_f0 y23.f0.length cy23_f0, .slice Ay23_f1 y23.f1.length cy23_f1, mpv Ay23_f2] 63 (0, 0))] :: CR6_0 :: Cy23_f1 :: Cy23_f2 :: [(bp0e0, .cells #[.slice Aa0e0_f0 a0e0.f0.length ca0e0_f0, .slice Aa0e0_f1 a0e0.f1.length ca0e0_f1, mpv Aa0e0_f2] 63 (0, 0))] :: Ca0e0_f0 :: Ca0e0_f1 :: Ca0e0_f2 :: [(bp0, .cells #[.pointer (some ⟨bp0e0, 0, none⟩), .pointer (some ⟨bp0e1, 0, none⟩), .pointer (some ⟨bp0e0, 0, none⟩)] 23 (0, 0))] :: [(bp0e1, .cells #[.slice Aa0e1_f0 a0e1.f0.length ca0e1_f0, .slice Aa0e1_f1 a0e1.f1.length ca0e1_f1, mpv Aa0e1_f2] 63 (0, 0))] :: Ca0e1_f0 :: Ca0e1_f1 :: Ca0e1_f2 :: Γ) mo (by kernel_rfl) (fun hS => ?_)
            refine WA.pure [0, 1, 2] [3, 5, 6, 7, 10, 11, 12, 20, 21, 22, 23, 24, 25, 26, 27, 28, 29, 30, 31, 32, 33, 34, 57, 66] (m := 9) (b' := 7) (L' := [(3, .pointer (some ⟨bR6, 0, none⟩)), (5, .pointer (some ⟨bp0e1, 0, none⟩)), (6, .pointer (some ⟨b27, 0, none⟩)), (7, .pointer (some ⟨b28, 0, none⟩)), (10, .slice (some ⟨bp0, 0, none⟩) 3 3), (11, .int .i64 3), (12, .int .i64 1), (20, .int .i64 1), (21, .bool true), (22, .bool true), (23, .pointer (some ⟨bp0e1, 0, none⟩)), (24, .pointer (some ⟨bp0e1, 0, none⟩)), (25, .pointer (some ⟨bp0e1, 0, none⟩)), (26, .slice Aa0e1_f0 a0e1.f0.length ca0e1_f0), (27, .int .i64 (a0e1.f0.length : Int)), (28, .pointer (some ⟨bR6, 0, none⟩)), (29, .pointer (some ⟨bR6, 0, none⟩)), (30, .pointer (some ⟨bR6, 0, none⟩)), (31, .slice AR6_0 t4.f0.length cR6_0), (32, .int .i64 (t4.f0.length : Int)), (33, .bool ((a0e1.f0.length : Int) != (t4.f0.length : Int))), (34, .bool ((a0e1.f0.length : Int) != (t4.f0.length : Int))), (57, .pointer (some ⟨it19, 0, none⟩)), (66, .pointer (some ⟨bR6, 2, none⟩))]) (by kernel_rfl) (NoPanic.then (NoPanic.block (NoPanic.then (NoPanic.block (NoPanic.then (NoPanic.then (NoPanic.block (NoPanic.then (NoPanic.then (NoPanic.block (NoPanic.then (NoPanic.then (NoPanic.body))))))))))))) Under.refl hS (by kernel_rfl) ?_
            refine WA.tellD [10] (i := 3) (m := 8) (b' := 15) (by kernel_rfl) (NoPanic.then (NoPanic.block (NoPanic.then (NoPanic.block (NoPanic.then (NoPanic.then (NoPanic.block (NoPanic.then (NoPanic.then (NoPanic.block (NoPanic.then (NoPanic.then (NoPanic.body))))))))))))) Under.refl hS (by kernel_rfl) (op := .load 61 (.tmp 66)) (ty := 61) (d := some 67) (g := none) (by kernel_rfl) (by kernel_rfl) (by kernel_rfl) (Tells.load_box (i := 5) (b := bR6) (o := 2) (agg := false) (by rfl) ag61 (by kernel_rfl) (fun _ => rfl) (Nat.le_of_ble_eq_true rfl) (v := mpv Ay23_f2) (by kernel_rfl)) ?_
            refine WA.tellD [10] (i := 4) (m := 7) (b' := 31) (by kernel_rfl) (NoPanic.then (NoPanic.block (NoPanic.then (NoPanic.block (NoPanic.then (NoPanic.then (NoPanic.block (NoPanic.then (NoPanic.then (NoPanic.block (NoPanic.then (NoPanic.then (NoPanic.body))))))))))))) Under.refl hS (by kernel_rfl) (op := .load 30 (.tmp 6)) (ty := 30) (d := some 68) (g := none) (by kernel_rfl) (by kernel_rfl) (by kernel_rfl) (Tells.load_box (i := 1) (b := b27) (o := 0) (agg := true) (by rfl) ag30 (by kernel_rfl) (fun h => by cases h) (Nat.le_of_ble_eq_true rfl) (v := .agg #[.int .i64 an26.f0, .int .i64 an26.f1]) (by kernel_rfl)) ?_
            refine WA.tellD [10] (i := 5) (m := 6) (b' := 63) (by kernel_rfl) (NoPanic.then (NoPanic.block (NoPanic.then (NoPanic.block (NoPanic.then (NoPanic.then (NoPanic.block (NoPanic.then (NoPanic.then (NoPanic.block (NoPanic.then (NoPanic.then (NoPanic.body))))))))))))) Under.refl hS (by kernel_rfl) (op := .lookup 61 (.tmp 67) (.tmp 68) true) (ty := 73) (d := some 69) (g := none) (by kernel_rfl) (by kernel_rfl) (by kernel_rfl) (Tells.lookupOkF mt61 ko61 Hy23_f2 (i := 8) rfl (a := an26) (z := z34) (by kernel_rfl) (by kernel_rfl) mz61) ?_
            refine WA.pure [6, 7, 8] [3, 5, 6, 7, 10, 11, 12, 20, 21, 22, 23, 24, 25, 26, 27, 28, 29, 30, 31, 32, 33, 34, 57, 70, 71] (m := 3) (b' := 511) (L' := [(3, .pointer (some ⟨bR6, 0, none⟩)), (5, .pointer (some ⟨bp0e1, 0, none⟩)), (6, .pointer (some ⟨b27, 0, none⟩)), (7, .pointer (some ⟨b28, 0, none⟩)), (10, .slice (some ⟨bp0, 0, none⟩) 3 3), (11, .int .i64 3), (12, .int .i64 1), (20, .int .i64 1), (21, .bool true), (22, .bool true), (23, .pointer (some ⟨bp0e1, 0, none⟩)), (24, .pointer (some ⟨bp0e1, 0, none⟩)), (25, .pointer (some ⟨bp0e1, 0, none⟩)), (26, .slice Aa0e1_f0 a0e1.f0.length ca0e1_f0), (27, .int .i64 (a0e1.f0.length : Int)), (28, .pointer (some ⟨bR6, 0, none⟩)), (29, .pointer (some ⟨bR6, 0, none⟩)), (30, .pointer (some ⟨bR6, 0, none⟩)), (31, .slice AR6_0 t4.f0.length cR6_0), (32, .int .i64 (t4.f0.length : Int)), (33, .bool ((a0e1.f0.length : Int) != (t4.f0.length : Int))), (34, .bool ((a0e1.f0.length : Int) != (t4.f0.length : Int))), (57, .pointer (some ⟨it19, 0, none⟩)), (70, .agg #[.int .i64 (((y23.f2 an26).getD z34).f0), .int .i64 (((y23.f2 an26).getD z34).f1), .int .i64 (((y23.f2 an26).getD z34).f2), .int .i64 (((y23.f2 an26).getD z34).f3), .string (((y23.f2 an26).getD z34).f4)]), (71, .bool ((y23.f2 an26).isSome))]) (by kernel_rfl) (NoPanic.then (NoPanic.block (NoPanic.then (NoPanic.block (NoPanic.then (NoPanic.then (NoPanic.block (NoPanic.then (NoPanic.then (NoPanic.block (NoPanic.then (NoPanic.then (NoPanic.body))))))))))))) Under.refl hS (by kernel_rfl) ?_
            refine WA.op (i := 9) (m := 2) (b' := 1023) (by kernel_rfl) hS (by kernel_rfl) (op := .alloc 34) (ty := 0) (d := some 8) (g := none) (by kernel_rfl) (by kernel_rfl) (by kernel_rfl) (Does.new (o := .cells #[.int .i64 0, .int .i64 0, .int .i64 0, .int .i64 0, .string (⟨#[]⟩ : ByteArray)] 34 (0, 0)) (v := fun r => .pointer (some ⟨r, 0, none⟩)) (fun r => by kernel_rfl)) ?_
            rintro _ _ _ ⟨b29, rfl, rfl, rfl⟩
            refine ⟨_, _, Under.cons Under.refl, Under.refl, ?_⟩
            refine WA.opK (i := 10) (kw' := 12) (m := 1) (b' := 2047) (by kernel_rfl) rfl hS (by kernel_rfl) (op := .store 34 (.tmp 8) (.tmp 70)) (ty := 0) (d := none) (g := none) (by kernel_rfl) (by kernel_rfl) (by kernel_rfl) (Does.store_box (i := 0) (b := b29) (o := 0) (v := .agg #[.int .i64 (((y23.f2 an26).getD z34).f0), .int .i64 (((y23.f2 an26).getD z34).f1), .int .i64 (((y23.f2 an26).getD z34).f2), .int .i64 (((y23.f2 an26).getD z34).f3), .string (((y23.f2 an26).getD z34).f4)]) (by rfl) sz34 (by kernel_rfl) (by kernel_rfl) (by kernel_rfl) (Free.zero _) (Nat.le_of_ble_eq_true rfl) (cells' := #[.int .i64 (((y23.f2 an26).getD z34).f0), .int .i64 (((y23.f2 an26).getD z34).f1), .int .i64 (((y23.f2 an26).getD z34).f2), .int .i64 (((y23.f2 an26).getD z34).f3), .string (((y23.f2 an26).getD z34).f4)]) (by kernel_rfl)) ?_
            rintro _ _ _ ⟨rfl, rfl, rfl⟩
            refine ⟨_, _, Under.refl, ?_⟩
            refine WA.pure [11] [3, 5, 6, 7, 9, 10, 11, 12, 20, 21, 22, 23, 24, 25, 26, 27, 28, 29, 30, 31, 32, 33, 34, 57] (m := 0) (b' := 4095) (L' := [(3, .pointer (some ⟨bR6, 0, none⟩)), (5, .pointer (some ⟨bp0e1, 0, none⟩)), (6, .pointer (some ⟨b27, 0, none⟩)), (7, .pointer (some ⟨b28, 0, none⟩)), (9, .bool ((y23.f2 an26).isSome)), (10, .slice (some ⟨bp0, 0, none⟩) 3 3), (11, .int .i64 3), (12, .int .i64 1), (20, .int .i64 1), (21, .bool true), (22, .bool true), (23, .pointer (some ⟨bp0e1, 0, none⟩)), (24, .pointer (some ⟨bp0e1, 0, none⟩)), (25, .pointer (some ⟨bp0e1, 0, none⟩)), (26, .slice Aa0e1_f0 a0e1.f0.length ca0e1_f0), (27, .int .i64 (a0e1.f0.length : Int)), (28, .pointer (some ⟨bR6, 0, none⟩)), (29, .pointer (some ⟨bR6, 0, none⟩)), (30, .pointer (some ⟨bR6, 0, none⟩)), (31, .slice AR6_0 t4.f0.length cR6_0), (32, .int .i64 (t4.f0.length : Int)), (33, .bool ((a0e1.f0.length : Int) != (t4.f0.length : Int))), (34, .bool ((a0e1.f0.length : Int) != (t4.f0.length : Int))), (57, .pointer (some ⟨it19, 0, none⟩))]) (by kernel_rfl) (NoPanic.then (NoPanic.block (NoPanic.then (NoPanic.block (NoPanic.then (NoPanic.then (NoPanic.block (NoPanic.then (NoPanic.then (NoPanic.block (NoPanic.then (NoPanic.then (NoPanic.body))))))))))))) Under.refl hS (by kernel_rfl) ?_
            refine WA.done hS (by kernel_rfl) ?_
            refine QP.pick [3, 5, 6, 7, 9, 10, 11, 12, 20, 21, 22, 23, 24, 25, 26, 27, 28, 29, 30, 31, 32, 33, 34, 57] ?_
            refine QP.next ?_
            refine WP.dropAt 0 ?_
            refine WP.seqP [3, 5, 6, 7, 10, 11, 12, 20, 21, 22, 23, 24, 25, 26, 27, 28, 29, 30, 31, 32, 33, 34, 57, 73] (L' := [(3, .pointer (some ⟨bR6, 0, none⟩)), (5, .pointer (some ⟨bp0e1, 0, none⟩)), (6, .pointer (some ⟨b27, 0, none⟩)), (7, .pointer (some ⟨b28, 0, none⟩)), (10, .slice (some ⟨bp0, 0, none⟩) 3 3), (11, .int .i64 3), (12, .int .i64 1), (20, .int .i64 1), (21, .bool true), (22, .bool true), (23, .pointer (some ⟨bp0e1, 0, none⟩)), (24, .pointer (some ⟨bp0e1, 0, none⟩)), (25, .pointer (some ⟨bp0e1, 0, none⟩)), (26, .slice Aa0e1_f0 a0e1.f0.length ca0e1_f0), (27, .int .i64 (a0e1.f0.length : Int)), (28, .pointer (some ⟨bR6, 0, none⟩)), (29, .pointer (some ⟨bR6, 0, none⟩)), (30, .pointer (some ⟨bR6, 0, none⟩)), (31, .slice AR6_0 t4.f0.length cR6_0), (32, .int .i64 (t4.f0.length : Int)), (33, .bool ((a0e1.f0.length : Int) != (t4.f0.length : Int))), (34, .bool ((a0e1.f0.length : Int) != (t4.f0.length : Int))), (57, .pointer (some ⟨it19, 0, none⟩)), (73, .bool (!((y23.f2 an26).isSome)))]) (by kernel_rfl) ?_
            refine WP.cond (b := (!((y23.f2 an26).isSome))) (by kernel_rfl) (fun hc => ?_) (fun hc => ?_)
            · replace hc := hc
              rw [if_pos hc] at h
              have hc30 := hc
              clear hc
              skip
              refine WP.any (N := 7) (S := [⟨some 74, [3], []⟩, ⟨some 75, [74], [0]⟩, ⟨some 76, [75], [1]⟩, ⟨some 77, [76], [2]⟩, ⟨some 78, [6], []⟩, ⟨some 79, [7], []⟩, ⟨none, [77, 78, 79], [0, 1, 2, 3, 4, 5]⟩]) (kw := 6) (G0 := G) (Γ0 := [(b28, .cells #[.int .i64 en26.f0, .int .i64 en26.f1, .int .i64 en26.f2, .int .i64 en26.f3, .string en26.f4] 34 (0, 0))] :: [(b27, .cells #[.int .i64 an26.f0, .int .i64 an26.f1] 30 (0, 0))] :: [] :: Cn26 :: Cy23_f0 :: [(bR6, .cells #[.slice Ay23_f0 y23.f0.length cy23_f0, .slice Ay23_f1 y23.f1.length cy23_f1, mpv Ay23_f2] 63 (0, 0))] :: CR6_0 :: Cy23_f1 :: Cy23_f2 :: [(bp0e0, .cells #[.slice Aa0e0_f0 a0e0.f0.length ca0e0_f0, .slice Aa0e0_f1 a0e0.f1.length ca0e0_f1, mpv Aa0e0_f2] 63 (0, 0))] :: Ca0e0_f0 :: Ca0e0_f1 :: Ca0e0_f2 :: [(bp0, .cells #[.pointer (some ⟨bp0e0, 0, none⟩), .pointer (some ⟨bp0e1, 0, none⟩), .pointer (some ⟨bp0e0, 0, none⟩)] 23 (0, 0))] :: [(bp0e1, .cells #[.slice Aa0e1_f0 a0e1.f0.length ca0e1_f0, .slice Aa0e1_f1 a0e1.f1.length ca0e1_f1, mpv Aa0e1_f2] 63 (0, 0))] :: Ca0e1_f0 :: Ca0e1_f1 :: Ca0e1_f2 :: Γ) mo (by kernel_rfl) (fun hS => ?_)
              refine WA.pure [0, 1, 2] [3, 5, 6, 7, 10, 11, 12, 20, 21, 22, 23, 24, 25, 26, 27, 28, 29, 30, 31, 32, 33, 34, 57, 76] (m := 4) (b' := 7) (L' := [(3, .pointer (some ⟨bR6, 0, none⟩)), (5, .pointer (some ⟨bp0e1, 0, none⟩)), (6, .pointer (some ⟨b27, 0, none⟩)), (7, .pointer (some ⟨b28, 0, none⟩)), (10, .slice (some ⟨bp0, 0, none⟩) 3 3), (11, .int .i64 3), (12, .int .i64 1), (20, .int .i64 1), (21, .bool true), (22, .bool true), (23, .pointer (some ⟨bp0e1, 0, none⟩)), (24, .pointer (some ⟨bp0e1, 0, none⟩)), (25, .pointer (some ⟨bp0e1, 0, none⟩)), (26, .slice Aa0e1_f0 a0e1.f0.length ca0e1_f0), (27, .int .i64 (a0e1.f0.length : Int)), (28, .pointer (some ⟨bR6, 0, none⟩)), (29, .pointer (some ⟨bR6, 0, none⟩)), (30, .pointer (some ⟨bR6, 0, none⟩)), (31, .slice AR6_0 t4.f0.length cR6_0), (32, .int .i64 (t4.f0.length : Int)), (33, .bool ((a0e1.f0.length : Int) != (t4.f0.length : Int))), (34, .bool ((a0e1.f0.length : Int) != (t4.f0.length : Int))), (57, .pointer (some ⟨it19, 0, none⟩)), (76, .pointer (some ⟨bR6, 2, none⟩))]) (by kernel_rfl) (NoPanic.block (NoPanic.then (NoPanic.block (NoPanic.then (NoPanic.then (NoPanic.block (NoPanic.then (NoPanic.then (NoPanic.block (NoPanic.then (NoPanic.then (NoPanic.body)))))))))))) Under.refl hS (by kernel_rfl) ?_
              refine WA.tellD [6] (i := 3) (m := 3) (b' := 15) (by kernel_rfl) (NoPanic.block (NoPanic.then (NoPanic.block (NoPanic.then (NoPanic.then (NoPanic.block (NoPanic.then (NoPanic.then (NoPanic.block (NoPanic.then (NoPanic.then (NoPanic.body)))))))))))) Under.refl hS (by kernel_rfl) (op := .load 61 (.tmp 76)) (ty := 61) (d := some 77) (g := none) (by kernel_rfl) (by kernel_rfl) (by kernel_rfl) (Tells.load_box (i := 5) (b := bR6) (o := 2) (agg := false) (by rfl) ag61 (by kernel_rfl) (fun _ => rfl) (Nat.le_of_ble_eq_true rfl) (v := mpv Ay23_f2) (by kernel_rfl)) ?_
              refine WA.tellD [6] (i := 4) (m := 2) (b' := 31) (by kernel_rfl) (NoPanic.block (NoPanic.then (NoPanic.block (NoPanic.then (NoPanic.then (NoPanic.block (NoPanic.then (NoPanic.then (NoPanic.block (NoPanic.then (NoPanic.then (NoPanic.body)))))))))))) Under.refl hS (by kernel_rfl) (op := .load 30 (.tmp 6)) (ty := 30) (d := some 78) (g := none) (by kernel_rfl) (by kernel_rfl) (by kernel_rfl) (Tells.load_box (i := 1) (b := b27) (o := 0) (agg := true) (by rfl) ag30 (by kernel_rfl) (fun h => by cases h) (Nat.le_of_ble_eq_true rfl) (v := .agg #[.int .i64 an26.f0, .int .i64 an26.f1]) (by kernel_rfl)) ?_
              refine WA.tellD [6] (i := 5) (m := 1) (b' := 63) (by kernel_rfl) (NoPanic.block (NoPanic.then (NoPanic.block (NoPanic.then (NoPanic.then (NoPanic.block (NoPanic.then (NoPanic.then (NoPanic.block (NoPanic.then (NoPanic.then (NoPanic.body)))))))))))) Under.refl hS (by kernel_rfl) (op := .load 34 (.tmp 7)) (ty := 34) (d := some 79) (g := none) (by kernel_rfl) (by kernel_rfl) (by kernel_rfl) (Tells.load_box (i := 0) (b := b28) (o := 0) (agg := true) (by rfl) ag34 (by kernel_rfl) (fun h => by cases h) (Nat.le_of_ble_eq_true rfl) (v := .agg #[.int .i64 en26.f0, .int .i64 en26.f1, .int .i64 en26.f2, .int .i64 en26.f3, .string en26.f4]) (by kernel_rfl)) ?_
              refine WA.opK (i := 6) (kw' := 7) (m := 0) (b' := 127) (by kernel_rfl) rfl hS (by kernel_rfl) (op := .mapUpdate 61 (.tmp 77) (.tmp 78) (.tmp 79)) (ty := 0) (d := none) (g := none) (by kernel_rfl) (by kernel_rfl) (by kernel_rfl) (Does.mapPutF mt61 ko61 Hy23_f2 (i := 8) rfl (a := an26) (v := en26) (by kernel_rfl) (by kernel_rfl) (by kernel_rfl)) ?_
              rintro _ _ _ ⟨rfl, rfl, CN31, HN31, rfl⟩
              refine ⟨_, _, Under.refl, ?_⟩
              refine WA.done hS (by kernel_rfl) ?_
              refine QP.pick [3, 5, 10, 11, 12, 20, 21, 22, 23, 24, 25, 26, 27, 28, 29, 30, 31, 32, 33, 34, 57] ?_
              refine QP.blockN ?_
              refine QP.dropAt 1 ?_
              refine QP.dropAt 0 ?_
              refine QP.pick [3, 5, 10, 11, 12, 20, 21, 22, 23, 24, 25, 26, 27, 28, 29, 30, 31, 32, 33, 34, 57] ?_
              exact QP.meet ⟨kn25, Nat.lt_succ_self _, (an26 :: y22), (⟨y23.f0, y23.f1, (fput y23.f2 an26 en26)⟩ : T63), h, Cn26, Ay23_f0, cy23_f0, Cy23_f0, Ay23_f1, cy23_f1, Cy23_f1, Ay23_f2, cy23_f2, CN31, rfl, rfl, rfl, Hitn26, Hy23_f0, Hy23_f1, HN31⟩
            · replace hc := (Bool.eq_false_iff.1 hc)
              rw [if_neg hc] at h
              have hc30 := hc
              clear hc
              refine WP.skip ?_
              refine QP.blockN ?_
              refine QP.dropAt 1 ?_
              refine QP.dropAt 0 ?_
              refine QP.pick [3, 5, 10, 11, 12, 20, 21, 22, 23, 24, 25, 26, 27, 28, 29, 30, 31, 32, 33, 34, 57] ?_
              exact QP.meet ⟨kn25, Nat.lt_succ_self _, (an26 :: y22), y23, h, Cn26, Ay23_f0, cy23_f0, Cy23_f0, Ay23_f1, cy23_f1, Cy23_f1, Ay23_f2, cy23_f2, Cy23_f2, rfl, rfl, rfl, Hitn26, Hy23_f0, Hy23_f1, Hy23_f2⟩
      · rintro _ _ _ ⟨s20, rfl, As20_f0, cs20_f0, Cs20_f0, As20_f1, cs20_f1, Cs20_f1, As20_f2, cs20_f2, Cs20_f2, rfl, rfl, rfl, Hs20_f0, Hs20_f1, Hs20_f2⟩
        clear h
        replace h := hk21
        refine QP.next ?_
        refine WP.pick [3, 5, 10, 11, 12, 20, 21, 22, 23, 24, 25, 26, 27, 28, 29, 30, 31, 32, 33, 34] ?_
        refine WP.region ?_
        refine WL.pure 0 4 [3, 10, 11, 12, 20, 21, 22, 23, 24, 25, 26, 27, 28, 29, 30, 31, 32, 33, 34, 80, 83] (L' := [(3, .pointer (some ⟨bR6, 0, none⟩)), (10, .slice (some ⟨bp0, 0, none⟩) 3 3), (11, .int .i64 3), (12, .int .i64 1), (20, .int .i64 1), (21, .bool true), (22, .bool true), (23, .pointer (some ⟨bp0e1, 0, none⟩)), (24, .pointer (some ⟨bp0e1, 0, none⟩)), (25, .pointer (some ⟨bp0e1, 0, none⟩)), (26, .slice Aa0e1_f0 a0e1.f0.length ca0e1_f0), (27, .int .i64 (a0e1.f0.length : Int)), (28, .pointer (some ⟨bR6, 0, none⟩)), (29, .pointer (some ⟨bR6, 0, none⟩)), (30, .pointer (some ⟨bR6, 0, none⟩)), (31, .slice AR6_0 t4.f0.length cR6_0), (32, .int .i64 (t4.f0.length : Int)), (33, .bool ((a0e1.f0.length : Int) != (t4.f0.length : Int))), (34, .bool ((a0e1.f0.length : Int) != (t4.f0.length : Int))), (80, .pointer (some ⟨bR6, 0, none⟩)), (83, .pointer (some ⟨bp0e1, 1, none⟩))]) (by kernel_rfl) (by decide) ?_
        refine WL.tell (op := .load 27 (.tmp 83)) (ty := 27) (d := some 84) (g := none) (by kernel_rfl) (by kernel_rfl) (by kernel_rfl) (Tells.load_box (i := 10) (b := bp0e1) (o := 1) (agg := false) (by rfl) ag27 (by kernel_rfl) (fun _ => rfl) (Nat.le_of_ble_eq_true rfl) (v := .slice Aa0e1_f1 a0e1.f1.length ca0e1_f1) (by kernel_rfl)) ?_
        rw [Option.bind_eq_some_iff] at h
        obtain ⟨t32, ht33, h⟩ := h
        refine WL.op (op := .call { callee := (.value (.func 15)), args := #[(.tmp 80), (.tmp 84)], argTypes := #[23, 27] }) (ty := 3) (d := some 85) (g := none) (by kernel_rfl) (by kernel_rfl) (by kernel_rfl) (Does.call (Φ := fun v' G' Γ' => ∃ (AR34p0_0 : Option Addr), ∃ (cR34p0_0 : Nat), ∃ (CR34p0_0 : Chunk), ∃ (AR34p0_1 : Option Addr), ∃ (cR34p0_1 : Nat), ∃ (CR34p0_1 : Chunk), ∃ (AR34p0_2 : Option Addr), ∃ (cR34p0_2 : Nat), ∃ (CR34p0_2 : Chunk), v' = .int .i64 t32.1 ∧ Ow (kInt .i64) G AR34p0_0 cR34p0_0 t32.2.f0 CR34p0_0 ∧ Ow (kInt .i64) G AR34p0_1 cR34p0_1 t32.2.f1 CR34p0_1 ∧ MpF m61 G AR34p0_2 cR34p0_2 t32.2.f2 CR34p0_2 ∧ G = G' ∧ [(bR6, .cells #[.slice AR34p0_0 t32.2.f0.length cR34p0_0, .slice AR34p0_1 t32.2.f1.length cR34p0_1, mpv AR34p0_2] 63 (0, 0))] :: CR34p0_0 :: CR34p0_1 :: CR34p0_2 :: CR6_0 :: [(bp0e0, .cells #[.slice Aa0e0_f0 a0e0.f0.length ca0e0_f0, .slice Aa0e0_f1 a0e0.f1.length ca0e0_f1, mpv Aa0e0_f2] 63 (0, 0))] :: Ca0e0_f0 :: Ca0e0_f1 :: Ca0e0_f2 :: [(bp0, .cells #[.pointer (some ⟨bp0e0, 0, none⟩), .pointer (some ⟨bp0e1, 0, none⟩), .pointer (some ⟨bp0e0, 0, none⟩)] 23 (0, 0))] :: [(bp0e1, .cells #[.slice Aa0e1_f0 a0e1.f0.length ca0e1_f0, .slice Aa0e1_f1 a0e1.f1.length ca0e1_f1, mpv Aa0e1_f2] 63 (0, 0))] :: Ca0e1_f0 :: Ca0e1_f1 :: Ca0e1_f2 :: Γ = Γ') (f := 15) (args := [.pointer (some ⟨bR6, 0, none⟩), .slice Aa0e1_f1 a0e1.f1.length ca0e1_f1]) (by kernel_rfl) (fun W hI => (Calls.lendN (Φ := fun v' N => ∃ (AR34p0_0 : Option Addr), ∃ (cR34p0_0 : Nat), ∃ (CR34p0_0 : Chunk), ∃ (AR34p0_1 : Option Addr), ∃ (cR34p0_1 : Nat), ∃ (CR34p0_1 : Chunk), ∃ (AR34p0_2 : Option Addr), ∃ (cR34p0_2 : Nat), ∃ (CR34p0_2 : Chunk), v' = .int .i64 t32.1 ∧ Ow (kInt .i64) G AR34p0_0 cR34p0_0 t32.2.f0 CR34p0_0 ∧ Ow (kInt .i64) G AR34p0_1 cR34p0_1 t32.2.f1 CR34p0_1 ∧ MpF m61 G AR34p0_2 cR34p0_2 t32.2.f2 CR34p0_2 ∧ N = [[(bR6, .cells #[.slice AR34p0_0 t32.2.f0.length cR34p0_0, .slice AR34p0_1 t32.2.f1.length cR34p0_1, mpv AR34p0_2] 63 (0, 0))], CR34p0_0, CR34p0_1, CR34p0_2]) (H := [[(bR6, .cells #[.slice As20_f0 s20.f0.length cs20_f0, .slice As20_f1 s20.f1.length cs20_f1, mpv As20_f2] 63 (0, 0))], Cs20_f0, Cs20_f1, Cs20_f2]) (i := 8) rfl hI (fun _ e l36 nl36 hI => by subst e; exact (((state_State_Raise_calls k s20 a0e1.f1 bR6 As20_f0 cs20_f0 Cs20_f0 (Hs20_f0.mono l36) As20_f1 cs20_f1 Cs20_f1 (Hs20_f1.mono l36) As20_f2 cs20_f2 Cs20_f2 (Hs20_f2.mono l36) Aa0e1_f1 ca0e1_f1 (Ha0e1_f1.rdN l36 nl36) t32 ht33 hI)).mono fun _ _ hr => by obtain ⟨_, _, _, rfl, hd, hI⟩ := hr; obtain ⟨AR34p0_0, cR34p0_0, CR34p0_0, AR34p0_1, cR34p0_1, CR34p0_1, AR34p0_2, cR34p0_2, CR34p0_2, rfl, HR34p0_0, HR34p0_1, HR34p0_2, rfl, rfl⟩ := hd; exact ⟨_, _, _, rfl, ⟨[[(bR6, .cells #[.slice AR34p0_0 t32.2.f0.length cR34p0_0, .slice AR34p0_1 t32.2.f1.length cR34p0_1, mpv AR34p0_2] 63 (0, 0))], CR34p0_0, CR34p0_1, CR34p0_2], ⟨AR34p0_0, cR34p0_0, CR34p0_0, AR34p0_1, cR34p0_1, CR34p0_1, AR34p0_2, cR34p0_2, CR34p0_2, rfl, (HR34p0_0.flat (kInt_flat _)), (HR34p0_1.flat (kInt_flat _)), (HR34p0_2.flat ()), rfl⟩, rfl, rfl⟩, hI⟩))).mono fun _ _ hr => by obtain ⟨_, _, _, rfl, ⟨_, hd, rfl, rfl⟩, hI⟩ := hr; obtain ⟨AR34p0_0, cR34p0_0, CR34p0_0, AR34p0_1, cR34p0_1, CR34p0_1, AR34p0_2, cR34p0_2, CR34p0_2, rfl, HR34p0_0, HR34p0_1, HR34p0_2, rfl⟩ := hd; exact ⟨_, _, _, rfl, ⟨AR34p0_0, cR34p0_0, CR34p0_0, AR34p0_1, cR34p0_1, CR34p0_1, AR34p0_2, cR34p0_2, CR34p0_2, rfl, HR34p0_0, HR34p0_1, HR34p0_2, rfl, rfl⟩, hI⟩)) ?_
        rintro _ _ _ ⟨AR34p0_0, cR34p0_0, CR34p0_0, AR34p0_1, cR34p0_1, CR34p0_1, AR34p0_2, cR34p0_2, CR34p0_2, rfl, HR34p0_0, HR34p0_1, HR34p0_2, rfl, rfl⟩
        refine WL.rest 6 [3, 10, 11, 12, 20, 21, 22, 23, 24, 25, 26, 27, 28, 29, 30, 31, 32, 33, 34] (L' := [(3, .pointer (some ⟨bR6, 0, none⟩)), (10, .slice (some ⟨bp0, 0, none⟩) 3 3), (11, .int .i64 3), (12, .int .i64 1), (20, .int .i64 1), (21, .bool true), (22, .bool true), (23, .pointer (some ⟨bp0e1, 0, none⟩)), (24, .pointer (some ⟨bp0e1, 0, none⟩)), (25, .pointer (some ⟨bp0e1, 0, none⟩)), (26, .slice Aa0e1_f0 a0e1.f0.length ca0e1_f0), (27, .int .i64 (a0e1.f0.length : Int)), (28, .pointer (some ⟨bR6, 0, none⟩)), (29, .pointer (some ⟨bR6, 0, none⟩)), (30, .pointer (some ⟨bR6, 0, none⟩)), (31, .slice AR6_0 t4.f0.length cR6_0), (32, .int .i64 (t4.f0.length : Int)), (33, .bool ((a0e1.f0.length : Int) != (t4.f0.length : Int))), (34, .bool ((a0e1.f0.length : Int) != (t4.f0.length : Int)))]) (by kernel_rfl) ?_
        refine QP.blockN ?_
        refine QP.next ?_
        refine WP.pick [3, 10, 11, 12, 20, 21, 22, 23, 24, 25, 26, 27, 28, 29, 30, 31, 32, 33, 34] ?_
        refine WP.regionP [3, 10, 11, 12, 20, 21, 22, 23, 24, 25, 26, 27, 28, 29, 30, 31, 32, 33, 34] (L' := [(3, .pointer (some ⟨bR6, 0, none⟩)), (10, .slice (some ⟨bp0, 0, none⟩) 3 3), (11, .int .i64 3), (12, .int .i64 2), (20, .int .i64 1), (21, .bool true), (22, .bool true), (23, .pointer (some ⟨bp0e1, 0, none⟩)), (24, .pointer (some ⟨bp0e1, 0, none⟩)), (25, .pointer (some ⟨bp0e1, 0, none⟩)), (26, .slice Aa0e1_f0 a0e1.f0.length ca0e1_f0), (27, .int .i64 (a0e1.f0.length : Int)), (28, .pointer (some ⟨bR6, 0, none⟩)), (29, .pointer (some ⟨bR6, 0, none⟩)), (30, .pointer (some ⟨bR6, 0, none⟩)), (31, .slice AR6_0 t4.f0.length cR6_0), (32, .int .i64 (t4.f0.length : Int)), (33, .bool ((a0e1.f0.length : Int) != (t4.f0.length : Int))), (34, .bool ((a0e1.f0.length : Int) != (t4.f0.length : Int)))]) (by kernel_rfl) ?_
        refine QP.around ?_
        refine WR.pick [3, 10, 11, 12, 20, 21, 22, 23, 24, 25, 26, 27, 28, 29, 30, 31, 32, 33, 34] ?_
        refine WR.again ?_
        refine WP.seqP [3, 10, 11, 12, 13, 20, 21, 22, 23, 24, 25, 26, 27, 28, 29, 30, 31, 32, 33, 34] (L' := [(3, .pointer (some ⟨bR6, 0, none⟩)), (10, .slice (some ⟨bp0, 0, none⟩) 3 3), (11, .int .i64 3), (12, .int .i64 2), (13, .bool true), (20, .int .i64 1), (21, .bool true), (22, .bool true), (23, .pointer (some ⟨bp0e1, 0, none⟩)), (24, .pointer (some ⟨bp0e1, 0, none⟩)), (25, .pointer (some ⟨bp0e1, 0, none⟩)), (26, .slice Aa0e1_f0 a0e1.f0.length ca0e1_f0), (27, .int .i64 (a0e1.f0.length : Int)), (28, .pointer (some ⟨bR6, 0, none⟩)), (29, .pointer (some ⟨bR6, 0, none⟩)), (30, .pointer (some ⟨bR6, 0, none⟩)), (31, .slice AR6_0 t4.f0.length cR6_0), (32, .int .i64 (t4.f0.length : Int)), (33, .bool ((a0e1.f0.length : Int) != (t4.f0.length : Int))), (34, .bool ((a0e1.f0.length : Int) != (t4.f0.length : Int)))]) (by kernel_rfl) ?_
        refine WP.seq ?_
        refine WP.yes (by kernel_rfl) ?_
        refine WP.skip ?_
        refine QP.next ?_
        refine WP.pick [3, 10, 11, 12, 20, 21, 22, 23, 24, 25, 26, 27, 28, 29, 30, 31, 32, 33, 34] ?_
        refine WP.seq ?_
        refine WP.block ?_
        refine WP.seqR ?_
        refine WL.pure 0 1 [3, 10, 11, 12, 14, 20, 21, 22, 23, 24, 25, 26, 27, 28, 29, 30, 31, 32, 33, 34] (L' := [(3, .pointer (some ⟨bR6, 0, none⟩)), (10, .slice (some ⟨bp0, 0, none⟩) 3 3), (11, .int .i64 3), (12, .int .i64 2), (14, .int .i64 2), (20, .int .i64 1), (21, .bool true), (22, .bool true), (23, .pointer (some ⟨bp0e1, 0, none⟩)), (24, .pointer (some ⟨bp0e1, 0, none⟩)), (25, .pointer (some ⟨bp0e1, 0, none⟩)), (26, .slice Aa0e1_f0 a0e1.f0.length ca0e1_f0), (27, .int .i64 (a0e1.f0.length : Int)), (28, .pointer (some ⟨bR6, 0, none⟩)), (29, .pointer (some ⟨bR6, 0, none⟩)), (30, .pointer (some ⟨bR6, 0, none⟩)), (31, .slice AR6_0 t4.f0.length cR6_0), (32, .int .i64 (t4.f0.length : Int)), (33, .bool ((a0e1.f0.length : Int) != (t4.f0.length : Int))), (34, .bool ((a0e1.f0.length : Int) != (t4.f0.length : Int)))]) (by kernel_rfl) (by decide) ?_
        refine WL.tell (op := .indexAddr 52 (.tmp 10) (.tmp 12)) (ty := 0) (d := some 15) (g := none) (by kernel_rfl) (by kernel_rfl) (by kernel_rfl) (Tells.indexAddr (A := some ⟨bp0, 0, none⟩) (n := 3) (c := 3) (k := .i64) (j := 2) (by kernel_rfl) (by kernel_rfl) rfl (by decide) (by decide) sl52) ?_
        refine WL.tell (op := .load 23 (.tmp 15)) (ty := 23) (d := some 16) (g := none) (by kernel_rfl) (by kernel_rfl) (by kernel_rfl) (Tells.load_box (i := 9) (b := bp0) (o := 2) (agg := false) (by rfl) ag23 (by kernel_rfl) (fun _ => rfl) (Nat.le_of_ble_eq_true rfl) (v := .pointer (some ⟨bp0e0, 0, none⟩)) (by kernel_rfl)) ?_
        refine WL.restQ 3 [3, 4, 5, 10, 11, 12, 20, 21, 22, 23, 24, 25, 26, 27, 28, 29, 30, 31, 32, 33, 34] (L' := [(3, .pointer (some ⟨bR6, 0, none⟩)), (4, .int .i64 2), (5, .pointer (some ⟨bp0e0, 0, none⟩)), (10, .slice (some ⟨bp0, 0, none⟩) 3 3), (11, .int .i64 3), (12, .int .i64 2), (20, .int .i64 1), (21, .bool true), (22, .bool true), (23, .pointer (some ⟨bp0e1, 0, none⟩)), (24, .pointer (some ⟨bp0e1, 0, none⟩)), (25, .pointer (some ⟨bp0e1, 0, none⟩)), (26, .slice Aa0e1_f0 a0e1.f0.length ca0e1_f0), (27, .int .i64 (a0e1.f0.length : Int)), (28, .pointer (some ⟨bR6, 0, none⟩)), (29, .pointer (some ⟨bR6, 0, none⟩)), (30, .pointer (some ⟨bR6, 0, none⟩)), (31, .slice AR6_0 t4.f0.length cR6_0), (32, .int .i64 (t4.f0.length : Int)), (33, .bool ((a0e1.f0.length : Int) != (t4.f0.length : Int))), (34, .bool ((a0e1.f0.length : Int) != (t4.f0.length : Int)))]) (by kernel_rfl) ?_
        refine WP.seq ?_
        refine WP.seq ?_
        refine WP.any (N := 19) (S := [⟨some 17, [5], []⟩, ⟨some 18, [17], [0]⟩, ⟨some 19, [18], [1]⟩, ⟨some 20, [4, 19], [2]⟩, ⟨some 21, [19, 20], [2, 3]⟩, ⟨some 22, [19, 21], [2, 4]⟩, ⟨some 23, [5, 22], [5]⟩, ⟨some 24, [22, 23], [5, 6]⟩, ⟨some 25, [22, 24], [5, 7]⟩, ⟨some 26, [22, 25], [5, 8]⟩, ⟨some 27, [22, 26], [5, 9]⟩, ⟨some 28, [3, 22], [5]⟩, ⟨some 29, [22, 28], [5, 11]⟩, ⟨some 30, [22, 29], [5, 12]⟩, ⟨some 31, [22, 30], [5, 13]⟩, ⟨some 32, [22, 31], [5, 14]⟩, ⟨some 33, [22, 27, 32], [5, 10, 15]⟩, ⟨some 34, [19, 22, 33], [2, 5, 16]⟩, ⟨some 35, [19, 34], [2, 17]⟩]) (kw := 19) (G0 := G) (Γ0 := [(bR6, .cells #[.slice AR34p0_0 t32.2.f0.length cR34p0_0, .slice AR34p0_1 t32.2.f1.length cR34p0_1, mpv AR34p0_2] 63 (0, 0))] :: CR34p0_0 :: CR34p0_1 :: CR34p0_2 :: CR6_0 :: [(bp0e0, .cells #[.slice Aa0e0_f0 a0e0.f0.length ca0e0_f0, .slice Aa0e0_f1 a0e0.f1.length ca0e0_f1, mpv Aa0e0_f2] 63 (0, 0))] :: Ca0e0_f0 :: Ca0e0_f1 :: Ca0e0_f2 :: [(bp0, .cells #[.pointer (some ⟨bp0e0, 0, none⟩), .pointer (some ⟨bp0e1, 0, none⟩), .pointer (some ⟨bp0e0, 0, none⟩)] 23 (0, 0))] :: [(bp0e1, .cells #[.slice Aa0e1_f0 a0e1.f0.length ca0e1_f0, .slice Aa0e1_f1 a0e1.f1.length ca0e1_f1, mpv Aa0e1_f2] 63 (0, 0))] :: Ca0e1_f0 :: Ca0e1_f1 :: Ca0e1_f2 :: Γ) mo (by kernel_rfl) (fun hS => ?_)
        refine WA.pure [0, 1, 2, 3, 4, 5, 6, 7, 8, 11, 12, 13] [3, 4, 5, 10, 11, 12, 19, 20, 21, 22, 23, 24, 25, 26, 27, 28, 29, 30, 31, 32, 33, 34] (m := 7) (b' := 14847) (L' := [(3, .pointer (some ⟨bR6, 0, none⟩)), (4, .int .i64 2), (5, .pointer (some ⟨bp0e0, 0, none⟩)), (10, .slice (some ⟨bp0, 0, none⟩) 3 3), (11, .int .i64 3), (12, .int .i64 2), (19, .bool false), (20, .int .i64 2), (21, .bool true), (22, .bool true), (23, .pointer (some ⟨bp0e0, 0, none⟩)), (24, .pointer (some ⟨bp0e0, 0, none⟩)), (25, .pointer (some ⟨bp0e0, 0, none⟩)), (26, .slice Aa0e1_f0 a0e1.f0.length ca0e1_f0), (27, .int .i64 (a0e1.f0.length : Int)), (28, .pointer (some ⟨bR6, 0, none⟩)), (29, .pointer (some ⟨bR6, 0, none⟩)), (30, .pointer (some ⟨bR6, 0, none⟩)), (31, .slice AR6_0 t4.f0.length cR6_0), (32, .int .i64 (t4.f0.length : Int)), (33, .bool ((a0e1.f0.length : Int) != (t4.f0.length : Int))), (34, .bool ((a0e1.f0.length : Int) != (t4.f0.length : Int)))]) (by kernel_rfl) (NoPanic.then (NoPanic.then (NoPanic.block (NoPanic.then (NoPanic.then (NoPanic.block (NoPanic.then (NoPanic.then (NoPanic.body))))))))) Under.refl hS (by kernel_rfl) ?_
        refine WA.tellD [] (i := 9) (m := 6) (b' := 15359) (by kernel_rfl) (NoPanic.then (NoPanic.then (NoPanic.block (NoPanic.then (NoPanic.then (NoPanic.block (NoPanic.then (NoPanic.then (NoPanic.body))))))))) Under.refl hS (by kernel_rfl) (op := .load 27 (.tmp 25)) (ty := 27) (d := some 26) (g := some (5, true)) (by kernel_rfl) (by kernel_rfl) (by kernel_rfl) (Tells.load_box (i := 5) (b := bp0e0) (o := 0) (agg := false) (by rfl) ag27 (by kernel_rfl) (fun _ => rfl) (Nat.le_of_ble_eq_true rfl) (v := .slice Aa0e0_f0 a0e0.f0.length ca0e0_f0) (by kernel_rfl)) ?_
        refine WA.pure [10] [3, 4, 5, 10, 11, 12, 19, 20, 21, 22, 23, 24, 25, 26, 27, 28, 29, 30, 31, 32, 33, 34] (m := 5) (b' := 16383) (L' := [(3, .pointer (some ⟨bR6, 0, none⟩)), (4, .int .i64 2), (5, .pointer (some ⟨bp0e0, 0, none⟩)), (10, .slice (some ⟨bp0, 0, none⟩) 3 3), (11, .int .i64 3), (12, .int .i64 2), (19, .bool false), (20, .int .i64 2), (21, .bool true), (22, .bool true), (23, .pointer (some ⟨bp0e0, 0, none⟩)), (24, .pointer (some ⟨bp0e0, 0, none⟩)), (25, .pointer (some ⟨bp0e0, 0, none⟩)), (26, .slice Aa0e0_f0 a0e0.f0.length ca0e0_f0), (27, .int .i64 (a0e0.f0.length : Int)), (28, .pointer (some ⟨bR6, 0, none⟩)), (29, .pointer (some ⟨bR6, 0, none⟩)), (30, .pointer (some ⟨bR6, 0, none⟩)), (31, .slice AR6_0 t4.f0.length cR6_0), (32, .int .i64 (t4.f0.length : Int)), (33, .bool ((a0e1.f0.length : Int) != (t4.f0.length : Int))), (34, .bool ((a0e1.f0.length : Int) != (t4.f0.length : Int)))]) (by kernel_rfl) (NoPanic.then (NoPanic.then (NoPanic.block (NoPanic.then (NoPanic.then (NoPanic.block (NoPanic.then (NoPanic.then (NoPanic.body))))))))) Under.refl hS (by kernel_rfl) ?_
        refine WA.tellD [] (i := 14) (m := 4) (b' := 32767) (by kernel_rfl) (NoPanic.then (NoPanic.then (NoPanic.block (NoPanic.then (NoPanic.then (NoPanic.block (NoPanic.then (NoPanic.then (NoPanic.body))))))))) Under.refl hS (by kernel_rfl) (op := .load 27 (.tmp 30)) (ty := 27) (d := some 31) (g := some (5, true)) (by kernel_rfl) (by kernel_rfl) (by kernel_rfl) (Tells.load_box (i := 0) (b := bR6) (o := 0) (agg := false) (by rfl) ag27 (by kernel_rfl) (fun _ => rfl) (Nat.le_of_ble_eq_true rfl) (v := .slice AR34p0_0 t32.2.f0.length cR34p0_0) (by kernel_rfl)) ?_
        refine WA.pure [15, 16, 17, 18] [3, 4, 5, 10, 11, 12, 20, 21, 22, 23, 24, 25, 26, 27, 28, 29, 30, 31, 32, 33, 34, 35] (m := 0) (b' := 524287) (L' := [(3, .pointer (some ⟨bR6, 0, none⟩)), (4, .int .i64 2), (5, .pointer (some ⟨bp0e0, 0, none⟩)), (10, .slice (some ⟨bp0, 0, none⟩) 3 3), (11, .int .i64 3), (12, .int .i64 2), (20, .int .i64 2), (21, .bool true), (22, .bool true), (23, .pointer (some ⟨bp0e0, 0, none⟩)), (24, .pointer (some ⟨bp0e0, 0, none⟩)), (25, .pointer (some ⟨bp0e0, 0, none⟩)), (26, .slice Aa0e0_f0 a0e0.f0.length ca0e0_f0), (27, .int .i64 (a0e0.f0.length : Int)), (28, .pointer (some ⟨bR6, 0, none⟩)), (29, .pointer (some ⟨bR6, 0, none⟩)), (30, .pointer (some ⟨bR6, 0, none⟩)), (31, .slice AR34p0_0 t32.2.f0.length cR34p0_0), (32, .int .i64 (t32.2.f0.length : Int)), (33, .bool ((a0e0.f0.length : Int) != (t32.2.f0.length : Int))), (34, .bool ((a0e0.f0.length : Int) != (t32.2.f0.length : Int))), (35, .bool ((a0e0.f0.length : Int) != (t32.2.f0.length : Int)))]) (by kernel_rfl) (NoPanic.then (NoPanic.then (NoPanic.block (NoPanic.then (NoPanic.then (NoPanic.block (NoPanic.then (NoPanic.then (NoPanic.body))))))))) Under.refl hS (by kernel_rfl) ?_
        refine WA.done hS (by kernel_rfl) ?_
        refine QP.pick [3, 4, 5, 10, 11, 12, 20, 21, 22, 23, 24, 25, 26, 27, 28, 29, 30, 31, 32, 33, 34, 35] ?_
        refine QP.next ?_
        refine WP.dropAt 4 ?_
        refine WP.cond (b := ((a0e0.f0.length : Int) != (t32.2.f0.length : Int))) (by kernel_rfl) (fun hc => ?_) (fun hc => ?_)
        · replace hc := (bne_iff_ne.1 hc)
          rw [if_pos hc] at h
          have hc37 := hc
          clear hc
          refine WP.seqP [2] (L' := [(2, .pointer none)]) (by kernel_rfl) ?_
          refine WP.dropAt 3 ?_
          refine WP.dropAt 2 ?_
          refine WP.dropAt 1 ?_
          refine WP.dropAt 0 ?_
          refine WP.ret ?_
          refine QP.thenR ?_
          refine QP.blockR ?_
          refine QP.thenR ?_
          refine QP.thenR ?_
          refine QP.blockR ?_
          refine QP.thenR ?_
          refine QP.thenR ?_
          obtain rfl := Option.some.inj h
          obtain rfl := Option.some.inj (show some _ = some _ from hk3)
          refine QP.reperm (Γ' := [(bp0, .cells #[.pointer (some ⟨bp0e0, 0, none⟩), .pointer (some ⟨bp0e1, 0, none⟩), .pointer (some ⟨bp0e0, 0, none⟩)] 23 (0, 0))] :: [(bp0e0, .cells #[.slice Aa0e0_f0 a0e0.f0.length ca0e0_f0, .slice Aa0e0_f1 a0e0.f1.length ca0e0_f1, mpv Aa0e0_f2] 63 (0, 0))] :: Ca0e0_f0 :: Ca0e0_f1 :: Ca0e0_f2 :: [(bp0e1, .cells #[.slice Aa0e1_f0 a0e1.f0.length ca0e1_f0, .slice Aa0e1_f1 a0e1.f1.length ca0e1_f1, mpv Aa0e1_f2] 63 (0, 0))] :: Ca0e1_f0 :: Ca0e1_f1 :: Ca0e1_f2 :: Γ) (perm_sel [4, 0, 1, 2, 3] (by kernel_rfl) rfl) ?_
          exact QP.returned [2] [.pointer none] _ (by kernel_rfl) (by kernel_rfl) (by kernel_rfl) (fun W hI => ⟨_, _, _, rfl, (Or.inl ⟨rfl, ⟨rfl, rfl, rfl⟩⟩), hI⟩)
        · replace hc := (not_not_intro (bne_eq_false_iff_eq.1 hc))
          rw [if_neg hc] at h
          have hc37 := hc
          clear hc
          refine WP.skip ?_
          refine QP.next ?_
          refine WP.pick [3, 4, 5, 10, 11, 12, 20, 21, 22, 23, 24, 25, 26, 27, 28, 29, 30, 31, 32, 33, 34] ?_
          refine WP.seq ?_
          refine WP.seqP [3, 5, 10, 11, 12, 20, 21, 22, 23, 24, 25, 26, 27, 28, 29, 30, 31, 32, 33, 34, 37] (L' := [(3, .pointer (some ⟨bR6, 0, none⟩)), (5, .pointer (some ⟨bp0e0, 0, none⟩)), (10, .slice (some ⟨bp0, 0, none⟩) 3 3), (11, .int .i64 3), (12, .int .i64 2), (20, .int .i64 2), (21, .bool true), (22, .bool true), (23, .pointer (some ⟨bp0e0, 0, none⟩)), (24, .pointer (some ⟨bp0e0, 0, none⟩)), (25, .pointer (some ⟨bp0e0, 0, none⟩)), (26, .slice Aa0e0_f0 a0e0.f0.length ca0e0_f0), (27, .int .i64 (a0e0.f0.length : Int)), (28, .pointer (some ⟨bR6, 0, none⟩)), (29, .pointer (some ⟨bR6, 0, none⟩)), (30, .pointer (some ⟨bR6, 0, none⟩)), (31, .slice AR34p0_0 t32.2.f0.length cR34p0_0), (32, .int .i64 (t32.2.f0.length : Int)), (33, .bool ((a0e0.f0.length : Int) != (t32.2.f0.length : Int))), (34, .bool ((a0e0.f0.length : Int) != (t32.2.f0.length : Int))), (37, .bool false)]) (by kernel_rfl) ?_
          refine WP.no (by kernel_rfl) ?_
          refine WP.skip ?_
          refine QP.next ?_
          refine WP.pick [3, 5, 10, 11, 12, 20, 21, 22, 23, 24, 25, 26, 27, 28, 29, 30, 31, 32, 33, 34] ?_
          refine WP.seq ?_
          refine WP.any (N := 14) (S := [⟨some 40, [3], []⟩, ⟨some 41, [3], []⟩, ⟨some 42, [41], [1]⟩, ⟨some 43, [42], [2]⟩, ⟨some 44, [43], [3]⟩, ⟨some 45, [5], []⟩, ⟨some 46, [45], [5]⟩, ⟨some 47, [46], [6]⟩, ⟨some 48, [47], [7]⟩, ⟨some 49, [44, 48], [4, 8]⟩, ⟨some 50, [49], [9]⟩, ⟨some 51, [40], [0, 1, 2, 3, 4, 5, 6, 7, 8, 9, 10]⟩, ⟨some 52, [51], [0, 1, 2, 3, 4, 5, 6, 7, 8, 9, 10, 11]⟩, ⟨none, [50, 52], [0, 1, 2, 3, 4, 5, 6, 7, 8, 9, 10, 12]⟩]) (kw := 13) (G0 := G) (Γ0 := [(bR6, .cells #[.slice AR34p0_0 t32.2.f0.length cR34p0_0, .slice AR34p0_1 t32.2.f1.length cR34p0_1, mpv AR34p0_2] 63 (0, 0))] :: CR34p0_0 :: CR34p0_1 :: CR34p0_2 :: [(bp0e0, .cells #[.slice Aa0e0_f0 a0e0.f0.length ca0e0_f0, .slice Aa0e0_f1 a0e0.f1.length ca0e0_f1, mpv Aa0e0_f2] 63 (0, 0))] :: Ca0e0_f0 :: Ca0e0_f1 :: Ca0e0_f2 :: [(bp0, .cells #[.pointer (some ⟨bp0e0, 0, none⟩), .pointer (some ⟨bp0e1, 0, none⟩), .pointer (some ⟨bp0e0, 0, none⟩)] 23 (0, 0))] :: [(bp0e1, .cells #[.slice Aa0e1_f0 a0e1.f0.length ca0e1_f0, .slice Aa0e1_f1 a0e1.f1.length ca0e1_f1, mpv Aa0e1_f2] 63 (0, 0))] :: Ca0e1_f0 :: Ca0e1_f1 :: Ca0e1_f2 :: Γ) mo (by kernel_rfl) (fun hS => ?_)
          refine WA.pure [0, 1, 2, 3, 5, 6, 7] [3, 5, 10, 11, 12, 20, 21, 22, 23, 24, 25, 26, 27, 28, 29, 30, 31, 32, 33, 34, 40, 43, 47] (m := 7) (b' := 239) (L' := [(3, .pointer (some ⟨bR6, 0, none⟩)), (5, .pointer (some ⟨bp0e0, 0, none⟩)), (10, .slice (some ⟨bp0, 0, none⟩) 3 3), (11, .int .i64 3), (12, .int .i64 2), (20, .int .i64 2), (21, .bool true), (22, .bool true), (23, .pointer (some ⟨bp0e0, 0, none⟩)), (24, .pointer (some ⟨bp0e0, 0, none⟩)), (25, .pointer (some ⟨bp0e0, 0, none⟩)), (26, .slice Aa0e0_f0 a0e0.f0.length ca0e0_f0), (27, .int .i64 (a0e0.f0.length : Int)), (28, .pointer (some ⟨bR6, 0, none⟩)), (29, .pointer (some ⟨bR6, 0, none⟩)), (30, .pointer (some ⟨bR6, 0, none⟩)), (31, .slice AR34p0_0 t32.2.f0.length cR34p0_0), (32, .int .i64 (t32.2.f0.length : Int)), (33, .bool ((a0e0.f0.length : Int) != (t32.2.f0.length : Int))), (34, .bool ((a0e0.f0.length : Int) != (t32.2.f0.length : Int))), (40, .pointer (some ⟨bR6, 0, none⟩)), (43, .pointer (some ⟨bR6, 0, none⟩)), (47, .pointer (some ⟨bp0e0, 0, none⟩))]) (by kernel_rfl) (NoPanic.then (NoPanic.block (NoPanic.then (NoPanic.then (NoPanic.block (NoPanic.then (NoPanic.then (NoPanic.body)))))))) Under.refl hS (by kernel_rfl) ?_
          refine WA.tellD [13] (i := 4) (m := 6) (b' := 255) (by kernel_rfl) (NoPanic.then (NoPanic.block (NoPanic.then (NoPanic.then (NoPanic.block (NoPanic.then (NoPanic.then (NoPanic.body)))))))) Under.refl hS (by kernel_rfl) (op := .load 27 (.tmp 43)) (ty := 27) (d := some 44) (g := none) (by kernel_rfl) (by kernel_rfl) (by kernel_rfl) (Tells.load_box (i := 0) (b := bR6) (o := 0) (agg := false) (by rfl) ag27 (by kernel_rfl) (fun _ => rfl) (Nat.le_of_ble_eq_true rfl) (v := .slice AR34p0_0 t32.2.f0.length cR34p0_0) (by kernel_rfl)) ?_
          refine WA.tellD [13] (i := 8) (m := 5) (b' := 511) (by kernel_rfl) (NoPanic.then (NoPanic.block (NoPanic.then (NoPanic.then (NoPanic.block (NoPanic.then (NoPanic.then (NoPanic.body)))))))) Under.refl hS (by kernel_rfl) (op := .load 27 (.tmp 47)) (ty := 27) (d := some 48) (g := none) (by kernel_rfl) (by kernel_rfl) (by kernel_rfl) (Tells.load_box (i := 4) (b := bp0e0) (o := 0) (agg := false) (by rfl) ag27 (by kernel_rfl) (fun _ => rfl) (Nat.le_of_ble_eq_true rfl) (v := .slice Aa0e0_f0 a0e0.f0.length ca0e0_f0) (by kernel_rfl)) ?_
          refine WA.op (i := 9) (m := 4) (b' := 1023) (by kernel_rfl) hS (by kernel_rfl) (op := .buildSlice 50 2 #[(0, (.tmp 44)), (1, (.tmp 48))]) (ty := 50) (d := some 49) (g := none) (by kernel_rfl) (by kernel_rfl) (by kernel_rfl) (Does.new (o := .cells #[.slice AR34p0_0 t32.2.f0.length cR34p0_0, .slice Aa0e0_f0 a0e0.f0.length ca0e0_f0] 27 (0, 0)) (v := fun r => .slice (some ⟨r, 0, none⟩) 2 2) (fun r => by kernel_rfl)) ?_
          rintro _ _ _ ⟨b38, rfl, rfl, rfl⟩
          refine ⟨_, _, Under.cons Under.refl, Under.refl, ?_⟩
          rw [Option.bind_eq_some_iff] at h
          obtain ⟨t41, ht42, h⟩ := h
          refine WA.op (i := 10) (m := 3) (b' := 2047) (by kernel_rfl) hS (by kernel_rfl) (op := .call { callee := (.value (.func 33)), args := #[(.tmp 49)], argTypes := #[50] }) (ty := 27) (d := some 50) (g := none) (by kernel_rfl) (by kernel_rfl) (by kernel_rfl) (Does.call (Φ := fun v' G' Γ' => ∃ (AR43 : Option Addr), ∃ (cR43 : Nat), ∃ (CR43 : Chunk), v' = .slice AR43 t41.length cR43 ∧ Ow (kInt .i64) G AR43 cR43 t41 CR43 ∧ G = G' ∧ CR43 :: [(b38, .cells #[.slice AR34p0_0 t32.2.f0.length cR34p0_0, .slice Aa0e0_f0 a0e0.f0.length ca0e0_f0] 27 (0, 0))] :: [(bR6, .cells #[.slice AR34p0_0 t32.2.f0.length cR34p0_0, .slice AR34p0_1 t32.2.f1.length cR34p0_1, mpv AR34p0_2] 63 (0, 0))] :: CR34p0_0 :: CR34p0_1 :: CR34p0_2 :: [(bp0e0, .cells #[.slice Aa0e0_f0 a0e0.f0.length ca0e0_f0, .slice Aa0e0_f1 a0e0.f1.length ca0e0_f1, mpv Aa0e0_f2] 63 (0, 0))] :: Ca0e0_f0 :: Ca0e0_f1 :: Ca0e0_f2 :: [(bp0, .cells #[.pointer (some ⟨bp0e0, 0, none⟩), .pointer (some ⟨bp0e1, 0, none⟩), .pointer (some ⟨bp0e0, 0, none⟩)] 23 (0, 0))] :: [(bp0e1, .cells #[.slice Aa0e1_f0 a0e1.f0.length ca0e1_f0, .slice Aa0e1_f1 a0e1.f1.length ca0e1_f1, mpv Aa0e1_f2] 63 (0, 0))] :: Ca0e1_f0 :: Ca0e1_f1 :: Ca0e1_f2 :: Γ = Γ') (f := 33) (args := [.slice (some ⟨b38, 0, none⟩) ([t32.2.f0, a0e0.f0] : List (List Int)).length 2]) (by kernel_rfl) (fun W hI => (Calls.lendN (Φ := fun v' N => ∃ (AR43 : Option Addr), ∃ (cR43 : Nat), ∃ (CR43 : Chunk), v' = .slice AR43 t41.length cR43 ∧ Ow (kInt .i64) G AR43 cR43 t41 CR43 ∧ N = [CR43]) (H := []) (i := 2) rfl hI (fun _ e l45 nl45 hI => by subst e; exact Calls.lendN (Φ := fun v' N => ∃ (AR43 : Option Addr), ∃ (cR43 : Nat), ∃ (CR43 : Chunk), v' = .slice AR43 t41.length cR43 ∧ Ow (kInt .i64) G AR43 cR43 t41 CR43 ∧ N = [CR43]) (H := []) (i := 6) rfl hI (fun _ e l46 nl46 hI => by subst e; exact Calls.lendN (Φ := fun v' N => ∃ (AR43 : Option Addr), ∃ (cR43 : Nat), ∃ (CR43 : Chunk), v' = .slice AR43 t41.length cR43 ∧ Ow (kInt .i64) G AR43 cR43 t41 CR43 ∧ N = [CR43]) (H := []) (i := 0) rfl hI (fun _ e l47 nl47 hI => by subst e; exact (((vector_Join_calls k ([t32.2.f0, a0e0.f0] : List (List Int)) (some ⟨b38, 0, none⟩) 2 ((Ow.lit (kd := (kSlice (kInt .i64))) (b := b38) (T := 27) (xs := ([t32.2.f0, a0e0.f0] : List (List Int))) (cs := [.slice AR34p0_0 t32.2.f0.length cR34p0_0, .slice Aa0e0_f0 a0e0.f0.length ca0e0_f0]) (.cons (x := t32.2.f0) (cs := [.slice AR34p0_0 t32.2.f0.length cR34p0_0]) ⟨AR34p0_0, cR34p0_0, rfl, ((HR34p0_0.rdN l45 nl45).mono l46)⟩ (.cons (x := a0e0.f0) (cs := [.slice Aa0e0_f0 a0e0.f0.length ca0e0_f0]) ⟨Aa0e0_f0, ca0e0_f0, rfl, ((Ha0e0_f0.mono l45).rdN l46 nl46)⟩ .nil))).rdN l47 nl47) t41 ht42 hI)).mono fun _ _ hr => by obtain ⟨_, _, _, rfl, hd, hI⟩ := hr; obtain ⟨AR43, cR43, CR43, rfl, HR43, rfl, rfl⟩ := hd; exact ⟨_, _, _, rfl, ⟨[CR43], ⟨AR43, cR43, CR43, rfl, (HR43.flat (kInt_flat _)), rfl⟩, rfl, rfl⟩, hI⟩))))).mono fun _ _ hr => by obtain ⟨_, _, _, rfl, ⟨_, hd, rfl, rfl⟩, hI⟩ := hr; obtain ⟨AR43, cR43, CR43, rfl, HR43, rfl⟩ := hd; exact ⟨_, _, _, rfl, ⟨AR43, cR43, CR43, rfl, HR43, rfl, rfl⟩, hI⟩)) ?_
          rintro _ _ _ ⟨AR43, cR43, CR43, rfl, HR43, rfl, rfl⟩
          refine ⟨_, _, Under.cons (Under.refl), Under.refl, ?_⟩
          refine WA.pure [11, 12] [3, 5, 10, 11, 12, 20, 21, 22, 23, 24, 25, 26, 27, 28, 29, 30, 31, 32, 33, 34, 50, 52] (m := 1) (b' := 8191) (L' := [(3, .pointer (some ⟨bR6, 0, none⟩)), (5, .pointer (some ⟨bp0e0, 0, none⟩)), (10, .slice (some ⟨bp0, 0, none⟩) 3 3), (11, .int .i64 3), (12, .int .i64 2), (20, .int .i64 2), (21, .bool true), (22, .bool true), (23, .pointer (some ⟨bp0e0, 0, none⟩)), (24, .pointer (some ⟨bp0e0, 0, none⟩)), (25, .pointer (some ⟨bp0e0, 0, none⟩)), (26, .slice Aa0e0_f0 a0e0.f0.length ca0e0_f0), (27, .int .i64 (a0e0.f0.length : Int)), (28, .pointer (some ⟨bR6, 0, none⟩)), (29, .pointer (some ⟨bR6, 0, none⟩)), (30, .pointer (some ⟨bR6, 0, none⟩)), (31, .slice AR34p0_0 t32.2.f0.length cR34p0_0), (32, .int .i64 (t32.2.f0.length : Int)), (33, .bool ((a0e0.f0.length : Int) != (t32.2.f0.length : Int))), (34, .bool ((a0e0.f0.length : Int) != (t32.2.f0.length : Int))), (50, .slice AR43 t41.length cR43), (52, .pointer (some ⟨bR6, 0, none⟩))]) (by kernel_rfl) (NoPanic.then (NoPanic.block (NoPanic.then (NoPanic.then (NoPanic.block (NoPanic.then (NoPanic.then (NoPanic.body)))))))) Under.refl hS (by kernel_rfl) ?_
          refine WA.opK (i := 13) (kw' := 14) (m := 0) (b' := 16383) (by kernel_rfl) rfl hS (by kernel_rfl) (op := .store 27 (.tmp 52) (.tmp 50)) (ty := 0) (d := none) (g := none) (by kernel_rfl) (by kernel_rfl) (by kernel_rfl) (Does.store_box (i := 2) (b := bR6) (o := 0) (v := .slice AR43 t41.length cR43) (by rfl) sz27 (by kernel_rfl) (by kernel_rfl) (by kernel_rfl) (Free.zero _) (Nat.le_of_ble_eq_true rfl) (cells' := #[.slice AR43 t41.length cR43, .slice AR34p0_1 t32.2.f1.length cR34p0_1, mpv AR34p0_2]) (by kernel_rfl)) ?_
          rintro _ _ _ ⟨rfl, rfl, rfl⟩
          refine ⟨_, _, Under.refl, ?_⟩
          refine WA.done hS (by kernel_rfl) ?_
          refine QP.pick [3, 5, 10, 11, 12, 20, 21, 22, 23, 24, 25, 26, 27, 28, 29, 30, 31, 32, 33, 34] ?_
          refine QP.next ?_
          refine WP.dropAt 1 ?_
          refine WP.seq ?_
          refine WP.seqR ?_
          refine WL.pure 0 3 [3, 5, 10, 11, 12, 20, 21, 22, 23, 24, 25, 26, 27, 28, 29, 30, 31, 32, 33, 34, 55] (L' := [(3, .pointer (some ⟨bR6, 0, none⟩)), (5, .pointer (some ⟨bp0e0, 0, none⟩)), (10, .slice (some ⟨bp0, 0, none⟩) 3 3), (11, .int .i64 3), (12, .int .i64 2), (20, .int .i64 2), (21, .bool true), (22, .bool true), (23, .pointer (some ⟨bp0e0, 0, none⟩)), (24, .pointer (some ⟨bp0e0, 0, none⟩)), (25, .pointer (some ⟨bp0e0, 0, none⟩)), (26, .slice Aa0e0_f0 a0e0.f0.length ca0e0_f0), (27, .int .i64 (a0e0.f0.length : Int)), (28, .pointer (some ⟨bR6, 0, none⟩)), (29, .pointer (some ⟨bR6, 0, none⟩)), (30, .pointer (some ⟨bR6, 0, none⟩)), (31, .slice AR34p0_0 t32.2.f0.length cR34p0_0), (32, .int .i64 (t32.2.f0.length : Int)), (33, .bool ((a0e0.f0.length : Int) != (t32.2.f0.length : Int))), (34, .bool ((a0e0.f0.length : Int) != (t32.2.f0.length : Int))), (55, .pointer (some ⟨bp0e0, 2, none⟩))]) (by kernel_rfl) (by decide) ?_
          refine WL.tell (op := .load 61 (.tmp 55)) (ty := 61) (d := some 56) (g := none) (by kernel_rfl) (by kernel_rfl) (by kernel_rfl) (Tells.load_box (i := 5) (b := bp0e0) (o := 2) (agg := false) (by rfl) ag61 (by kernel_rfl) (fun _ => rfl) (Nat.le_of_ble_eq_true rfl) (v := mpv Aa0e0_f2) (by kernel_rfl)) ?_
          refine WL.op (op := .range 61 (.tmp 56)) (ty := 0) (d := some 57) (g := none) (by kernel_rfl) (by kernel_rfl) (by kernel_rfl) (Does.rangeF mt61 Ha0e0_f2 (i := 8) rfl (by kernel_rfl)) ?_
          rintro _ _ _ ⟨it48, Cit48, rfl, Hit48, rfl, rfl⟩
          refine WL.addNil ?_
          refine WL.restQ 5 [3, 5, 10, 11, 12, 20, 21, 22, 23, 24, 25, 26, 27, 28, 29, 30, 31, 32, 33, 34, 57] (L' := [(3, .pointer (some ⟨bR6, 0, none⟩)), (5, .pointer (some ⟨bp0e0, 0, none⟩)), (10, .slice (some ⟨bp0, 0, none⟩) 3 3), (11, .int .i64 3), (12, .int .i64 2), (20, .int .i64 2), (21, .bool true), (22, .bool true), (23, .pointer (some ⟨bp0e0, 0, none⟩)), (24, .pointer (some ⟨bp0e0, 0, none⟩)), (25, .pointer (some ⟨bp0e0, 0, none⟩)), (26, .slice Aa0e0_f0 a0e0.f0.length ca0e0_f0), (27, .int .i64 (a0e0.f0.length : Int)), (28, .pointer (some ⟨bR6, 0, none⟩)), (29, .pointer (some ⟨bR6, 0, none⟩)), (30, .pointer (some ⟨bR6, 0, none⟩)), (31, .slice AR34p0_0 t32.2.f0.length cR34p0_0), (32, .int .i64 (t32.2.f0.length : Int)), (33, .bool ((a0e0.f0.length : Int) != (t32.2.f0.length : Int))), (34, .bool ((a0e0.f0.length : Int) != (t32.2.f0.length : Int))), (57, .pointer (some ⟨it48, 0, none⟩))]) (by kernel_rfl) ?_
          rw [Option.bind_eq_some_iff] at h
          obtain ⟨os49, h, hk50⟩ := h
          refine WP.cutQ (fun L' G' Γ' => ∃ s49 : T63, s49 = os49 ∧ ∃ (As49_f0 : Option Addr), ∃ (cs49_f0 : Nat), ∃ (Cs49_f0 : Chunk), ∃ (As49_f1 : Option Addr), ∃ (cs49_f1 : Nat), ∃ (Cs49_f1 : Chunk), ∃ (As49_f2 : Option Addr), ∃ (cs49_f2 : Nat), ∃ (Cs49_f2 : Chunk), L' = [(3, .pointer (some ⟨bR6, 0, none⟩)), (5, .pointer (some ⟨bp0e0, 0, none⟩)), (10, .slice (some ⟨bp0, 0, none⟩) 3 3), (11, .int .i64 3), (12, .int .i64 2), (20, .int .i64 2), (21, .bool true), (22, .bool true), (23, .pointer (some ⟨bp0e0, 0, none⟩)), (24, .pointer (some ⟨bp0e0, 0, none⟩)), (25, .pointer (some ⟨bp0e0, 0, none⟩)), (26, .slice Aa0e0_f0 a0e0.f0.length ca0e0_f0), (27, .int .i64 (a0e0.f0.length : Int)), (28, .pointer (some ⟨bR6, 0, none⟩)), (29, .pointer (some ⟨bR6, 0, none⟩)), (30, .pointer (some ⟨bR6, 0, none⟩)), (31, .slice AR34p0_0 t32.2.f0.length cR34p0_0), (32, .int .i64 (t32.2.f0.length : Int)), (33, .bool ((a0e0.f0.length : Int) != (t32.2.f0.length : Int))), (34, .bool ((a0e0.f0.length : Int) != (t32.2.f0.length : Int)))] ∧ G = G' ∧ [(bR6, .cells #[.slice As49_f0 s49.f0.length cs49_f0, .slice As49_f1 s49.f1.length cs49_f1, mpv As49_f2] 63 (0, 0))] :: Cs49_f0 :: Cs49_f1 :: Cs49_f2 :: CR34p0_0 :: [(bp0e0, .cells #[.slice Aa0e0_f0 a0e0.f0.length ca0e0_f0, .slice Aa0e0_f1 a0e0.f1.length ca0e0_f1, mpv Aa0e0_f2] 63 (0, 0))] :: Ca0e0_f0 :: Ca0e0_f1 :: Ca0e0_f2 :: [(bp0, .cells #[.pointer (some ⟨bp0e0, 0, none⟩), .pointer (some ⟨bp0e1, 0, none⟩), .pointer (some ⟨bp0e0, 0, none⟩)] 23 (0, 0))] :: [(bp0e1, .cells #[.slice Aa0e1_f0 a0e1.f0.length ca0e1_f0, .slice Aa0e1_f1 a0e1.f1.length ca0e1_f1, mpv Aa0e1_f2] 63 (0, 0))] :: Ca0e1_f0 :: Ca0e1_f1 :: Ca0e1_f2 :: Γ = Γ' ∧ Ow (kInt .i64) G As49_f0 cs49_f0 s49.f0 Cs49_f0 ∧ Ow (kInt .i64) G As49_f1 cs49_f1 s49.f1 Cs49_f1 ∧ MpF m61 G As49_f2 cs49_f2 s49.f2 Cs49_f2) ?_ ?_
          · clear hk50
            refine WP.block ?_
            refine WP.pick [3, 5, 10, 11, 12, 20, 21, 22, 23, 24, 25, 26, 27, 28, 29, 30, 31, 32, 33, 34, 57] ?_
            refine WP.loopF (fun kn53 L' G' Γ' => ∃ (y51 : List T30), ∃ (y52 : T63), state_Join_40_l1 a0e0 kn53 y51 y52 = some os49 ∧ ∃ (Cy51 : Chunk), ∃ (Ay52_f0 : Option Addr), ∃ (cy52_f0 : Nat), ∃ (Cy52_f0 : Chunk), ∃ (Ay52_f1 : Option Addr), ∃ (cy52_f1 : Nat), ∃ (Cy52_f1 : Chunk), ∃ (Ay52_f2 : Option Addr), ∃ (cy52_f2 : Nat), ∃ (Cy52_f2 : Chunk), L' = [(3, .pointer (some ⟨bR6, 0, none⟩)), (5, .pointer (some ⟨bp0e0, 0, none⟩)), (10, .slice (some ⟨bp0, 0, none⟩) 3 3), (11, .int .i64 3), (12, .int .i64 2), (20, .int .i64 2), (21, .bool true), (22, .bool true), (23, .pointer (some ⟨bp0e0, 0, none⟩)), (24, .pointer (some ⟨bp0e0, 0, none⟩)), (25, .pointer (some ⟨bp0e0, 0, none⟩)), (26, .slice Aa0e0_f0 a0e0.f0.length ca0e0_f0), (27, .int .i64 (a0e0.f0.length : Int)), (28, .pointer (some ⟨bR6, 0, none⟩)), (29, .pointer (some ⟨bR6, 0, none⟩)), (30, .pointer (some ⟨bR6, 0, none⟩)), (31, .slice AR34p0_0 t32.2.f0.length cR34p0_0), (32, .int .i64 (t32.2.f0.length : Int)), (33, .bool ((a0e0.f0.length : Int) != (t32.2.f0.length : Int))), (34, .bool ((a0e0.f0.length : Int) != (t32.2.f0.length : Int))), (57, .pointer (some ⟨it48, 0, none⟩))] ∧ G = G' ∧ [] :: Cy51 :: Cy52_f0 :: [(bR6, .cells #[.slice Ay52_f0 y52.f0.length cy52_f0, .slice Ay52_f1 y52.f1.length cy52_f1, mpv Ay52_f2] 63 (0, 0))] :: CR34p0_0 :: Cy52_f1 :: Cy52_f2 :: [(bp0e0, .cells #[.slice Aa0e0_f0 a0e0.f0.length ca0e0_f0, .slice Aa0e0_f1 a0e0.f1.length ca0e0_f1, mpv Aa0e0_f2] 63 (0, 0))] :: Ca0e0_f0 :: Ca0e0_f1 :: Ca0e0_f2 :: [(bp0, .cells #[.pointer (some ⟨bp0e0, 0, none⟩), .pointer (some ⟨bp0e1, 0, none⟩), .pointer (some ⟨bp0e0, 0, none⟩)] 23 (0, 0))] :: [(bp0e1, .cells #[.slice Aa0e1_f0 a0e1.f0.length ca0e1_f0, .slice Aa0e1_f1 a0e1.f1.length ca0e1_f1, mpv Aa0e1_f2] 63 (0, 0))] :: Ca0e1_f0 :: Ca0e1_f1 :: Ca0e1_f2 :: Γ = Γ' ∧ ItF m61 Aa0e0_f2 a0e0.f2 Ca0e0_f2 it48 y51 Cy51 ∧ Ow (kInt .i64) G Ay52_f0 cy52_f0 y52.f0 Cy52_f0 ∧ Ow (kInt .i64) G Ay52_f1 cy52_f1 y52.f1 Cy52_f1 ∧ MpF m61 G Ay52_f2 cy52_f2 y52.f2 Cy52_f2) ?_ k ⟨([] : List T30), (⟨t41, t32.2.f1, t32.2.f2⟩ : T63), h, Cit48, AR43, cR43, CR43, AR34p0_1, cR34p0_1, CR34p0_1, AR34p0_2, cR34p0_2, CR34p0_2, rfl, rfl, rfl, Hit48, HR43, HR34p0_1, HR34p0_2⟩
            clear h
            rintro kn54 _ _ _ ⟨y51, y52, h, Cy51, Ay52_f0, cy52_f0, Cy52_f0, Ay52_f1, cy52_f1, Cy52_f1, Ay52_f2, cy52_f2, Cy52_f2, rfl, rfl, rfl, Hy51, Hy52_f0, Hy52_f1, Hy52_f2⟩
            cases kn54 with
            | zero => exact absurd h (by simp [state_Join_40_l1])
            | succ kn54 =>
              simp only [state_Join_40_l1] at h
              refine WP.seqR ?_
              refine WL.op (op := .next (.tmp 57) false) (ty := 0) (d := some 58) (g := none) (by kernel_rfl) (by kernel_rfl) (by kernel_rfl) (Does.nextF Ha0e0_f2 Hy51 (i := 10) (j := 1) rfl rfl (by kernel_rfl)) ?_
              rintro _ _ _ (⟨rfl, hov, rfl, rfl⟩ | ⟨an55, en55, Cn55, rfl, hinn55, hnsn55, Hitn55, Hcurn55, rfl, rfl⟩)
              · rw [pickF_over hov] at h
                clear hov
                refine WL.restQ 1 [3, 5, 10, 11, 12, 20, 21, 22, 23, 24, 25, 26, 27, 28, 29, 30, 31, 32, 33, 34, 57, 59] (L' := [(3, .pointer (some ⟨bR6, 0, none⟩)), (5, .pointer (some ⟨bp0e0, 0, none⟩)), (10, .slice (some ⟨bp0, 0, none⟩) 3 3), (11, .int .i64 3), (12, .int .i64 2), (20, .int .i64 2), (21, .bool true), (22, .bool true), (23, .pointer (some ⟨bp0e0, 0, none⟩)), (24, .pointer (some ⟨bp0e0, 0, none⟩)), (25, .pointer (some ⟨bp0e0, 0, none⟩)), (26, .slice Aa0e0_f0 a0e0.f0.length ca0e0_f0), (27, .int .i64 (a0e0.f0.length : Int)), (28, .pointer (some ⟨bR6, 0, none⟩)), (29, .pointer (some ⟨bR6, 0, none⟩)), (30, .pointer (some ⟨bR6, 0, none⟩)), (31, .slice AR34p0_0 t32.2.f0.length cR34p0_0), (32, .int .i64 (t32.2.f0.length : Int)), (33, .bool ((a0e0.f0.length : Int) != (t32.2.f0.length : Int))), (34, .bool ((a0e0.f0.length : Int) != (t32.2.f0.length : Int))), (57, .pointer (some ⟨it48, 0, none⟩)), (59, .bool false)]) (by kernel_rfl) ?_
                refine WP.seq ?_
                refine WP.no (by kernel_rfl) ?_
                refine WP.exit ?_
                refine QP.thenE ?_
                refine QP.thenE ?_
                refine QP.blockE ?_
                refine QP.dropAt 1 ?_
                refine QP.dropAt 0 ?_
                refine QP.reperm (Γ' := [(bR6, .cells #[.slice Ay52_f0 y52.f0.length cy52_f0, .slice Ay52_f1 y52.f1.length cy52_f1, mpv Ay52_f2] 63 (0, 0))] :: Cy52_f0 :: Cy52_f1 :: Cy52_f2 :: CR34p0_0 :: [(bp0e0, .cells #[.slice Aa0e0_f0 a0e0.f0.length ca0e0_f0, .slice Aa0e0_f1 a0e0.f1.length ca0e0_f1, mpv Aa0e0_f2] 63 (0, 0))] :: Ca0e0_f0 :: Ca0e0_f1 :: Ca0e0_f2 :: [(bp0, .cells #[.pointer (some ⟨bp0e0, 0, none⟩), .pointer (some ⟨bp0e1, 0, none⟩), .pointer (some ⟨bp0e0, 0, none⟩)] 23 (0, 0))] :: [(bp0e1, .cells #[.slice Aa0e1_f0 a0e1.f0.length ca0e1_f0, .slice Aa0e1_f1 a0e1.f1.length ca0e1_f1, mpv Aa0e1_f2] 63 (0, 0))] :: Ca0e1_f0 :: Ca0e1_f1 :: Ca0e1_f2 :: Γ) (perm_sel [1, 0, 3, 4, 2] (by kernel_rfl) rfl) ?_
                refine QP.pick [3, 5, 10, 11, 12, 20, 21, 22, 23, 24, 25, 26, 27, 28, 29, 30, 31, 32, 33, 34] ?_
                exact QP.meet ⟨_, Option.some.inj h, Ay52_f0, cy52_f0, Cy52_f0, Ay52_f1, cy52_f1, Cy52_f1, Ay52_f2, cy52_f2, Cy52_f2, rfl, rfl, rfl, Hy52_f0, Hy52_f1, Hy52_f2⟩
              · replace h := pickF_pick h hinn55 hnsn55
                refine WL.restQ 1 [3, 5, 10, 11, 12, 20, 21, 22, 23, 24, 25, 26, 27, 28, 29, 30, 31, 32, 33, 34, 57, 59] (L' := [(3, .pointer (some ⟨bR6, 0, none⟩)), (5, .pointer (some ⟨bp0e0, 0, none⟩)), (10, .slice (some ⟨bp0, 0, none⟩) 3 3), (11, .int .i64 3), (12, .int .i64 2), (20, .int .i64 2), (21, .bool true), (22, .bool true), (23, .pointer (some ⟨bp0e0, 0, none⟩)), (24, .pointer (some ⟨bp0e0, 0, none⟩)), (25, .pointer (some ⟨bp0e0, 0, none⟩)), (26, .slice Aa0e0_f0 a0e0.f0.length ca0e0_f0), (27, .int .i64 (a0e0.f0.length : Int)), (28, .pointer (some ⟨bR6, 0, none⟩)), (29, .pointer (some ⟨bR6, 0, none⟩)), (30, .pointer (some ⟨bR6, 0, none⟩)), (31, .slice AR34p0_0 t32.2.f0.length cR34p0_0), (32, .int .i64 (t32.2.f0.length : Int)), (33, .bool ((a0e0.f0.length : Int) != (t32.2.f0.length : Int))), (34, .bool ((a0e0.f0.length : Int) != (t32.2.f0.length : Int))), (57, .pointer (some ⟨it48, 0, none⟩)), (59, .bool true)]) (by kernel_rfl) ?_
                refine WP.seq ?_
                refine WP.yes (by kernel_rfl) ?_
                refine WP.skip ?_
                refine QP.next ?_
                refine WP.pick [3, 5, 10, 11, 12, 20, 21, 22, 23, 24, 25, 26, 27, 28, 29, 30, 31, 32, 33, 34, 57] ?_
                refine WP.block ?_
                refine WP.seqR ?_
                refine WL.tell (op := .entry (.tmp 57)) (ty := 0) (d := some 60) (g := none) (by kernel_rfl) (by kernel_rfl) (by kernel_rfl) (Tells.entryF Hitn55 Hcurn55 (i := 10) (j := 1) rfl rfl (by kernel_rfl)) ?_
                refine WL.pure 1 3 [3, 5, 10, 11, 12, 20, 21, 22, 23, 24, 25, 26, 27, 28, 29, 30, 31, 32, 33, 34, 57, 61, 62] (L' := [(3, .pointer (some ⟨bR6, 0, none⟩)), (5, .pointer (some ⟨bp0e0, 0, none⟩)), (10, .slice (some ⟨bp0, 0, none⟩) 3 3), (11, .int .i64 3), (12, .int .i64 2), (20, .int .i64 2), (21, .bool true), (22, .bool true), (23, .pointer (some ⟨bp0e0, 0, none⟩)), (24, .pointer (some ⟨bp0e0, 0, none⟩)), (25, .pointer (some ⟨bp0e0, 0, none⟩)), (26, .slice Aa0e0_f0 a0e0.f0.length ca0e0_f0), (27, .int .i64 (a0e0.f0.length : Int)), (28, .pointer (some ⟨bR6, 0, none⟩)), (29, .pointer (some ⟨bR6, 0, none⟩)), (30, .pointer (some ⟨bR6, 0, none⟩)), (31, .slice AR34p0_0 t32.2.f0.length cR34p0_0), (32, .int .i64 (t32.2.f0.length : Int)), (33, .bool ((a0e0.f0.length : Int) != (t32.2.f0.length : Int))), (34, .bool ((a0e0.f0.length : Int) != (t32.2.f0.length : Int))), (57, .pointer (some ⟨it48, 0, none⟩)), (61, .agg #[.int .i64 an55.f0, .int .i64 an55.f1]), (62, .agg #[.int .i64 en55.f0, .int .i64 en55.f1, .int .i64 en55.f2, .int .i64 en55.f3, .string en55.f4])]) (by kernel_rfl) (by decide) ?_
                refine WL.op (op := .alloc 30) (ty := 0) (d := some 6) (g := none) (by kernel_rfl) (by kernel_rfl) (by kernel_rfl) (Does.new (o := .cells #[.int .i64 0, .int .i64 0] 30 (0, 0)) (v := fun r => .pointer (some ⟨r, 0, none⟩)) (fun r => by kernel_rfl)) ?_
                rintro _ _ _ ⟨b56, rfl, rfl, rfl⟩
                refine WL.op (op := .alloc 34) (ty := 0) (d := some 7) (g := none) (by kernel_rfl) (by kernel_rfl) (by kernel_rfl) (Does.new (o := .cells #[.int .i64 0, .int .i64 0, .int .i64 0, .int .i64 0, .string (⟨#[]⟩ : ByteArray)] 34 (0, 0)) (v := fun r => .pointer (some ⟨r, 0, none⟩)) (fun r => by kernel_rfl)) ?_
                rintro _ _ _ ⟨b57, rfl, rfl, rfl⟩
                refine WL.op (op := .store 30 (.tmp 6) (.tmp 61)) (ty := 0) (d := none) (g := none) (by kernel_rfl) (by kernel_rfl) (by kernel_rfl) (Does.store_box (i := 1) (b := b56) (o := 0) (v := .agg #[.int .i64 an55.f0, .int .i64 an55.f1]) (by rfl) sz30 (by kernel_rfl) (by kernel_rfl) (by kernel_rfl) (Free.zero _) (Nat.le_of_ble_eq_true rfl) (cells' := #[.int .i64 an55.f0, .int .i64 an55.f1]) (by kernel_rfl)) ?_
                rintro _ _ _ ⟨rfl, rfl, rfl⟩
                refine WL.op (op := .store 34 (.tmp 7) (.tmp 62)) (ty := 0) (d := none) (g := none) (by kernel_rfl) (by kernel_rfl) (by kernel_rfl) (Does.store_box (i := 0) (b := b57) (o := 0) (v := .agg #[.int .i64 en55.f0, .int .i64 en55.f1, .int .i64 en55.f2, .int .i64 en55.f3, .string en55.f4]) (by rfl) sz34 (by kernel_rfl) (by kernel_rfl) (by kernel_rfl) (Free.zero _) (Nat.le_of_ble_eq_true rfl) (cells' := #[.int .i64 en55.f0, .int .i64 en55.f1, .int .i64 en55.f2, .int .i64 en55.f3, .string en55.f4]) (by kernel_rfl)) ?_
                rintro _ _ _ ⟨rfl, rfl, rfl⟩
                refine WL.restQ 7 [3, 5, 6, 7, 10, 11, 12, 20, 21, 22, 23, 24, 25, 26, 27, 28, 29, 30, 31, 32, 33, 34, 57] (L' := [(3, .pointer (some ⟨bR6, 0, none⟩)), (5, .pointer (some ⟨bp0e0, 0, none⟩)), (6, .pointer (some ⟨b56, 0, none⟩)), (7, .pointer (some ⟨b57, 0, none⟩)), (10, .slice (some ⟨bp0, 0, none⟩) 3 3), (11, .int .i64 3), (12, .int .i64 2), (20, .int .i64 2), (21, .bool true), (22, .bool true), (23, .pointer (some ⟨bp0e0, 0, none⟩)), (24, .pointer (some ⟨bp0e0, 0, none⟩)), (25, .pointer (some ⟨bp0e0, 0, none⟩)), (26, .slice Aa0e0_f0 a0e0.f0.length ca0e0_f0), (27, .int .i64 (a0e0.f0.length : Int)), (28, .pointer (some ⟨bR6, 0, none⟩)), (29, .pointer (some ⟨bR6, 0, none⟩)), (30, .pointer (some ⟨bR6, 0, none⟩)), (31, .slice AR34p0_0 t32.2.f0.length cR34p0_0), (32, .int .i64 (t32.2.f0.length : Int)), (33, .bool ((a0e0.f0.length : Int) != (t32.2.f0.length : Int))), (34, .bool ((a0e0.f0.length : Int) != (t32.2.f0.length : Int))), (57, .pointer (some ⟨it48, 0, none⟩))]) (by kernel_rfl) ?_
                refine WP.seq ?_
                refine WP.any (N := 12) (S := [⟨some 64, [3], []⟩, ⟨some 65, [64], [0]⟩, ⟨some 66, [65], [1]⟩, ⟨some 67, [66], [2]⟩, ⟨some 68, [6], []⟩, ⟨some 69, [67, 68], [3, 4]⟩, ⟨some 63, [69], [5]⟩, ⟨some 70, [63], [6]⟩, ⟨some 71, [63], [6]⟩, ⟨some 8, [], []⟩, ⟨none, [8, 70], [0, 1, 2, 3, 4, 5, 6, 7, 9]⟩, ⟨some 9, [71], [0, 1, 2, 3, 4, 5, 6, 7, 8, 9, 10]⟩]) (kw := 10) (G0 := G) (Γ0 := [(b57, .cells #[.int .i64 en55.f0, .int .i64 en55.f1, .int .i64 en55.f2, .int .i64 en55.f3, .string en55.f4] 34 (0, 0))] :: [(b56, .cells #[.int .i64 an55.f0, .int .i64 an55.f1] 30 (0, 0))] :: [] :: Cn55 :: Cy52_f0 :: [(bR6, .cells #[.slice Ay52_f0 y52.f0.length cy52_f0, .slice Ay52_f1 y52.f1.length cy52_f1, mpv Ay52_f2] 63 (0, 0))] :: CR34p0_0 :: Cy52_f1 :: Cy52_f2 :: [(bp0e0, .cells #[.slice Aa0e0_f0 a0e0.f0.length ca0e0_f0, .slice Aa0e0_f1 a0e0.f1.length ca0e0_f1, mpv Aa0e0_f2] 63 (0, 0))] :: Ca0e0_f0 :: Ca0e0_f1 :: Ca0e0_f2 :: [(bp0, .cells #[.pointer (some ⟨bp0e0, 0, none⟩), .pointer (some ⟨bp0e1, 0, none⟩), .pointer (some ⟨bp0e0, 0, none⟩)] 23 (0, 0))] :: [(bp0e1, .cells #[.slice Aa0e1_f0 a0e1.f0.length ca0e1_f0, .slice Aa0e1_f1 a0e1.f1.length ca0e1_f1, mpv Aa0e1_f2] 63 (0, 0))] :: Ca0e1_f0 :: Ca0e1_f1 :: Ca0e1_f2 :: Γ) mo (by kernel_rfl) (fun hS => ?_)
                refine WA.pure [0, 1, 2] [3, 5, 6, 7, 10, 11, 12, 20, 21, 22, 23, 24, 25, 26, 27, 28, 29, 30, 31, 32, 33, 34, 57, 66] (m := 9) (b' := 7) (L' := [(3, .pointer (some ⟨bR6, 0, none⟩)), (5, .pointer (some ⟨bp0e0, 0, none⟩)), (6, .pointer (some ⟨b56, 0, none⟩)), (7, .pointer (some ⟨b57, 0, none⟩)), (10, .slice (some ⟨bp0, 0, none⟩) 3 3), (11, .int .i64 3), (12, .int .i64 2), (20, .int .i64 2), (21, .bool true), (22, .bool true), (23, .pointer (some ⟨bp0e0, 0, none⟩)), (24, .pointer (some ⟨bp0e0, 0, none⟩)), (25, .pointer (some ⟨bp0e0, 0, none⟩)), (26, .slice Aa0e0_f0 a0e0.f0.length ca0e0_f0), (27, .int .i64 (a0e0.f0.length : Int)), (28, .pointer (some ⟨bR6, 0, none⟩)), (29, .pointer (some ⟨bR6, 0, none⟩)), (30, .pointer (some ⟨bR6, 0, none⟩)), (31, .slice AR34p0_0 t32.2.f0.length cR34p0_0), (32, .int .i64 (t32.2.f0.length : Int)), (33, .bool ((a0e0.f0.length : Int) != (t32.2.f0.length : Int))), (34, .bool ((a0e0.f0.length : Int) != (t32.2.f0.length : Int))), (57, .pointer (some ⟨it48, 0, none⟩)), (66, .pointer (some ⟨bR6, 2, none⟩))]) (by kernel_rfl) (NoPanic.then (NoPanic.block (NoPanic.then (NoPanic.block (NoPanic.then (NoPanic.then (NoPanic.block (NoPanic.then (NoPanic.then (NoPanic.block (NoPanic.then (NoPanic.then (NoPanic.body))))))))))))) Under.refl hS (by kernel_rfl) ?_
                refine WA.tellD [10] (i := 3) (m := 8) (b' := 15) (by kernel_rfl) (NoPanic.then (NoPanic.block (NoPanic.then (NoPanic.block (NoPanic.then (NoPanic.then (NoPanic.block (NoPanic.then (NoPanic.then (NoPanic.block (NoPanic.then (NoPanic.then (NoPanic.body))))))))))))) Under.refl hS (by kernel_rfl) (op := .load 61 (.tmp 66)) (ty := 61) (d := some 67) (g := none) (by kernel_rfl) (by kernel_rfl) (by kernel_rfl) (Tells.load_box (i := 5) (b := bR6) (o := 2) (agg := false) (by rfl) ag61 (by kernel_rfl) (fun _ => rfl) (Nat.le_of_ble_eq_true rfl) (v := mpv Ay52_f2) (by kernel_rfl)) ?_
                refine WA.tellD [10] (i := 4) (m := 7) (b' := 31) (by kernel_rfl) (NoPanic.then (NoPanic.block (NoPanic.then (NoPanic.block (NoPanic.then (NoPanic.then (NoPanic.block (NoPanic.then (NoPanic.then (NoPanic.block (NoPanic.then (NoPanic.then (NoPanic.body))))))))))))) Under.refl hS (by kernel_rfl) (op := .load 30 (.tmp 6)) (ty := 30) (d := some 68) (g := none) (by kernel_rfl) (by kernel_rfl) (by kernel_rfl) (Tells.load_box (i := 1) (b := b56) (o := 0) (agg := true) (by rfl) ag30 (by kernel_rfl) (fun h => by cases h) (Nat.le_of_ble_eq_true rfl) (v := .agg #[.int .i64 an55.f0, .int .i64 an55.f1]) (by kernel_rfl)) ?_
                refine WA.tellD [10] (i := 5) (m := 6) (b' := 63) (by kernel_rfl) (NoPanic.then (NoPanic.block (NoPanic.then (NoPanic.block (NoPanic.then (NoPanic.then (NoPanic.block (NoPanic.then (NoPanic.then (NoPanic.block (NoPanic.then (NoPanic.then (NoPanic.body))))))))))))) Under.refl hS (by kernel_rfl) (op := .lookup 61 (.tmp 67) (.tmp 68) true) (ty := 73) (d := some 69) (g := none) (by kernel_rfl) (by kernel_rfl) (by kernel_rfl) (Tells.lookupOkF mt61 ko61 Hy52_f2 (i := 8) rfl (a := an55) (z := z34) (by kernel_rfl) (by kernel_rfl) mz61) ?_
                refine WA.pure [6, 7, 8] [3, 5, 6, 7, 10, 11, 12, 20, 21, 22, 23, 24, 25, 26, 27, 28, 29, 30, 31, 32, 33, 34, 57, 70, 71] (m := 3) (b' := 511) (L' := [(3, .pointer (some ⟨bR6, 0, none⟩)), (5, .pointer (some ⟨bp0e0, 0, none⟩)), (6, .pointer (some ⟨b56, 0, none⟩)), (7, .pointer (some ⟨b57, 0, none⟩)), (10, .slice (some ⟨bp0, 0, none⟩) 3 3), (11, .int .i64 3), (12, .int .i64 2), (20, .int .i64 2), (21, .bool true), (22, .bool true), (23, .pointer (some ⟨bp0e0, 0, none⟩)), (24, .pointer (some ⟨bp0e0, 0, none⟩)), (25, .pointer (some ⟨bp0e0, 0, none⟩)), (26, .slice Aa0e0_f0 a0e0.f0.length ca0e0_f0), (27, .int .i64 (a0e0.f0.length : Int)), (28, .pointer (some ⟨bR6, 0, none⟩)), (29, .pointer (some ⟨bR6, 0, none⟩)), (30, .pointer (some ⟨bR6, 0, none⟩)), (31, .slice AR34p0_0 t32.2.f0.length cR34p0_0), (32, .int .i64 (t32.2.f0.length : Int)), (33, .bool ((a0e0.f0.length : Int) != (t32.2.f0.length : Int))), (34, .bool ((a0e0.f0.length : Int) != (t32.2.f0.length : Int))), (57, .pointer (some ⟨it48, 0, none⟩)), (70, .agg #[.int .i64 (((y52.f2 an55).getD z34).f0), .int .i64 (((y52.f2 an55).getD z34).f1), .int .i64 (((y52.f2 an55).getD z34).f2), .int .i64 (((y52.f2 an55).getD z34).f3), .string (((y52.f2 an55).getD z34).f4)]), (71, .bool ((y52.f2 an55).isSome))]) (by kernel_rfl) (NoPanic.then (NoPanic.block (NoPanic.then (NoPanic.block (NoPanic.then (NoPanic.then (NoPanic.block (NoPanic.then (NoPanic.then (NoPanic.block (NoPanic.then (NoPanic.then (NoPanic.body))))))))))))) Under.refl hS (by kernel_rfl) ?_
                refine WA.op (i := 9) (m := 2) (b' := 1023) (by kernel_rfl) hS (by kernel_rfl) (op := .alloc 34) (ty := 0) (d := some 8) (g := none) (by kernel_rfl) (by kernel_rfl) (by kernel_rfl) (Does.new (o := .cells #[.int .i64 0, .int .i64 0, .int .i64 0, .int .i64 0, .string (⟨#[]⟩ : ByteArray)] 34 (0, 0)) (v := fun r => .pointer (some ⟨r, 0, none⟩)) (fun r => by kernel_rfl)) ?_
                rintro _ _ _ ⟨b58, rfl, rfl, rfl⟩
                refine ⟨_, _, Under.cons Under.refl, Under.refl, ?_⟩
                refine WA.opK (i := 10) (kw' := 12) (m := 1) (b' := 2047) (by kernel_rfl) rfl hS (by kernel_rfl) (op := .store 34 (.tmp 8) (.tmp 70)) (ty := 0) (d := none) (g := none) (by kernel_rfl) (by kernel_rfl) (by kernel_rfl) (Does.store_box (i := 0) (b := b58) (o := 0) (v := .agg #[.int .i64 (((y52.f2 an55).getD z34).f0), .int .i64 (((y52.f2 an55).getD z34).f1), .int .i64 (((y52.f2 an55).getD z34).f2), .int .i64 (((y52.f2 an55).getD z34).f3), .string (((y52.f2 an55).getD z34).f4)]) (by rfl) sz34 (by kernel_rfl) (by kernel_rfl) (by kernel_rfl) (Free.zero _) (Nat.le_of_ble_eq_true rfl) (cells' := #[.int .i64 (((y52.f2 an55).getD z34).f0), .int .i64 (((y52.f2 an55).getD z34).f1), .int .i64 (((y52.f2 an55).getD z34).f2), .int .i64 (((y52.f2 an55).getD z34).f3), .string (((y52.f2 an55).getD z34).f4)]) (by kernel_rfl)) ?_
                rintro _ _ _ ⟨rfl, rfl, rfl⟩
                refine ⟨_, _, Under.refl, ?_⟩
                refine WA.pure [11] [3, 5, 6, 7, 9, 10, 11, 12, 20, 21, 22, 23, 24, 25, 26, 27, 28, 29, 30, 31, 32, 33, 34, 57] (m := 0) (b' := 4095) (L' := [(3, .pointer (some ⟨bR6, 0, none⟩)), (5, .pointer (some ⟨bp0e0, 0, none⟩)), (6, .pointer (some ⟨b56, 0, none⟩)), (7, .pointer (some ⟨b57, 0, none⟩)), (9, .bool ((y52.f2 an55).isSome)), (10, .slice (some ⟨bp0, 0, none⟩) 3 3), (11, .int .i64 3), (12, .int .i64 2), (20, .int .i64 2), (21, .bool true), (22, .bool true), (23, .pointer (some ⟨bp0e0, 0, none⟩)), (24, .pointer (some ⟨bp0e0, 0, none⟩)), (25, .pointer (some ⟨bp0e0, 0, none⟩)), (26, .slice Aa0e0_f0 a0e0.f0.length ca0e0_f0), (27, .int .i64 (a0e0.f0.length : Int)), (28, .pointer (some ⟨bR6, 0, none⟩)), (29, .pointer (some ⟨bR6, 0, none⟩)), (30, .pointer (some ⟨bR6, 0, none⟩)), (31, .slice AR34p0_0 t32.2.f0.length cR34p0_0), (32, .int .i64 (t32.2.f0.length : Int)), (33, .bool ((a0e0.f0.length : Int) != (t32.2.f0.length : Int))), (34, .bool ((a0e0.f0.length : Int) != (t32.2.f0.length : Int))), (57, .pointer (some ⟨it48, 0, none⟩))]) (by kernel_rfl) (NoPanic.then (NoPanic.block (NoPanic.then (NoPanic.block (NoPanic.then (NoPanic.then (NoPanic.block (NoPanic.then (NoPanic.then (NoPanic.block (NoPanic.then (NoPanic.then (NoPanic.body))))))))))))) Under.refl hS (by kernel_rfl) ?_
                refine WA.done hS (by kernel_rfl) ?_
                refine QP.pick [3, 5, 6, 7, 9, 10, 11, 12, 20, 21, 22, 23, 24, 25, 26, 27, 28, 29, 30, 31, 32, 33, 34, 57] ?_
                refine QP.next ?_
                refine WP.dropAt 0 ?_
                refine WP.seqP [3, 5, 6, 7, 10, 11, 12, 20, 21, 22, 23, 24, 25, 26, 27, 28, 29, 30, 31, 32, 33, 34, 57, 73] (L' := [(3, .pointer (some ⟨bR6, 0, none⟩)), (5, .pointer (some ⟨bp0e0, 0, none⟩)), (6, .pointer (some ⟨b56, 0, none⟩)), (7, .pointer (some ⟨b57, 0, none⟩)), (10, .slice (some ⟨bp0, 0, none⟩) 3 3), (11, .int .i64 3), (12, .int .i64 2), (20, .int .i64 2), (21, .bool true), (22, .bool true), (23, .pointer (some ⟨bp0e0, 0, none⟩)), (24, .pointer (some ⟨bp0e0, 0, none⟩)), (25, .pointer (some ⟨bp0e0, 0, none⟩)), (26, .slice Aa0e0_f0 a0e0.f0.length ca0e0_f0), (27, .int .i64 (a0e0.f0.length : Int)), (28, .pointer (some ⟨bR6, 0, none⟩)), (29, .pointer (some ⟨bR6, 0, none⟩)), (30, .pointer (some ⟨bR6, 0, none⟩)), (31, .slice AR34p0_0 t32.2.f0.length cR34p0_0), (32, .int .i64 (t32.2.f0.length : Int)), (33, .bool ((a0e0.f0.length : Int) != (t32.2.f0.length : Int))), (34, .bool ((a0e0.f0.length : Int) != (t32.2.f0.length : Int))), (57, .pointer (some ⟨it48, 0, none⟩)), (73, .bool (!((y52.f2 an55).isSome)))]) (by kernel_rfl) ?_
                refine WP.cond (b := (!((y52.f2 an55).isSome))) (by kernel_rfl) (fun hc => ?_) (fun hc => ?_)
                · replace hc := hc
                  rw [if_pos hc] at h
                  have hc59 := hc
                  clear hc
                  skip
                  refine WP.any (N := 7) (S := [⟨some 74, [3], []⟩, ⟨some 75, [74], [0]⟩, ⟨some 76, [75], [1]⟩, ⟨some 77, [76], [2]⟩, ⟨some 78, [6], []⟩, ⟨some 79, [7], []⟩, ⟨none, [77, 78, 79], [0, 1, 2, 3, 4, 5]⟩]) (kw := 6) (G0 := G) (Γ0 := [(b57, .cells #[.int .i64 en55.f0, .int .i64 en55.f1, .int .i64 en55.f2, .int .i64 en55.f3, .string en55.f4] 34 (0, 0))] :: [(b56, .cells #[.int .i64 an55.f0, .int .i64 an55.f1] 30 (0, 0))] :: [] :: Cn55 :: Cy52_f0 :: [(bR6, .cells #[.slice Ay52_f0 y52.f0.length cy52_f0, .slice Ay52_f1 y52.f1.length cy52_f1, mpv Ay52_f2] 63 (0, 0))] :: CR34p0_0 :: Cy52_f1 :: Cy52_f2 :: [(bp0e0, .cells #[.slice Aa0e0_f0 a0e0.f0.length ca0e0_f0, .slice Aa0e0_f1 a0e0.f1.length ca0e0_f1, mpv Aa0e0_f2] 63 (0, 0))] :: Ca0e0_f0 :: Ca0e0_f1 :: Ca0e0_f2 :: [(bp0, .cells #[.pointer (some ⟨bp0e0, 0, none⟩), .pointer (some ⟨bp0e1, 0, none⟩), .pointer (some ⟨bp0e0, 0, none⟩)] 23 (0, 0))] :: [(bp0e1, .cells #[.slice Aa0e1_f0 a0e1.f0.length ca0e1_f0, .slice Aa0e1_f1 a0e1.f1.length ca0e1_f1, mpv Aa0e1_f2] 63 (0, 0))] :: Ca0e1_f0 :: Ca0e1_f1 :: Ca0e1_f2 :: Γ) mo (by kernel_rfl) (fun hS => ?_)
                  refine WA.pure [0, 1, 2] [3, 5, 6, 7, 10, 11, 12, 20, 21, 22, 23, 24, 25, 26, 27, 28, 29, 30, 31, 32, 33, 34, 57, 76] (m := 4) (b' := 7) (L' := [(3, .pointer (some ⟨bR6, 0, none⟩)), (5, .pointer (some ⟨bp0e0, 0, none⟩)), (6, .pointer (some ⟨b56, 0, none⟩)), (7, .pointer (some ⟨b57, 0, none⟩)), (10, .slice (some ⟨bp0, 0, none⟩) 3 3), (11, .int .i64 3), (12, .int .i64 2), (20, .int .i64 2), (21, .bool true), (22, .bool true), (23, .pointer (some ⟨bp0e0, 0, none⟩)), (24, .pointer (some ⟨bp0e0, 0, none⟩)), (25, .pointer (some ⟨bp0e0, 0, none⟩)), (26, .slice Aa0e0_f0 a0e0.f0.length ca0e0_f0), (27, .int .i64 (a0e0.f0.length : Int)), (28, .pointer (some ⟨bR6, 0, none⟩)), (29, .pointer (some ⟨bR6, 0, none⟩)), (30, .pointer (some ⟨bR6, 0, none⟩)), (31, .slice AR34p0_0 t32.2.f0.length cR34p0_0), (32, .int .i64 (t32.2.f0.length : Int)), (33, .bool ((a0e0.f0.length : Int) != (t32.2.f0.length : Int))), (34, .bool ((a0e0.f0.length : Int) != (t32.2.f0.length : Int))), (57, .pointer (some ⟨it48, 0, none⟩)), (76, .pointer (some ⟨bR6, 2, none⟩))]) (by kernel_rfl) (NoPanic.block (NoPanic.then (NoPanic.block (NoPanic.then (NoPanic.then (NoPanic.block (NoPanic.then (NoPanic.then (NoPanic.block (NoPanic.then (NoPanic.then (NoPanic.body)))))))))))) Under.refl hS (by kernel_rfl) ?_
                  refine WA.tellD [6] (i := 3) (m := 3) (b' := 15) (by kernel_rfl) (NoPanic.block (NoPanic.then (NoPanic.block (NoPanic.then (NoPanic.then (NoPanic.block (NoPanic.then (NoPanic.then (NoPanic.block (NoPanic.then (NoPanic.then (NoPanic.body)))))))))))) Under.refl hS (by kernel_rfl) (op := .load 61 (.tmp 76)) (ty := 61) (d := some 77) (g := none) (by kernel_rfl) (by kernel_rfl) (by kernel_rfl) (Tells.load_box (i := 5) (b := bR6) (o := 2) (agg := false) (by rfl) ag61 (by kernel_rfl) (fun _ => rfl) (Nat.le_of_ble_eq_true rfl) (v := mpv Ay52_f2) (by kernel_rfl)) ?_
                  refine WA.tellD [6] (i := 4) (m := 2) (b' := 31) (by kernel_rfl) (NoPanic.block (NoPanic.then (NoPanic.block (NoPanic.then (NoPanic.then (NoPanic.block (NoPanic.then (NoPanic.then (NoPanic.block (NoPanic.then (NoPanic.then (NoPanic.body)))))))))))) Under.refl hS (by kernel_rfl) (op := .load 30 (.tmp 6)) (ty := 30) (d := some 78) (g := none) (by kernel_rfl) (by kernel_rfl) (by kernel_rfl) (Tells.load_box (i := 1) (b := b56) (o := 0) (agg := true) (by rfl) ag30 (by kernel_rfl) (fun h => by cases h) (Nat.le_of_ble_eq_true rfl) (v := .agg #[.int .i64 an55.f0, .int .i64 an55.f1]) (by kernel_rfl)) ?_
                  refine WA.tellD [6] (i := 5) (m := 1) (b' := 63) (by kernel_rfl) (NoPanic.block (NoPanic.then (NoPanic.block (NoPanic.then (NoPanic.then (NoPanic.block (NoPanic.then (NoPanic.then (NoPanic.block (NoPanic.then (NoPanic.then (NoPanic.body)))))))))))) Under.refl hS (by kernel_rfl) (op := .load 34 (.tmp 7)) (ty := 34) (d := some 79) (g := none) (by kernel_rfl) (by kernel_rfl) (by kernel_rfl) (Tells.load_box (i := 0) (b := b57) (o := 0) (agg := true) (by rfl) ag34 (by kernel_rfl) (fun h => by cases h) (Nat.le_of_ble_eq_true rfl) (v := .agg #[.int .i64 en55.f0, .int .i64 en55.f1, .int .i64 en55.f2, .int .i64 en55.f3, .string en55.f4]) (by kernel_rfl)) ?_
                  refine WA.opK (i := 6) (kw' := 7) (m := 0) (b' := 127) (by kernel_rfl) rfl hS (by kernel_rfl) (op := .mapUpdate 61 (.tmp 77) (.tmp 78) (.tmp 79)) (ty := 0) (d := none) (g := none) (by kernel_rfl) (by kernel_rfl) (by kernel_rfl) (Does.mapPutF mt61 ko61 Hy52_f2 (i := 8) rfl (a := an55) (v := en55) (by kernel_rfl) (by kernel_rfl) (by kernel_rfl)) ?_
                  rintro _ _ _ ⟨rfl, rfl, CN60, HN60, rfl⟩
                  refine ⟨_, _, Under.refl, ?_⟩
                  refine WA.done hS (by kernel_rfl) ?_
                  refine QP.pick [3, 5, 10, 11, 12, 20, 21, 22, 23, 24, 25, 26, 27, 28, 29, 30, 31, 32, 33, 34, 57] ?_
                  refine QP.blockN ?_
                  refine QP.dropAt 1 ?_
                  refine QP.dropAt 0 ?_
                  refine QP.pick [3, 5, 10, 11, 12, 20, 21, 22, 23, 24, 25, 26, 27, 28, 29, 30, 31, 32, 33, 34, 57] ?_
                  exact QP.meet ⟨kn54, Nat.lt_succ_self _, (an55 :: y51), (⟨y52.f0, y52.f1, (fput y52.f2 an55 en55)⟩ : T63), h, Cn55, Ay52_f0, cy52_f0, Cy52_f0, Ay52_f1, cy52_f1, Cy52_f1, Ay52_f2, cy52_f2, CN60, rfl, rfl, rfl, Hitn55, Hy52_f0, Hy52_f1, HN60⟩
                · replace hc := (Bool.eq_false_iff.1 hc)
                  rw [if_neg hc] at h
                  have hc59 := hc
                  clear hc
                  refine WP.skip ?_
                  refine QP.blockN ?_
                  refine QP.dropAt 1 ?_
                  refine QP.dropAt 0 ?_
                  refine QP.pick [3, 5, 10, 11, 12, 20, 21, 22, 23, 24, 25, 26, 27, 28, 29, 30, 31, 32, 33, 34, 57] ?_
                  exact QP.meet ⟨kn54, Nat.lt_succ_self _, (an55 :: y51), y52, h, Cn55, Ay52_f0, cy52_f0, Cy52_f0, Ay52_f1, cy52_f1, Cy52_f1, Ay52_f2, cy52_f2, Cy52_f2, rfl, rfl, rfl, Hitn55, Hy52_f0, Hy52_f1, Hy52_f2⟩
          · rintro _ _ _ ⟨s49, rfl, As49_f0, cs49_f0, Cs49_f0, As49_f1, cs49_f1, Cs49_f1, As49_f2, cs49_f2, Cs49_f2, rfl, rfl, rfl, Hs49_f0, Hs49_f1, Hs49_f2⟩
            clear h
            replace h := hk50
            refine QP.next ?_
            refine WP.pick [3, 5, 10, 11, 12, 20, 21, 22, 23, 24, 25, 26, 27, 28, 29, 30, 31, 32, 33, 34] ?_
            refine WP.region ?_
            refine WL.pure 0 4 [3, 10, 11, 12, 20, 21, 22, 23, 24, 25, 26, 27, 28, 29, 30, 31, 32, 33, 34, 80, 83] (L' := [(3, .pointer (some ⟨bR6, 0, none⟩)), (10, .slice (some ⟨bp0, 0, none⟩) 3 3), (11, .int .i64 3), (12, .int .i64 2), (20, .int .i64 2), (21, .bool true), (22, .bool true), (23, .pointer (some ⟨bp0e0, 0, none⟩)), (24, .pointer (some ⟨bp0e0, 0, none⟩)), (25, .pointer (some ⟨bp0e0, 0, none⟩)), (26, .slice Aa0e0_f0 a0e0.f0.length ca0e0_f0), (27, .int .i64 (a0e0.f0.length : Int)), (28, .pointer (some ⟨bR6, 0, none⟩)), (29, .pointer (some ⟨bR6, 0, none⟩)), (30, .pointer (some ⟨bR6, 0, none⟩)), (31, .slice AR34p0_0 t32.2.f0.length cR34p0_0), (32, .int .i64 (t32.2.f0.length : Int)), (33, .bool ((a0e0.f0.length : Int) != (t32.2.f0.length : Int))), (34, .bool ((a0e0.f0.length : Int) != (t32.2.f0.length : Int))), (80, .pointer (some ⟨bR6, 0, none⟩)), (83, .pointer (some ⟨bp0e0, 1, none⟩))]) (by kernel_rfl) (by decide) ?_
            refine WL.tell (op := .load 27 (.tmp 83)) (ty := 27) (d := some 84) (g := none) (by kernel_rfl) (by kernel_rfl) (by kernel_rfl) (Tells.load_box (i := 5) (b := bp0e0) (o := 1) (agg := false) (by rfl) ag27 (by kernel_rfl) (fun _ => rfl) (Nat.le_of_ble_eq_true rfl) (v := .slice Aa0e0_f1 a0e0.f1.length ca0e0_f1) (by kernel_rfl)) ?_
            rw [Option.bind_eq_some_iff] at h
            obtain ⟨t61, ht62, h⟩ := h
            refine WL.op (op := .call { callee := (.value (.func 15)), args := #[(.tmp 80), (.tmp 84)], argTypes := #[23, 27] }) (ty := 3) (d := some 85) (g := none) (by kernel_rfl) (by kernel_rfl) (by kernel_rfl) (Does.call (Φ := fun v' G' Γ' => ∃ (AR63p0_0 : Option Addr), ∃ (cR63p0_0 : Nat), ∃ (CR63p0_0 : Chunk), ∃ (AR63p0_1 : Option Addr), ∃ (cR63p0_1 : Nat), ∃ (CR63p0_1 : Chunk), ∃ (AR63p0_2 : Option Addr), ∃ (cR63p0_2 : Nat), ∃ (CR63p0_2 : Chunk), v' = .int .i64 t61.1 ∧ Ow (kInt .i64) G AR63p0_0 cR63p0_0 t61.2.f0 CR63p0_0 ∧ Ow (kInt .i64) G AR63p0_1 cR63p0_1 t61.2.f1 CR63p0_1 ∧ MpF m61 G AR63p0_2 cR63p0_2 t61.2.f2 CR63p0_2 ∧ G = G' ∧ [(bR6, .cells #[.slice AR63p0_0 t61.2.f0.length cR63p0_0, .slice AR63p0_1 t61.2.f1.length cR63p0_1, mpv AR63p0_2] 63 (0, 0))] :: CR63p0_0 :: CR63p0_1 :: CR63p0_2 :: CR34p0_0 :: [(bp0e0, .cells #[.slice Aa0e0_f0 a0e0.f0.length ca0e0_f0, .slice Aa0e0_f1 a0e0.f1.length ca0e0_f1, mpv Aa0e0_f2] 63 (0, 0))] :: Ca0e0_f0 :: Ca0e0_f1 :: Ca0e0_f2 :: [(bp0, .cells #[.pointer (some ⟨bp0e0, 0, none⟩), .pointer (some ⟨bp0e1, 0, none⟩), .pointer (some ⟨bp0e0, 0, none⟩)] 23 (0, 0))] :: [(bp0e1, .cells #[.slice Aa0e1_f0 a0e1.f0.length ca0e1_f0, .slice Aa0e1_f1 a0e1.f1.length ca0e1_f1, mpv Aa0e1_f2] 63 (0, 0))] :: Ca0e1_f0 :: Ca0e1_f1 :: Ca0e1_f2 :: Γ = Γ') (f := 15) (args := [.pointer (some ⟨bR6, 0, none⟩), .slice Aa0e0_f1 a0e0.f1.length ca0e0_f1]) (by kernel_rfl) (fun W hI => (Calls.lendN (Φ := fun v' N => ∃ (AR63p0_0 : Option Addr), ∃ (cR63p0_0 : Nat), ∃ (CR63p0_0 : Chunk), ∃ (AR63p0_1 : Option Addr), ∃ (cR63p0_1 : Nat), ∃ (CR63p0_1 : Chunk), ∃ (AR63p0_2 : Option Addr), ∃ (cR63p0_2 : Nat), ∃ (CR63p0_2 : Chunk), v' = .int .i64 t61.1 ∧ Ow (kInt .i64) G AR63p0_0 cR63p0_0 t61.2.f0 CR63p0_0 ∧ Ow (kInt .i64) G AR63p0_1 cR63p0_1 t61.2.f1 CR63p0_1 ∧ MpF m61 G AR63p0_2 cR63p0_2 t61.2.f2 CR63p0_2 ∧ N = [[(bR6, .cells #[.slice AR63p0_0 t61.2.f0.length cR63p0_0, .slice AR63p0_1 t61.2.f1.length cR63p0_1, mpv AR63p0_2] 63 (0, 0))], CR63p0_0, CR63p0_1, CR63p0_2]) (H := [[(bR6, .cells #[.slice As49_f0 s49.f0.length cs49_f0, .slice As49_f1 s49.f1.length cs49_f1, mpv As49_f2] 63 (0, 0))], Cs49_f0, Cs49_f1, Cs49_f2]) (i := 3) rfl hI (fun _ e l65 nl65 hI => by subst e; exact (((state_State_Raise_calls k s49 a0e0.f1 bR6 As49_f0 cs49_f0 Cs49_f0 (Hs49_f0.mono l65) As49_f1 cs49_f1 Cs49_f1 (Hs49_f1.mono l65) As49_f2 cs49_f2 Cs49_f2 (Hs49_f2.mono l65) Aa0e0_f1 ca0e0_f1 (Ha0e0_f1.rdN l65 nl65) t61 ht62 hI)).mono fun _ _ hr => by obtain ⟨_, _, _, rfl, hd, hI⟩ := hr; obtain ⟨AR63p0_0, cR63p0_0, CR63p0_0, AR63p0_1, cR63p0_1, CR63p0_1, AR63p0_2, cR63p0_2, CR63p0_2, rfl, HR63p0_0, HR63p0_1, HR63p0_2, rfl, rfl⟩ := hd; exact ⟨_, _, _, rfl, ⟨[[(bR6, .cells #[.slice AR63p0_0 t61.2.f0.length cR63p0_0, .slice AR63p0_1 t61.2.f1.length cR63p0_1, mpv AR63p0_2] 63 (0, 0))], CR63p0_0, CR63p0_1, CR63p0_2], ⟨AR63p0_0, cR63p0_0, CR63p0_0, AR63p0_1, cR63p0_1, CR63p0_1, AR63p0_2, cR63p0_2, CR63p0_2, rfl, (HR63p0_0.flat (kInt_flat _)), (HR63p0_1.flat (kInt_flat _)), (HR63p0_2.flat ()), rfl⟩, rfl, rfl⟩, hI⟩))).mono fun _ _ hr => by obtain ⟨_, _, _, rfl, ⟨_, hd, rfl, rfl⟩, hI⟩ := hr; obtain ⟨AR63p0_0, cR63p0_0, CR63p0_0, AR63p0_1, cR63p0_1, CR63p0_1, AR63p0_2, cR63p0_2, CR63p0_2, rfl, HR63p0_0, HR63p0_1, HR63p0_2, rfl⟩ := hd; exact ⟨_, _, _, rfl, ⟨AR63p0_0, cR63p0_0, CR63p0_0, AR63p0_1, cR63p0_1, CR63p0_1, AR63p0_2, cR63p0_2, CR63p0_2, rfl, HR63p0_0, HR63p0_1, HR63p0_2, rfl, rfl⟩, hI⟩)) ?_
            rintro _ _ _ ⟨AR63p0_0, cR63p0_0, CR63p0_0, AR63p0_1, cR63p0_1, CR63p0_1, AR63p0_2, cR63p0_2, CR63p0_2, rfl, HR63p0_0, HR63p0_1, HR63p0_2, rfl, rfl⟩
            refine WL.rest 6 [3, 10, 11, 12, 20, 21, 22, 23, 24, 25, 26, 27, 28, 29, 30, 31, 32, 33, 34] (L' := [(3, .pointer (some ⟨bR6, 0, none⟩)), (10, .slice (some ⟨bp0, 0, none⟩) 3 3), (11, .int .i64 3), (12, .int .i64 2), (20, .int .i64 2), (21, .bool true), (22, .bool true), (23, .pointer (some ⟨bp0e0, 0, none⟩)), (24, .pointer (some ⟨bp0e0, 0, none⟩)), (25, .pointer (some ⟨bp0e0, 0, none⟩)), (26, .slice Aa0e0_f0 a0e0.f0.length ca0e0_f0), (27, .int .i64 (a0e0.f0.length : Int)), (28, .pointer (some ⟨bR6, 0, none⟩)), (29, .pointer (some ⟨bR6, 0, none⟩)), (30, .pointer (some ⟨bR6, 0, none⟩)), (31, .slice AR34p0_0 t32.2.f0.length cR34p0_0), (32, .int .i64 (t32.2.f0.length : Int)), (33, .bool ((a0e0.f0.length : Int) != (t32.2.f0.length : Int))), (34, .bool ((a0e0.f0.length : Int) != (t32.2.f0.length : Int)))]) (by kernel_rfl) ?_
            refine QP.blockN ?_
            refine QP.next ?_
            refine WP.pick [3, 10, 11, 12, 20, 21, 22, 23, 24, 25, 26, 27, 28, 29, 30, 31, 32, 33, 34] ?_
            refine WP.regionP [3, 10, 11, 12, 20, 21, 22, 23, 24, 25, 26, 27, 28, 29, 30, 31, 32, 33, 34] (L' := [(3, .pointer (some ⟨bR6, 0, none⟩)), (10, .slice (some ⟨bp0, 0, none⟩) 3 3), (11, .int .i64 3), (12, .int .i64 3), (20, .int .i64 2), (21, .bool true), (22, .bool true), (23, .pointer (some ⟨bp0e0, 0, none⟩)), (24, .pointer (some ⟨bp0e0, 0, none⟩)), (25, .pointer (some ⟨bp0e0, 0, none⟩)), (26, .slice Aa0e0_f0 a0e0.f0.length ca0e0_f0), (27, .int .i64 (a0e0.f0.length : Int)), (28, .pointer (some ⟨bR6, 0, none⟩)), (29, .pointer (some ⟨bR6, 0, none⟩)), (30, .pointer (some ⟨bR6, 0, none⟩)), (31, .slice AR34p0_0 t32.2.f0.length cR34p0_0), (32, .int .i64 (t32.2.f0.length : Int)), (33, .bool ((a0e0.f0.length : Int) != (t32.2.f0.length : Int))), (34, .bool ((a0e0.f0.length : Int) != (t32.2.f0.length : Int)))]) (by kernel_rfl) ?_
            refine QP.around ?_
            refine WR.pick [3, 10, 11, 12, 20, 21, 22, 23, 24, 25, 26, 27, 28, 29, 30, 31, 32, 33, 34] ?_
            refine WR.again ?_
            refine WP.seqP [3, 10, 11, 12, 13, 20, 21, 22, 23, 24, 25, 26, 27, 28, 29, 30, 31, 32, 33, 34] (L' := [(3, .pointer (some ⟨bR6, 0, none⟩)), (10, .slice (some ⟨bp0, 0, none⟩) 3 3), (11, .int .i64 3), (12, .int .i64 3), (13, .bool false), (20, .int .i64 2), (21, .bool true), (22, .bool true), (23, .pointer (some ⟨bp0e0, 0, none⟩)), (24, .pointer (some ⟨bp0e0, 0, none⟩)), (25, .pointer (some ⟨bp0e0, 0, none⟩)), (26, .slice Aa0e0_f0 a0e0.f0.length ca0e0_f0), (27, .int .i64 (a0e0.f0.length : Int)), (28, .pointer (some ⟨bR6, 0, none⟩)), (29, .pointer (some ⟨bR6, 0, none⟩)), (30, .pointer (some ⟨bR6, 0, none⟩)), (31, .slice AR34p0_0 t32.2.f0.length cR34p0_0), (32, .int .i64 (t32.2.f0.length : Int)), (33, .bool ((a0e0.f0.length : Int) != (t32.2.f0.length : Int))), (34, .bool ((a0e0.f0.length : Int) != (t32.2.f0.length : Int)))]) (by kernel_rfl) ?_
            refine WP.seq ?_
            refine WP.no (by kernel_rfl) ?_
            refine WP.exit ?_
            refine QP.thenE ?_
            refine QP.thenE ?_
            refine QP.blockE ?_
            refine QP.dropAt 4 ?_
            refine QP.reperm (Γ' := [(bR6, .cells #[.slice AR63p0_0 t61.2.f0.length cR63p0_0, .slice AR63p0_1 t61.2.f1.length cR63p0_1, mpv AR63p0_2] 63 (0, 0))] :: CR63p0_0 :: CR63p0_1 :: CR63p0_2 :: [(bp0, .cells #[.pointer (some ⟨bp0e0, 0, none⟩), .pointer (some ⟨bp0e1, 0, none⟩), .pointer (some ⟨bp0e0, 0, none⟩)] 23 (0, 0))] :: [(bp0e0, .cells #[.slice Aa0e0_f0 a0e0.f0.length ca0e0_f0, .slice Aa0e0_f1 a0e0.f1.length ca0e0_f1, mpv Aa0e0_f2] 63 (0, 0))] :: Ca0e0_f0 :: Ca0e0_f1 :: Ca0e0_f2 :: [(bp0e1, .cells #[.slice Aa0e1_f0 a0e1.f0.length ca0e1_f0, .slice Aa0e1_f1 a0e1.f1.length ca0e1_f1, mpv Aa0e1_f2] 63 (0, 0))] :: Ca0e1_f0 :: Ca0e1_f1 :: Ca0e1_f2 :: Γ) (perm_sel [0, 1, 2, 3, 8, 4, 5, 6, 7] (by kernel_rfl) rfl) ?_
            refine QP.pick [3] ?_
            exact QP.meet ⟨_, Option.some.inj h, bR6, AR63p0_0, cR63p0_0, CR63p0_0, AR63p0_1, cR63p0_1, CR63p0_1, AR63p0_2, cR63p0_2, CR63p0_2, rfl, rfl, rfl, HR63p0_0, HR63p0_1, HR63p0_2⟩
  · rintro _ _ _ ⟨s1, rfl, bn2, As1_f0, cs1_f0, Cs1_f0, As1_f1, cs1_f1, Cs1_f1, As1_f2, cs1_f2, Cs1_f2, rfl, rfl, rfl, Hs1_f0, Hs1_f1, Hs1_f2⟩
    clear h
    replace h := hk3
    dsimp only at h
    refine QP.next ?_
    refine WP.pick [3] ?_
    refine WP.seqP [2] (L' := [(2, .pointer (some ⟨bn2, 0, none⟩))]) (by kernel_rfl) ?_
    refine WP.ret ?_
    obtain rfl := Option.some.inj h
    exact QP.returned [2] [.pointer (some ⟨bn2, 0, none⟩)] _ (by kernel_rfl) (by kernel_rfl) (by kernel_rfl) (fun W hI => ⟨_, _, _, rfl, (Or.inr ⟨_, rfl, ⟨bn2, As1_f0, cs1_f0, Cs1_f0, As1_f1, cs1_f1, Cs1_f1, As1_f2, cs1_f2, Cs1_f2, rfl, Hs1_f0, Hs1_f1, Hs1_f2, rfl, rfl⟩⟩), hI⟩)

/-! ### grapevine/state.Join: function 24 -/
def state_Join_41 (a0e0 : T63) : Option T63 := (((state_State_Copy a0e0).bind fun t4 => some t4).bind fun s1 => some s1)
set_option maxHeartbeats 4000000 in
theorem state_Join_41_calls {B : World} {G : GMap} {Γ : List Chunk} {W : World} (a0e0 : T63) (bp0 : Nat) (bp0e0 : Nat) (Aa0e0_f0 : Option Addr) (ca0e0_f0 : Nat) (Ca0e0_f0 : Chunk) (Ha0e0_f0 : Ow (kInt .i64) G Aa0e0_f0 ca0e0_f0 a0e0.f0 Ca0e0_f0) (Aa0e0_f1 : Option Addr) (ca0e0_f1 : Nat) (Ca0e0_f1 : Chunk) (Ha0e0_f1 : Ow (kInt .i64) G Aa0e0_f1 ca0e0_f1 a0e0.f1 Ca0e0_f1) (Aa0e0_f2 : Option Addr) (ca0e0_f2 : Nat) (Ca0e0_f2 : Chunk) (Ha0e0_f2 : MpF m61 G Aa0e0_f2 ca0e0_f2 a0e0.f2 Ca0e0_f2) (r : T63) (h : state_Join_41 a0e0 = some r) (hI : Inv B G ([(bp0, .cells #[.pointer (some ⟨bp0e0, 0, none⟩)] 23 (0, 0))] :: [(bp0e0, .cells #[.slice Aa0e0_f0 a0e0.f0.length ca0e0_f0, .slice Aa0e0_f1 a0e0.f1.length ca0e0_f1, mpv Aa0e0_f2] 63 (0, 0))] :: Ca0e0_f0 :: Ca0e0_f1 :: Ca0e0_f2 :: Γ) W) :
    Calls Tryd.prog 24 [.slice (some ⟨bp0, 0, none⟩) 1 1].toArray W (Ret B (fun v G' Γ' => ∃ (bR : Nat), ∃ (AR_0 : Option Addr), ∃ (cR_0 : Nat), ∃ (CR_0 : Chunk), ∃ (AR_1 : Option Addr), ∃ (cR_1 : Nat), ∃ (CR_1 : Chunk), ∃ (AR_2 : Option Addr), ∃ (cR_2 : Nat), ∃ (CR_2 : Chunk), v = .pointer (some ⟨bR, 0, none⟩) ∧ Ow (kInt .i64) G' AR_0 cR_0 r.f0 CR_0 ∧ Ow (kInt .i64) G' AR_1 cR_1 r.f1 CR_1 ∧ MpF m61 G' AR_2 cR_2 r.f2 CR_2 ∧ G = G' ∧ [(bR, .cells #[.slice AR_0 r.f0.length cR_0, .slice AR_1 r.f1.length cR_1, mpv AR_2] 63 (0, 0))] :: CR_0 :: CR_1 :: CR_2 :: [(bp0, .cells #[.pointer (some ⟨bp0e0, 0, none⟩)] 23 (0, 0))] :: [(bp0e0, .cells #[.slice Aa0e0_f0 a0e0.f0.length ca0e0_f0, .slice Aa0e0_f1 a0e0.f1.length ca0e0_f1, mpv Aa0e0_f2] 63 (0, 0))] :: Ca0e0_f0 :: Ca0e0_f1 :: Ca0e0_f2 :: Γ = Γ')) := by
  refine calls_WP (Γ := [(bp0, .cells #[.pointer (some ⟨bp0e0, 0, none⟩)] 23 (0, 0))] :: [(bp0e0, .cells #[.slice Aa0e0_f0 a0e0.f0.length ca0e0_f0, .slice Aa0e0_f1 a0e0.f1.length ca0e0_f1, mpv Aa0e0_f2] 63 (0, 0))] :: Ca0e0_f0 :: Ca0e0_f1 :: Ca0e0_f2 :: Γ) (G := G) (B := B) Tryd.func24 rfl (by kernel_rfl) ?_ hI
  clear hI
  unfold state_Join_41 at h
  refine WP.seqP [0] (L' := [(0, .slice (some ⟨bp0, 0, none⟩) 1 1)]) (by kernel_rfl) ?_
  refine WP.seqP [0, 3] (L' := [(0, .slice (some ⟨bp0, 0, none⟩) 1 1), (3, .pointer none)]) (by kernel_rfl) ?_
  refine WP.seq ?_
  refine WP.seqP [3, 10, 11, 12] (L' := [(3, .pointer none), (10, .slice (some ⟨bp0, 0, none⟩) 1 1), (11, .int .i64 1), (12, .int .i64 0)]) (by kernel_rfl) ?_
  rw [Option.bind_eq_some_iff] at h
  obtain ⟨os1, h, hk3⟩ := h
  refine WP.cutQ (fun L' G' Γ' => ∃ s1 : T63, s1 = os1 ∧ ∃ (bn2 : Nat), ∃ (As1_f0 : Option Addr), ∃ (cs1_f0 : Nat), ∃ (Cs1_f0 : Chunk), ∃ (As1_f1 : Option Addr), ∃ (cs1_f1 : Nat), ∃ (Cs1_f1 : Chunk), ∃ (As1_f2 : Option Addr), ∃ (cs1_f2 : Nat), ∃ (Cs1_f2 : Chunk), L' = [(3, .pointer (some ⟨bn2, 0, none⟩))] ∧ G = G' ∧ [(bn2, .cells #[.slice As1_f0 s1.f0.length cs1_f0, .slice As1_f1 s1.f1.length cs1_f1, mpv As1_f2] 63 (0, 0))] :: Cs1_f0 :: Cs1_f1 :: Cs1_f2 :: [(bp0, .cells #[.pointer (some ⟨bp0e0, 0, none⟩)] 23 (0, 0))] :: [(bp0e0, .cells #[.slice Aa0e0_f0 a0e0.f0.length ca0e0_f0, .slice Aa0e0_f1 a0e0.f1.length ca0e0_f1, mpv Aa0e0_f2] 63 (0, 0))] :: Ca0e0_f0 :: Ca0e0_f1 :: Ca0e0_f2 :: Γ = Γ' ∧ Ow (kInt .i64) G As1_f0 cs1_f0 s1.f0 Cs1_f0 ∧ Ow (kInt .i64) G As1_f1 cs1_f1 s1.f1 Cs1_f1 ∧ MpF m61 G As1_f2 cs1_f2 s1.f2 Cs1_f2) ?_ ?_
  · clear hk3
    refine WP.block ?_
    refine WP.pick [3, 10, 11, 12] ?_
    refine WP.around ?_
    refine WP.seqP [3, 10, 11, 12, 13] (L' := [(3, .pointer none), (10, .slice (some ⟨bp0, 0, none⟩) 1 1), (11, .int .i64 1), (12, .int .i64 0), (13, .bool true)]) (by kernel_rfl) ?_
    refine WP.seq ?_
    refine WP.yes (by kernel_rfl) ?_
    refine WP.skip ?_
    refine QP.next ?_
    refine WP.pick [3, 10, 11, 12] ?_
    refine WP.seq ?_
    refine WP.block ?_
    refine WP.seqR ?_
    refine WL.pure 0 1 [3, 10, 11, 12, 14] (L' := [(3, .pointer none), (10, .slice (some ⟨bp0, 0, none⟩) 1 1), (11, .int .i64 1), (12, .int .i64 0), (14, .int .i64 0)]) (by kernel_rfl) (by decide) ?_
    refine WL.tell (op := .indexAddr 52 (.tmp 10) (.tmp 12)) (ty := 0) (d := some 15) (g := none) (by kernel_rfl) (by kernel_rfl) (by kernel_rfl) (Tells.indexAddr (A := some ⟨bp0, 0, none⟩) (n := 1) (c := 1) (k := .i64) (j := 0) (by kernel_rfl) (by kernel_rfl) rfl (by decide) (by decide) sl52) ?_
    refine WL.tell (op := .load 23 (.tmp 15)) (ty := 23) (d := some 16) (g := none) (by kernel_rfl) (by kernel_rfl) (by kernel_rfl) (Tells.load_box (i := 0) (b := bp0) (o := 0) (agg := false) (by rfl) ag23 (by kernel_rfl) (fun _ => rfl) (Nat.le_of_ble_eq_true rfl) (v := .pointer (some ⟨bp0e0, 0, none⟩)) (by kernel_rfl)) ?_
    refine WL.restQ 3 [3, 4, 5, 10, 11, 12] (L' := [(3, .pointer none), (4, .int .i64 0), (5, .pointer (some ⟨bp0e0, 0, none⟩)), (10, .slice (some ⟨bp0, 0, none⟩) 1 1), (11, .int .i64 1), (12, .int .i64 0)]) (by kernel_rfl) ?_
    refine WP.seq ?_
    refine WP.seq ?_
    refine WP.any (N := 19) (S := [⟨some 17, [5], []⟩, ⟨some 18, [17], [0]⟩, ⟨some 19, [18], [1]⟩, ⟨some 20, [4, 19], [2]⟩, ⟨some 21, [19, 20], [2, 3]⟩, ⟨some 22, [19, 21], [2, 4]⟩, ⟨some 23, [5, 22], [5]⟩, ⟨some 24, [22, 23], [5, 6]⟩, ⟨some 25, [22, 24], [5, 7]⟩, ⟨some 26, [22, 25], [5, 8]⟩, ⟨some 27, [22, 26], [5, 9]⟩, ⟨some 28, [3, 22], [5]⟩, ⟨some 29, [22, 28], [5, 11]⟩, ⟨some 30, [22, 29], [5, 12]⟩, ⟨some 31, [22, 30], [5, 13]⟩, ⟨some 32, [22, 31], [5, 14]⟩, ⟨some 33, [22, 27, 32], [5, 10, 15]⟩, ⟨some 34, [19, 22, 33], [2, 5, 16]⟩, ⟨some 35, [19, 34], [2, 17]⟩]) (kw := 19) (G0 := G) (Γ0 := [(bp0, .cells #[.pointer (some ⟨bp0e0, 0, none⟩)] 23 (0, 0))] :: [(bp0e0, .cells #[.slice Aa0e0_f0 a0e0.f0.length ca0e0_f0, .slice Aa0e0_f1 a0e0.f1.length ca0e0_f1, mpv Aa0e0_f2] 63 (0, 0))] :: Ca0e0_f0 :: Ca0e0_f1 :: Ca0e0_f2 :: Γ) mo (by kernel_rfl) (fun hS => ?_)
    refine WA.pure [0, 1, 2, 3, 4, 5, 6, 7, 8, 9, 10, 11, 12, 13, 14, 15, 16, 17, 18] [3, 4, 5, 10, 11, 12, 20, 21, 22, 23, 24, 25, 26, 27, 28, 29, 30, 31, 32, 33, 34, 35] (m := 0) (b' := 524287) (L' := [(3, .pointer none), (4, .int .i64 0), (5, .pointer (some ⟨bp0e0, 0, none⟩)), (10, .slice (some ⟨bp0, 0, none⟩) 1 1), (11, .int .i64 1), (12, .int .i64 0), (20, .int .i64 0), (21, .bool false), (22, .bool false), (23, undef), (24, undef), (25, undef), (26, undef), (27, undef), (28, undef), (29, undef), (30, undef), (31, undef), (32, undef), (33, undef), (34, .bool false), (35, .bool false)]) (by kernel_rfl) (NoPanic.then (NoPanic.then (NoPanic.block (NoPanic.then (NoPanic.then (NoPanic.block (NoPanic.then (NoPanic.then (NoPanic.body))))))))) Under.refl hS (by kernel_rfl) ?_
    refine WA.done hS (by kernel_rfl) ?_
    refine QP.pick [3, 4, 5, 10, 11, 12, 20, 21, 22, 23, 24, 25, 26, 27, 28, 29, 30, 31, 32, 33, 34, 35] ?_
    refine QP.next ?_
    refine WP.no (by kernel_rfl) ?_
    refine WP.skip ?_
    refine QP.next ?_
    refine WP.pick [3, 4, 5, 10, 11, 12, 20, 21, 22, 23, 24, 25, 26, 27, 28, 29, 30, 31, 32, 33, 34] ?_
    refine WP.seq ?_
    refine WP.seqP [3, 5, 10, 11, 12, 20, 21, 22, 23, 24, 25, 26, 27, 28, 29, 30, 31, 32, 33, 34, 37] (L' := [(3, .pointer none), (5, .pointer (some ⟨bp0e0, 0, none⟩)), (10, .slice (some ⟨bp0, 0, none⟩) 1 1), (11, .int .i64 1), (12, .int .i64 0), (20, .int .i64 0), (21, .bool false), (22, .bool false), (23, undef), (24, undef), (25, undef), (26, undef), (27, undef), (28, undef), (29, undef), (30, undef), (31, undef), (32, undef), (33, undef), (34, .bool false), (37, .bool true)]) (by kernel_rfl) ?_
    refine WP.yes (by kernel_rfl) ?_
    refine WP.seqR ?_
    refine WL.pure 0 1 [3, 10, 11, 12, 20, 21, 22, 23, 24, 25, 26, 27, 28, 29, 30, 31, 32, 33, 34, 38] (L' := [(3, .pointer none), (10, .slice (some ⟨bp0, 0, none⟩) 1 1), (11, .int .i64 1), (12, .int .i64 0), (20, .int .i64 0), (21, .bool false), (22, .bool false), (23, undef), (24, undef), (25, undef), (26, undef), (27, undef), (28, undef), (29, undef), (30, undef), (31, undef), (32, undef), (33, undef), (34, .bool false), (38, .pointer (some ⟨bp0e0, 0, none⟩))]) (by kernel_rfl) (by decide) ?_
    refine WL.reperm (Γ' := [(bp0e0, .cells #[.slice Aa0e0_f0 a0e0.f0.length ca0e0_f0, .slice Aa0e0_f1 a0e0.f1.length ca0e0_f1, mpv Aa0e0_f2] 63 (0, 0))] :: Ca0e0_f0 :: Ca0e0_f1 :: Ca0e0_f2 :: [(bp0, .cells #[.pointer (some ⟨bp0e0, 0, none⟩)] 23 (0, 0))] :: Γ) (perm_sel [1, 2, 3, 4, 0] (by kernel_rfl) rfl) ?_
    rw [Option.bind_eq_some_iff] at h
    obtain ⟨t4, ht5, h⟩ := h
    refine WL.op (op := .call { callee := (.value (.func 26)), args := #[(.tmp 38)], argTypes := #[23] }) (ty := 23) (d := some 39) (g := none) (by kernel_rfl) (by kernel_rfl) (by kernel_rfl) (Does.call (f := 26) (args := [.pointer (some ⟨bp0e0, 0, none⟩)]) (by kernel_rfl) (fun W hI => (state_State_Copy_calls a0e0 bp0e0 Aa0e0_f0 ca0e0_f0 Ca0e0_f0 Ha0e0_f0 Aa0e0_f1 ca0e0_f1 Ca0e0_f1 Ha0e0_f1 Aa0e0_f2 ca0e0_f2 Ca0e0_f2 Ha0e0_f2 t4 ht5 hI))) ?_
    rintro _ _ _ ⟨bR6, AR6_0, cR6_0, CR6_0, AR6_1, cR6_1, CR6_1, AR6_2, cR6_2, CR6_2, rfl, HR6_0, HR6_1, HR6_2, rfl, rfl⟩
    refine WL.restQ 2 [3, 10, 11, 12, 20, 21, 22, 23, 24, 25, 26, 27, 28, 29, 30, 31, 32, 33, 34] (L' := [(3, .pointer (some ⟨bR6, 0, none⟩)), (10, .slice (some ⟨bp0, 0, none⟩) 1 1), (11, .int .i64 1), (12, .int .i64 0), (20, .int .i64 0), (21, .bool false), (22, .bool false), (23, undef), (24, undef), (25, undef), (26, undef), (27, undef), (28, undef), (29, undef), (30, undef), (31, undef), (32, undef), (33, undef), (34, .bool false)]) (by kernel_rfl) ?_
    refine WP.exit ?_
    refine QP.thenE ?_
    refine QP.blockE ?_
    refine QP.next ?_
    refine WP.pick [3, 10, 11, 12, 20, 21, 22, 23, 24, 25, 26, 27, 28, 29, 30, 31, 32, 33, 34] ?_
    refine WP.regionP [3, 10, 11, 12, 20, 21, 22, 23, 24, 25, 26, 27, 28, 29, 30, 31, 32, 33, 34] (L' := [(3, .pointer (some ⟨bR6, 0, none⟩)), (10, .slice (some ⟨bp0, 0, none⟩) 1 1), (11, .int .i64 1), (12, .int .i64 1), (20, .int .i64 0), (21, .bool false), (22, .bool false), (23, undef), (24, undef), (25, undef), (26, undef), (27, undef), (28, undef), (29, undef), (30, undef), (31, undef), (32, undef), (33, undef), (34, .bool false)]) (by kernel_rfl) ?_
    refine QP.around ?_
    refine WR.pick [3, 10, 11, 12, 20, 21, 22, 23, 24, 25, 26, 27, 28, 29, 30, 31, 32, 33, 34] ?_
    refine WR.again ?_
    refine WP.seqP [3, 10, 11, 12, 13, 20, 21, 22, 23, 24, 25, 26, 27, 28, 29, 30, 31, 32, 33, 34] (L' := [(3, .pointer (some ⟨bR6, 0, none⟩)), (10, .slice (some ⟨bp0, 0, none⟩) 1 1), (11, .int .i64 1), (12, .int .i64 1), (13, .bool false), (20, .int .i64 0), (21, .bool false), (22, .bool false), (23, undef), (24, undef), (25, undef), (26, undef), (27, undef), (28, undef), (29, undef), (30, undef), (31, undef), (32, undef), (33, undef), (34, .bool false)]) (by kernel_rfl) ?_
    refine WP.seq ?_
    refine WP.no (by kernel_rfl) ?_
    refine WP.exit ?_
    refine QP.thenE ?_
    refine QP.thenE ?_
    refine QP.blockE ?_
    refine QP.reperm (Γ' := [(bR6, .cells #[.slice AR6_0 t4.f0.length cR6_0, .slice AR6_1 t4.f1.length cR6_1, mpv AR6_2] 63 (0, 0))] :: CR6_0 :: CR6_1 :: CR6_2 :: [(bp0, .cells #[.pointer (some ⟨bp0e0, 0, none⟩)] 23 (0, 0))] :: [(bp0e0, .cells #[.slice Aa0e0_f0 a0e0.f0.length ca0e0_f0, .slice Aa0e0_f1 a0e0.f1.length ca0e0_f1, mpv Aa0e0_f2] 63 (0, 0))] :: Ca0e0_f0 :: Ca0e0_f1 :: Ca0e0_f2 :: Γ) (perm_sel [0, 1, 2, 3, 8, 4, 5, 6, 7] (by kernel_rfl) rfl) ?_
    refine QP.pick [3] ?_
    exact QP.meet ⟨_, Option.some.inj h, bR6, AR6_0, cR6_0, CR6_0, AR6_1, cR6_1, CR6_1, AR6_2, cR6_2, CR6_2, rfl, rfl, rfl, HR6_0, HR6_1, HR6_2⟩
  · rintro _ _ _ ⟨s1, rfl, bn2, As1_f0, cs1_f0, Cs1_f0, As1_f1, cs1_f1, Cs1_f1, As1_f2, cs1_f2, Cs1_f2, rfl, rfl, rfl, Hs1_f0, Hs1_f1, Hs1_f2⟩
    clear h
    replace h := hk3
    refine QP.next ?_
    refine WP.pick [3] ?_
    refine WP.seqP [2] (L' := [(2, .pointer (some ⟨bn2, 0, none⟩))]) (by kernel_rfl) ?_
    refine WP.ret ?_
    obtain rfl := Option.some.inj h
    exact QP.returned [2] [.pointer (some ⟨bn2, 0, none⟩)] _ (by kernel_rfl) (by kernel_rfl) (by kernel_rfl) (fun W hI => ⟨_, _, _, rfl, ⟨bn2, As1_f0, cs1_f0, Cs1_f0, As1_f1, cs1_f1, Cs1_f1, As1_f2, cs1_f2, Cs1_f2, rfl, Hs1_f0, Hs1_f1, Hs1_f2, rfl, rfl⟩, hI⟩)
end Go.Proofs.YtjefgmglgphdbaaDoor.Gf
