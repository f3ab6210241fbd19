/- Walks of Go functions: what each tells, as a plain Lean function, and that the Go code comes to it. Written by gg.py of this repo. -/
import Derived.Test.YtjmhhmljldjmjaaDoorT
import Derived.Test.YtjmhhmljldjmjaaDoorF0
namespace Go.Proofs.YtjmhhmljldjmjaaDoor.Gf
open Go Go.Gg
set_option maxRecDepth 100000
set_option linter.unusedVariables false
set_option linter.unusedSimpArgs false

/-! ### grapevine/grapevinelaw1.TokensOnes: function 12 -/
def grapevinelaw1_TokensOnes_l0 (t13 : List T64) : Nat → Int → Option (Sum Bool Unit)
  | 0, _ => none
  | k + 1, y19 => (if y19 < (t13.length : Int) then ((if 0 ≤ y19 ∧ y19 < (t13.length : Int) then (if (((t13.getD y19.toNat z64).f0).toList == (⟨#[]⟩ : ByteArray).toList) = true then some true else (if 0 ≤ y19 ∧ y19 < (t13.length : Int) then ((utf8_ValidString ((t13.getD y19.toNat z64).f0)).bind fun t28 => (if (!t28) = true then some true else (if 0 ≤ y19 ∧ y19 < (t13.length : Int) then some (((t13.getD y19.toNat z64).f1) != y19) else none))) else none)) else none).bind fun s23 => (if s23 = true then some (Sum.inl false) else grapevinelaw1_TokensOnes_l0 t13 k (IntKind.i64.wrap (y19 + 1)))) else some (Sum.inr ()))
def grapevinelaw1_TokensOnes (k : Nat) (a0 : ByteArray) : Option Bool := (((tokens_May a0).bind fun t3 => (if (!t3) = true then some true else some (decide ((a0.size : Int) > 120)))).bind fun s1 => (if s1 = true then ((grapevinelaw1_awake k ).bind fun t9 => some t9) else ((tokens_Of k a0).bind fun t13 => ((grapevinelaw1_TokensOnes_l0 t13 k 0).bind fun os17 => match os17 with | Sum.inl r => some r | Sum.inr s17 => ((tokens_One a0).bind fun t35 => (if t35 = true then ((if (t13.length : Int) = 1 then (if 0 ≤ (0 : Int) ∧ (0 : Int) < (t13.length : Int) then ((tokens_Norm a0).bind fun t44 => (if (((t13.getD (0 : Int).toNat z64).f0).toList == t44.toList) = true then ((grapevinelaw1_awake k ).bind fun t49 => some t49) else some false)) else none) else some false).bind fun s40 => some s40) else ((grapevinelaw1_awake k ).bind fun t53 => some t53)))))))
set_option maxHeartbeats 4000000 in
theorem grapevinelaw1_TokensOnes_calls {B : World} {G : GMap} {Γ : List Chunk} {W : World} (HT : Tabs B G) (k : Nat) (a0 : ByteArray) (r : Bool) (h : grapevinelaw1_TokensOnes k a0 = some r) (hI : Inv B G (Γ) W) :
    Calls Tryd.prog 12 [.string a0].toArray W (Ret B (fun v G' Γ' => v = .bool r ∧ G = G' ∧ Γ = Γ')) := by
  refine calls_WP (Γ := Γ) (G := G) (B := B) Tryd.func12 rfl (by kernel_rfl) ?_ hI
  clear hI
  unfold grapevinelaw1_TokensOnes at h
  refine WP.seqP [0] (L' := [(0, .string a0)]) (by kernel_rfl) ?_
  refine WP.seq ?_
  rw [Option.bind_eq_some_iff] at h
  obtain ⟨os1, h, hk2⟩ := h
  refine WP.cut (fun L' G' Γ' => ∃ s1 : Bool, s1 = os1 ∧ L' = [(0, .string a0), (12, .bool s1)] ∧ G = G' ∧ Γ = Γ') ?_ ?_
  · clear hk2
    refine WP.region ?_
    refine WL.pure 0 1 [0, 5] (L' := [(0, .string a0), (5, .string a0)]) (by kernel_rfl) (by decide) ?_
    rw [Option.bind_eq_some_iff] at h
    obtain ⟨t3, ht4, h⟩ := h
    refine WL.op (op := .call { callee := (.value (.func 43)), args := #[(.tmp 5)], argTypes := #[9] }) (ty := 4) (d := some 6) (g := none) (by kernel_rfl) (by kernel_rfl) (by kernel_rfl) (Does.call (f := 43) (args := [.string a0]) (by kernel_rfl) (fun W hI => (tokens_May_calls HT a0  t3 ht4 hI))) ?_
    rintro _ _ _ ⟨rfl, rfl, rfl⟩
    refine WL.pure 2 4 [0, 8] (L' := [(0, .string a0), (8, .bool (!t3))]) (by kernel_rfl) (by decide) ?_
    refine WL.split 8 (b := (!t3)) (by kernel_rfl) (fun hc => ?_) (fun hc => ?_)
    · replace hc := hc
      rw [if_pos hc] at h
      have hc7 := hc
      clear hc
      refine WL.rest 4 [0, 12] (L' := [(0, .string a0), (12, .bool true)]) (by kernel_rfl) ?_
      refine QP.pick [0, 12] ?_
      exact QP.meet ⟨_, Option.some.inj h, rfl, rfl, rfl⟩
    · replace hc := (Bool.eq_false_iff.1 hc)
      rw [if_neg hc] at h
      have hc7 := hc
      clear hc
      refine WL.rest 4 [0, 12] (L' := [(0, .string a0), (12, .bool (decide ((a0.size : Int) > 120)))]) (by kernel_rfl) ?_
      refine QP.pick [0, 12] ?_
      exact QP.meet ⟨_, Option.some.inj h, rfl, rfl, rfl⟩
  · rintro _ _ _ ⟨s1, rfl, rfl, rfl, rfl⟩
    clear h
    replace h := hk2
    refine WP.cond (b := s1) (by kernel_rfl) (fun hc => ?_) (fun hc => ?_)
    · replace hc := hc
      rw [if_pos hc] at h
      have hc8 := hc
      clear hc
      refine WP.seqR ?_
      rw [Option.bind_eq_some_iff] at h
      obtain ⟨t9, ht10, h⟩ := h
      refine WL.op (op := .call { callee := (.value (.func 39)), args := #[], argTypes := #[] }) (ty := 4) (d := some 13) (g := none) (by kernel_rfl) (by kernel_rfl) (by kernel_rfl) (Does.call (f := 39) (args := []) (by kernel_rfl) (fun W hI => (grapevinelaw1_awake_calls HT k   t9 ht10 hI))) ?_
      rintro _ _ _ ⟨rfl, rfl, rfl⟩
      refine WL.restQ 1 [2] (L' := [(2, .bool t9)]) (by kernel_rfl) ?_
      refine WP.ret ?_
      refine QP.thenR ?_
      obtain rfl := Option.some.inj h
      exact QP.returned [2] [.bool t9] _ (by kernel_rfl) (by kernel_rfl) (by kernel_rfl) (fun W hI => ⟨_, _, _, rfl, ⟨rfl, rfl, rfl⟩, hI⟩)
    · replace hc := (Bool.eq_false_iff.1 hc)
      rw [if_neg hc] at h
      have hc8 := hc
      clear hc
      refine WP.skip ?_
      refine QP.next ?_
      refine WP.pick [0] ?_
      refine WP.seqR ?_
      refine WL.pure 0 1 [0, 14] (L' := [(0, .string a0), (14, .string a0)]) (by kernel_rfl) (by decide) ?_
      rw [Option.bind_eq_some_iff] at h
      obtain ⟨t13, ht14, h⟩ := h
      refine WL.op (op := .call { callee := (.value (.func 40)), args := #[(.tmp 14)], argTypes := #[9] }) (ty := 56) (d := some 15) (g := none) (by kernel_rfl) (by kernel_rfl) (by kernel_rfl) (Does.call (f := 40) (args := [.string a0]) (by kernel_rfl) (fun W hI => (tokens_Of_calls HT k a0  t13 ht14 hI))) ?_
      rintro _ _ _ ⟨AR15, cR15, CR15, rfl, HR15, rfl, rfl⟩
      refine WL.restQ 2 [0, 3] (L' := [(0, .string a0), (3, .slice AR15 t13.length cR15)]) (by kernel_rfl) ?_
      refine WP.seq ?_
      refine WP.seqP [0, 3, 4] (L' := [(0, .string a0), (3, .slice AR15 t13.length cR15), (4, .int .i64 0)]) (by kernel_rfl) ?_
      rw [Option.bind_eq_some_iff] at h
      obtain ⟨os17, h, hk18⟩ := h
      refine WP.cutQ (fun L' G' Γ' => ∃ s17 : Unit, Sum.inr s17 = os17 ∧ L' = [(0, .string a0), (3, .slice AR15 t13.length cR15)] ∧ G = G' ∧ CR15 :: Γ = Γ') ?_ ?_
      · skip
        refine WP.block ?_
        refine WP.pick [0, 3, 4] ?_
        refine WP.loopF (fun kn20 L' G' Γ' => ∃ (y19 : Int), grapevinelaw1_TokensOnes_l0 t13 kn20 y19 = some os17 ∧ L' = [(0, .string a0), (3, .slice AR15 t13.length cR15), (4, .int .i64 y19)] ∧ G = G' ∧ CR15 :: Γ = Γ') ?_ k ⟨0, h, rfl, rfl, rfl⟩
        clear h
        rintro kn21 _ _ _ ⟨y19, h, rfl, rfl, rfl⟩
        cases kn21 with
        | zero => exact absurd h (by simp [grapevinelaw1_TokensOnes_l0])
        | succ kn21 =>
          simp only [grapevinelaw1_TokensOnes_l0] at h
          refine WP.seq ?_
          refine WP.seqP [0, 3, 4, 19] (L' := [(0, .string a0), (3, .slice AR15 t13.length cR15), (4, .int .i64 y19), (19, .bool (decide (y19 < (t13.length : Int))))]) (by kernel_rfl) ?_
          refine WP.cond (b := decide (y19 < (t13.length : Int))) (by kernel_rfl) (fun hc => ?_) (fun hc => ?_)
          · replace hc := of_decide_eq_true hc
            rw [if_pos hc] at h
            have hc22 := hc
            clear hc
            refine WP.skip ?_
            refine QP.next ?_
            refine WP.pick [0, 3, 4] ?_
            refine WP.seq ?_
            refine WP.block ?_
            rw [Option.bind_eq_some_iff] at h
            obtain ⟨os23, h, hk24⟩ := h
            refine WP.cut (fun L' G' Γ' => ∃ s23 : Bool, s23 = os23 ∧ L' = [(0, .string a0), (3, .slice AR15 t13.length cR15), (4, .int .i64 y19), (45, .bool s23)] ∧ G = G' ∧ CR15 :: Γ = Γ') ?_ ?_
            · clear hk24
              refine WP.region ?_
              refine WL.pure 0 2 [0, 3, 4, 22, 23] (L' := [(0, .string a0), (3, .slice AR15 t13.length cR15), (4, .int .i64 y19), (22, .slice AR15 t13.length cR15), (23, .int .i64 y19)]) (by kernel_rfl) (by decide) ?_
              by_cases hb25 : 0 ≤ y19 ∧ y19 < (t13.length : Int)
              case neg => rw [if_neg hb25] at h; cases h
              rw [if_pos hb25] at h
              refine WL.tell (op := .indexAddr 56 (.tmp 22) (.tmp 23)) (ty := 0) (d := some 24) (g := none) (by kernel_rfl) (by kernel_rfl) (by kernel_rfl) (Tells.indexAddr (A := AR15) (n := t13.length) (c := cR15) (k := .i64) (j := y19) (by kernel_rfl) (by kernel_rfl) (HR15.isSome hb25.1 hb25.2) hb25.1 hb25.2 sl56) ?_
              refine WL.tell (op := .fieldAddr 64 (.tmp 24) 0) (ty := 0) (d := some 25) (g := none) (by kernel_rfl) (by kernel_rfl) (by kernel_rfl) (Tells.fieldElem (m := y19.toNat * 2) (A := AR15) (by kernel_rfl) (HR15.isSome hb25.1 hb25.2) fi64_0) ?_
              refine WL.tellE (op := .load 9 (.tmp 25)) (ty := 9) (d := some 26) (g := none) (by kernel_rfl) (by kernel_rfl) (by kernel_rfl) (HR15.loadF (i := 0) rfl (agg := false) (off := 0) hb25.1 hb25.2 z64 ag9 (fun _ => rfl) (by decide) (by kernel_rfl)) ?_
              rintro _ rfl
              refine WL.pure 5 7 [0, 3, 4, 28] (L' := [(0, .string a0), (3, .slice AR15 t13.length cR15), (4, .int .i64 y19), (28, .bool (((t13.getD y19.toNat z64).f0).toList == (⟨#[]⟩ : ByteArray).toList))]) (by kernel_rfl) (by decide) ?_
              refine WL.split 28 (b := (((t13.getD y19.toNat z64).f0).toList == (⟨#[]⟩ : ByteArray).toList)) (by kernel_rfl) (fun hc => ?_) (fun hc => ?_)
              · replace hc := hc
                rw [if_pos hc] at h
                have hc26 := hc
                clear hc
                refine WL.rest 7 [0, 3, 4, 45] (L' := [(0, .string a0), (3, .slice AR15 t13.length cR15), (4, .int .i64 y19), (45, .bool true)]) (by kernel_rfl) ?_
                refine QP.pick [0, 3, 4, 45] ?_
                exact QP.meet ⟨_, Option.some.inj h, rfl, rfl, rfl⟩
              · replace hc := (Bool.eq_false_iff.1 hc)
                rw [if_neg hc] at h
                have hc26 := hc
                clear hc
                refine WL.pure 7 9 [0, 3, 4, 28, 29, 30] (L' := [(0, .string a0), (3, .slice AR15 t13.length cR15), (4, .int .i64 y19), (28, .bool false), (29, .slice AR15 t13.length cR15), (30, .int .i64 y19)]) (by kernel_rfl) (by decide) ?_
                by_cases hb27 : 0 ≤ y19 ∧ y19 < (t13.length : Int)
                case neg => rw [if_neg hb27] at h; cases h
                rw [if_pos hb27] at h
                refine WL.tell (op := .indexAddr 56 (.tmp 29) (.tmp 30)) (ty := 0) (d := some 31) (g := some (6, false)) (by kernel_rfl) (by kernel_rfl) (by kernel_rfl) (Tells.indexAddr (A := AR15) (n := t13.length) (c := cR15) (k := .i64) (j := y19) (by kernel_rfl) (by kernel_rfl) (HR15.isSome hb27.1 hb27.2) hb27.1 hb27.2 sl56) ?_
                refine WL.tell (op := .fieldAddr 64 (.tmp 31) 0) (ty := 0) (d := some 32) (g := some (6, false)) (by kernel_rfl) (by kernel_rfl) (by kernel_rfl) (Tells.fieldElem (m := y19.toNat * 2) (A := AR15) (by kernel_rfl) (HR15.isSome hb27.1 hb27.2) fi64_0) ?_
                refine WL.tellE (op := .load 9 (.tmp 32)) (ty := 9) (d := some 33) (g := some (6, false)) (by kernel_rfl) (by kernel_rfl) (by kernel_rfl) (HR15.loadF (i := 0) rfl (agg := false) (off := 0) hb27.1 hb27.2 z64 ag9 (fun _ => rfl) (by decide) (by kernel_rfl)) ?_
                rintro _ rfl
                rw [Option.bind_eq_some_iff] at h
                obtain ⟨t28, ht29, h⟩ := h
                refine WL.op (op := .call { callee := (.value (.func 50)), args := #[(.tmp 33)], argTypes := #[9] }) (ty := 4) (d := some 34) (g := some (6, false)) (by kernel_rfl) (by kernel_rfl) (by kernel_rfl) (Does.call (f := 50) (args := [.string ((t13.getD y19.toNat z64).f0)]) (by kernel_rfl) (fun W hI => (utf8_ValidString_calls HT ((t13.getD y19.toNat z64).f0)  t28 ht29 hI))) ?_
                rintro _ _ _ ⟨rfl, rfl, rfl⟩
                refine WL.pure 13 16 [0, 3, 4, 37] (L' := [(0, .string a0), (3, .slice AR15 t13.length cR15), (4, .int .i64 y19), (37, .bool (!t28))]) (by kernel_rfl) (by decide) ?_
                refine WL.split 37 (b := (!t28)) (by kernel_rfl) (fun hc => ?_) (fun hc => ?_)
                · replace hc := hc
                  rw [if_pos hc] at h
                  have hc32 := hc
                  clear hc
                  refine WL.rest 16 [0, 3, 4, 45] (L' := [(0, .string a0), (3, .slice AR15 t13.length cR15), (4, .int .i64 y19), (45, .bool true)]) (by kernel_rfl) ?_
                  refine QP.pick [0, 3, 4, 45] ?_
                  exact QP.meet ⟨_, Option.some.inj h, rfl, rfl, rfl⟩
                · replace hc := (Bool.eq_false_iff.1 hc)
                  rw [if_neg hc] at h
                  have hc32 := hc
                  clear hc
                  refine WL.pure 16 18 [0, 3, 4, 37, 38, 39] (L' := [(0, .string a0), (3, .slice AR15 t13.length cR15), (4, .int .i64 y19), (37, .bool false), (38, .slice AR15 t13.length cR15), (39, .int .i64 y19)]) (by kernel_rfl) (by decide) ?_
                  by_cases hb33 : 0 ≤ y19 ∧ y19 < (t13.length : Int)
                  case neg => rw [if_neg hb33] at h; cases h
                  rw [if_pos hb33] at h
                  refine WL.tell (op := .indexAddr 56 (.tmp 38) (.tmp 39)) (ty := 0) (d := some 40) (g := some (15, false)) (by kernel_rfl) (by kernel_rfl) (by kernel_rfl) (Tells.indexAddr (A := AR15) (n := t13.length) (c := cR15) (k := .i64) (j := y19) (by kernel_rfl) (by kernel_rfl) (HR15.isSome hb33.1 hb33.2) hb33.1 hb33.2 sl56) ?_
                  refine WL.tell (op := .fieldAddr 64 (.tmp 40) 1) (ty := 0) (d := some 41) (g := some (15, false)) (by kernel_rfl) (by kernel_rfl) (by kernel_rfl) (Tells.fieldElem (m := y19.toNat * 2) (A := AR15) (by kernel_rfl) (HR15.isSome hb33.1 hb33.2) fi64_1) ?_
                  refine WL.tellE (op := .load 3 (.tmp 41)) (ty := 3) (d := some 42) (g := some (15, false)) (by kernel_rfl) (by kernel_rfl) (by kernel_rfl) (HR15.loadF (i := 0) rfl (agg := false) (off := 1) hb33.1 hb33.2 z64 ag3 (fun _ => rfl) (by decide) (by kernel_rfl)) ?_
                  rintro _ rfl
                  refine WL.rest 21 [0, 3, 4, 45] (L' := [(0, .string a0), (3, .slice AR15 t13.length cR15), (4, .int .i64 y19), (45, .bool (((t13.getD y19.toNat z64).f1) != y19))]) (by kernel_rfl) ?_
                  refine QP.pick [0, 3, 4, 45] ?_
                  exact QP.meet ⟨_, Option.some.inj h, rfl, rfl, rfl⟩
            · rintro _ _ _ ⟨s23, rfl, rfl, rfl, rfl⟩
              clear h
              replace h := hk24
              refine WP.cond (b := s23) (by kernel_rfl) (fun hc => ?_) (fun hc => ?_)
              · replace hc := hc
                rw [if_pos hc] at h
                have hc34 := hc
                clear hc
                refine WP.seqP [2] (L' := [(2, .bool false)]) (by kernel_rfl) ?_
                refine WP.dropAt 0 ?_
                refine WP.ret ?_
                refine QP.blockR ?_
                refine QP.thenR ?_
                refine QP.thenR ?_
                refine QP.blockR ?_
                refine QP.thenR ?_
                refine QP.thenR ?_
                obtain rfl := Option.some.inj h
                obtain rfl := Option.some.inj (show some _ = some _ from hk18)
                exact QP.returned [2] [.bool false] _ (by kernel_rfl) (by kernel_rfl) (by kernel_rfl) (fun W hI => ⟨_, _, _, rfl, ⟨rfl, rfl, rfl⟩, hI⟩)
              · replace hc := (Bool.eq_false_iff.1 hc)
                rw [if_neg hc] at h
                have hc34 := hc
                clear hc
                refine WP.skip ?_
                refine QP.blockN ?_
                refine QP.next ?_
                refine WP.pick [0, 3, 4] ?_
                refine WP.regionP [0, 3, 4] (L' := [(0, .string a0), (3, .slice AR15 t13.length cR15), (4, .int .i64 (IntKind.i64.wrap (y19 + 1)))]) (by kernel_rfl) ?_
                refine QP.pick [0, 3, 4] ?_
                exact QP.meet ⟨kn21, Nat.lt_succ_self _, (IntKind.i64.wrap (y19 + 1)), h, rfl, rfl, rfl⟩
          · replace hc := of_decide_eq_false hc
            rw [if_neg hc] at h
            have hc22 := hc
            clear hc
            refine WP.exit ?_
            refine QP.thenE ?_
            refine QP.thenE ?_
            refine QP.blockE ?_
            refine QP.pick [0, 3] ?_
            exact QP.meet ⟨_, Option.some.inj h, rfl, rfl, rfl⟩
      · rintro _ _ _ ⟨s17, rfl, rfl, rfl, rfl⟩
        clear h
        replace h := hk18
        dsimp only at h
        refine QP.next ?_
        refine WP.pick [0, 3] ?_
        refine WP.seq ?_
        refine WP.seqR ?_
        refine WL.pure 0 1 [0, 3, 46] (L' := [(0, .string a0), (3, .slice AR15 t13.length cR15), (46, .string a0)]) (by kernel_rfl) (by decide) ?_
        rw [Option.bind_eq_some_iff] at h
        obtain ⟨t35, ht36, h⟩ := h
        refine WL.op (op := .call { callee := (.value (.func 47)), args := #[(.tmp 46)], argTypes := #[9] }) (ty := 4) (d := some 47) (g := none) (by kernel_rfl) (by kernel_rfl) (by kernel_rfl) (Does.call (f := 47) (args := [.string a0]) (by kernel_rfl) (fun W hI => (tokens_One_calls HT a0  t35 ht36 hI))) ?_
        rintro _ _ _ ⟨rfl, rfl, rfl⟩
        refine WL.restQ 2 [0, 3, 47] (L' := [(0, .string a0), (3, .slice AR15 t13.length cR15), (47, .bool t35)]) (by kernel_rfl) ?_
        refine WP.cond (b := t35) (by kernel_rfl) (fun hc => ?_) (fun hc => ?_)
        · replace hc := hc
          rw [if_pos hc] at h
          have hc39 := hc
          clear hc
          rw [Option.bind_eq_some_iff] at h
          obtain ⟨os40, h, hk41⟩ := h
          refine WP.cut (fun L' G' Γ' => ∃ s40 : Bool, s40 = os40 ∧ L' = [(2, .bool s40)] ∧ G = G' ∧ Γ = Γ') ?_ ?_
          · clear hk41
            skip
            refine WP.any (N := 16) (S := [⟨some 48, [3], []⟩, ⟨some 49, [48], [0]⟩, ⟨some 50, [49], [1]⟩, ⟨some 51, [50], [2]⟩, ⟨some 52, [3, 51], [3]⟩, ⟨some 53, [51, 52], [3, 4]⟩, ⟨some 54, [51, 53], [3, 5]⟩, ⟨some 55, [51, 54], [3, 6]⟩, ⟨some 56, [0, 51], [3]⟩, ⟨some 57, [51, 56], [3, 8]⟩, ⟨some 58, [51, 55, 57], [3, 7, 9]⟩, ⟨some 59, [51, 58], [3, 10]⟩, ⟨some 60, [59], [9, 11]⟩, ⟨some 61, [60], [12]⟩, ⟨some 62, [60, 61], [12, 13]⟩, ⟨some 2, [62], [0, 1, 2, 3, 4, 5, 6, 7, 8, 9, 10, 11, 12, 13, 14]⟩]) (kw := 16) (G0 := G) (Γ0 := CR15 :: Γ) mo (by kernel_rfl) (fun hS => ?_)
            refine WA.pure [0, 1, 2, 3] [0, 3, 51] (m := 12) (b' := 15) (L' := [(0, .string a0), (3, .slice AR15 t13.length cR15), (51, .bool ((t13.length : Int) == 1))]) (by kernel_rfl) (NoPanic.then (NoPanic.then (NoPanic.body))) Under.refl hS (by kernel_rfl) ?_
            refine WA.split 51 (b := ((t13.length : Int) == 1)) (by kernel_rfl) (fun hc => ?_) (fun hc => ?_)
            · replace hc := eq_of_beq hc
              rw [if_pos hc] at h
              have hc42 := hc
              clear hc
              refine WA.pure [4, 8] [51, 52, 56] (m := 10) (b' := 287) (L' := [(51, .bool true), (52, .slice AR15 t13.length cR15), (56, .string a0)]) (by kernel_rfl) (NoPanic.then (NoPanic.then (NoPanic.body))) Under.refl hS (by kernel_rfl) ?_
              by_cases hb43 : 0 ≤ (0 : Int) ∧ (0 : Int) < (t13.length : Int)
              case neg => rw [if_neg hb43] at h; cases h
              rw [if_pos hb43] at h
              refine WA.tellD [] (i := 5) (m := 9) (b' := 319) (by kernel_rfl) (NoPanic.then (NoPanic.then (NoPanic.body))) Under.refl hS (by kernel_rfl) (op := .indexAddr 56 (.tmp 52) (.const (.int .i64 0))) (ty := 0) (d := some 53) (g := some (3, true)) (by kernel_rfl) (by kernel_rfl) (by kernel_rfl) (Tells.indexAddr (A := AR15) (n := t13.length) (c := cR15) (k := .i64) (j := 0) (by kernel_rfl) (by kernel_rfl) (HR15.isSome hb43.1 hb43.2) hb43.1 hb43.2 sl56) ?_
              refine WA.tellD [] (i := 6) (m := 8) (b' := 383) (by kernel_rfl) (NoPanic.then (NoPanic.then (NoPanic.body))) Under.refl hS (by kernel_rfl) (op := .fieldAddr 64 (.tmp 53) 0) (ty := 0) (d := some 54) (g := some (3, true)) (by kernel_rfl) (by kernel_rfl) (by kernel_rfl) (Tells.fieldElem (m := (0 : Int).toNat * 2) (A := AR15) (by kernel_rfl) (HR15.isSome hb43.1 hb43.2) fi64_0) ?_
              refine WA.tellDE [] (i := 7) (m := 7) (b' := 511) (by kernel_rfl) (NoPanic.then (NoPanic.then (NoPanic.body))) Under.refl hS (by kernel_rfl) (op := .load 9 (.tmp 54)) (ty := 9) (d := some 55) (g := some (3, true)) (by kernel_rfl) (by kernel_rfl) (by kernel_rfl) (HR15.loadF (i := 0) rfl (agg := false) (off := 0) hb43.1 hb43.2 z64 ag9 (fun _ => rfl) (by decide) (by kernel_rfl)) ?_
              rintro _ rfl
              rw [Option.bind_eq_some_iff] at h
              obtain ⟨t44, ht45, h⟩ := h
              refine WA.op (i := 9) (m := 6) (b' := 1023) (by kernel_rfl) hS (by kernel_rfl) (op := .call { callee := (.value (.func 45)), args := #[(.tmp 56)], argTypes := #[9] }) (ty := 9) (d := some 57) (g := some (3, true)) (by kernel_rfl) (by kernel_rfl) (by kernel_rfl) (Does.call (f := 45) (args := [.string a0]) (by kernel_rfl) (fun W hI => (tokens_Norm_calls HT a0  t44 ht45 hI))) ?_
              rintro _ _ _ ⟨rfl, rfl, rfl⟩
              refine ⟨_, _, Under.refl, Under.refl, ?_⟩
              refine WA.pure [10, 11, 12] [60] (m := 3) (b' := 8191) (L' := [(60, .bool (((t13.getD (0 : Int).toNat z64).f0).toList == t44.toList))]) (by kernel_rfl) (NoPanic.then (NoPanic.then (NoPanic.body))) Under.refl hS (by kernel_rfl) ?_
              refine WA.split 60 (b := (((t13.getD (0 : Int).toNat z64).f0).toList == t44.toList)) (by kernel_rfl) (fun hc => ?_) (fun hc => ?_)
              · replace hc := hc
                rw [if_pos hc] at h
                have hc48 := hc
                clear hc
                rw [Option.bind_eq_some_iff] at h
                obtain ⟨t49, ht50, h⟩ := h
                refine WA.op (i := 13) (m := 2) (b' := 16383) (by kernel_rfl) hS (by kernel_rfl) (op := .call { callee := (.value (.func 39)), args := #[], argTypes := #[] }) (ty := 4) (d := some 61) (g := some (12, true)) (by kernel_rfl) (by kernel_rfl) (by kernel_rfl) (Does.call (f := 39) (args := []) (by kernel_rfl) (fun W hI => (grapevinelaw1_awake_calls HT k   t49 ht50 hI))) ?_
                rintro _ _ _ ⟨rfl, rfl, rfl⟩
                refine ⟨_, _, Under.refl, Under.refl, ?_⟩
                refine WA.pure [14, 15] [2] (m := 0) (b' := 65535) (L' := [(2, .bool t49)]) (by kernel_rfl) (NoPanic.then (NoPanic.then (NoPanic.body))) Under.refl hS (by kernel_rfl) ?_
                refine WA.done hS (by kernel_rfl) ?_
                refine QP.pick [2] ?_
                refine QP.dropAt 0 ?_
                refine QP.pick [2] ?_
                exact QP.meet ⟨_, Option.some.inj h, rfl, rfl, rfl⟩
              · replace hc := (Bool.eq_false_iff.1 hc)
                rw [if_neg hc] at h
                have hc48 := hc
                clear hc
                refine WA.pure [13, 14, 15] [2] (m := 0) (b' := 65535) (L' := [(2, .bool false)]) (by kernel_rfl) (NoPanic.then (NoPanic.then (NoPanic.body))) Under.refl hS (by kernel_rfl) ?_
                refine WA.done hS (by kernel_rfl) ?_
                refine QP.pick [2] ?_
                refine QP.dropAt 0 ?_
                refine QP.pick [2] ?_
                exact QP.meet ⟨_, Option.some.inj h, rfl, rfl, rfl⟩
            · replace hc := ne_of_beq_false hc
              rw [if_neg hc] at h
              have hc42 := hc
              clear hc
              refine WA.pure [4, 5, 6, 7, 8, 9, 10, 11, 12, 13, 14, 15] [2] (m := 0) (b' := 65535) (L' := [(2, .bool false)]) (by kernel_rfl) (NoPanic.then (NoPanic.then (NoPanic.body))) Under.refl hS (by kernel_rfl) ?_
              refine WA.done hS (by kernel_rfl) ?_
              refine QP.pick [2] ?_
              refine QP.dropAt 0 ?_
              refine QP.pick [2] ?_
              exact QP.meet ⟨_, Option.some.inj h, rfl, rfl, rfl⟩
          · rintro _ _ _ ⟨s40, rfl, rfl, rfl, rfl⟩
            clear h
            replace h := hk41
            refine WP.ret ?_
            refine QP.thenR ?_
            obtain rfl := Option.some.inj h
            exact QP.returned [2] [.bool s40] _ (by kernel_rfl) (by kernel_rfl) (by kernel_rfl) (fun W hI => ⟨_, _, _, rfl, ⟨rfl, rfl, rfl⟩, hI⟩)
        · replace hc := (Bool.eq_false_iff.1 hc)
          rw [if_neg hc] at h
          have hc39 := hc
          clear hc
          refine WP.skip ?_
          refine QP.next ?_
          refine WP.pick [] ?_
          refine WP.seqR ?_
          rw [Option.bind_eq_some_iff] at h
          obtain ⟨t53, ht54, h⟩ := h
          refine WL.op (op := .call { callee := (.value (.func 39)), args := #[], argTypes := #[] }) (ty := 4) (d := some 63) (g := none) (by kernel_rfl) (by kernel_rfl) (by kernel_rfl) (Does.call (f := 39) (args := []) (by kernel_rfl) (fun W hI => (grapevinelaw1_awake_calls HT k   t53 ht54 hI))) ?_
          rintro _ _ _ ⟨rfl, rfl, rfl⟩
          refine WL.restQ 1 [2] (L' := [(2, .bool t53)]) (by kernel_rfl) ?_
          refine WP.dropAt 0 ?_
          refine WP.ret ?_
          obtain rfl := Option.some.inj h
          exact QP.returned [2] [.bool t53] _ (by kernel_rfl) (by kernel_rfl) (by kernel_rfl) (fun W hI => ⟨_, _, _, rfl, ⟨rfl, rfl, rfl⟩, hI⟩)
/-- The plain law. -/
def TokensOnes_Pure : Prop := ∀ (a0 : ByteArray), a0.size ≤ 140737488351232 → ∃ k, grapevinelaw1_TokensOnes k a0 = some true
end Go.Proofs.YtjmhhmljldjmjaaDoor.Gf
