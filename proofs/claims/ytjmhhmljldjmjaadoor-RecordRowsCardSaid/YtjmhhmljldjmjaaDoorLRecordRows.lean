/- Walks of Go functions: what each tells, as a plain Lean function, and that the Go code comes to it. Written by gg.py of this repo. -/
import Derived.Test.YtjmhhmljldjmjaaDoorT
import Derived.Test.YtjmhhmljldjmjaaDoorF0
import Derived.Test.YtjmhhmljldjmjaaDoorF1
namespace Go.Proofs.YtjmhhmljldjmjaaDoor.Gf
open Go Go.Gg
set_option maxRecDepth 100000
set_option linter.unusedVariables false
set_option linter.unusedSimpArgs false

/-! ### grapevine/grapevinelaw4.RecordRows: function 7 -/
def grapevinelaw4_RecordRows_l0 (l0 : List T27) : Nat → (List Int) → Int → Option (Sum Bool (List Int))
  | 0, _, _ => none
  | k + 1, y12, y13 => (if y13 < (l0.length : Int) then (if 0 ≤ y13 ∧ y13 < (l0.length : Int) then ((record_Lay k (l0.getD y13.toNat z27)).bind fun t18 => (if ¬ t18.2 = 0 then ((if (t18.1.length : Int) = 0 then (if 0 ≤ y13 ∧ y13 < (l0.length : Int) then ((record_May (l0.getD y13.toNat z27)).bind fun t27 => (if (!t27) = true then ((grapevinelaw4_awake k ).bind fun t32 => some t32) else some false)) else none) else some false).bind fun s23 => some (Sum.inl s23)) else (if y12.length + t18.1.length ≤ 1073741824 then grapevinelaw4_RecordRows_l0 l0 k (y12 ++ t18.1) (IntKind.i64.wrap (y13 + 1)) else none))) else none) else some (Sum.inr y12))
def grapevinelaw4_RecordRows_l1 (l0 : List T27) (s10 : (List Int)) : Nat → Int → Int → Option (Sum Bool Int)
  | 0, _, _ => none
  | k + 1, y40, y41 => (if y41 < (l0.length : Int) then ((record_Read k s10 y40).bind fun t45 => ((if (!t45.2.2) = true then some true else (if 0 ≤ y41 ∧ y41 < (l0.length : Int) then (if ¬ t45.1 = (l0.getD y41.toNat z27) then some true else (if t45.2.1 ≤ y40 then some true else some (decide (t45.2.1 > (s10.length : Int))))) else none)).bind fun s51 => (if s51 = true then some (Sum.inl false) else grapevinelaw4_RecordRows_l1 l0 s10 k t45.2.1 (IntKind.i64.wrap (y41 + 1))))) else some (Sum.inr y40))
def grapevinelaw4_RecordRows (k : Nat) (l0 : List T27) : Option Bool := ((grapevinelaw0_GreatRecords k l0 20).bind fun t1 => (if t1 = true then ((grapevinelaw4_awake k ).bind fun t6 => some t6) else ((grapevinelaw4_RecordRows_l0 l0 k ([] : List Int) 0).bind fun os10 => match os10 with | Sum.inl r => some r | Sum.inr s10 => ((grapevinelaw4_RecordRows_l1 l0 s10 k 0 0).bind fun os38 => match os38 with | Sum.inl r => some r | Sum.inr s38 => ((record_Read k s10 s38).bind fun t58 => ((if s38 = (s10.length : Int) then (if (!t58.2.2) = true then ((grapevinelaw4_awake k ).bind fun t68 => some t68) else some false) else some false).bind fun s64 => some s64))))))
set_option maxHeartbeats 4000000 in
theorem grapevinelaw4_RecordRows_calls {B : World} {G : GMap} {Γ : List Chunk} {W : World} (HT : Tabs B G) (k : Nat) (l0 : List T27) (Al0 : Option Addr) (cl0 : Nat) (Hl0 : Rd k27 G Al0 cl0 l0) (r : Bool) (h : grapevinelaw4_RecordRows k l0 = some r) (hI : Inv B G (Γ) W) :
    Calls Tryd.prog 7 [.slice Al0 l0.length cl0].toArray W (Ret B (fun v G' Γ' => v = .bool r ∧ G = G' ∧ Γ = Γ')) := by
  refine calls_WP (Γ := Γ) (G := G) (B := B) Tryd.func7 rfl (by kernel_rfl) ?_ hI
  clear hI
  unfold grapevinelaw4_RecordRows at h
  refine WP.seqP [0] (L' := [(0, .slice Al0 l0.length cl0)]) (by kernel_rfl) ?_
  refine WP.seq ?_
  refine WP.seqR ?_
  refine WL.pure 0 1 [0, 15] (L' := [(0, .slice Al0 l0.length cl0), (15, .slice Al0 l0.length cl0)]) (by kernel_rfl) (by decide) ?_
  rw [Option.bind_eq_some_iff] at h
  obtain ⟨t1, ht2, h⟩ := h
  refine WL.op (op := .call { callee := (.value (.func 26)), args := #[(.tmp 15), (.const (.int .i64 20))], argTypes := #[46, 3] }) (ty := 4) (d := some 16) (g := none) (by kernel_rfl) (by kernel_rfl) (by kernel_rfl) (Does.call (f := 26) (args := [.slice Al0 l0.length cl0, .int .i64 20]) (by kernel_rfl) (fun W hI => (grapevinelaw0_GreatRecords_calls k l0 20 Al0 cl0 Hl0 t1 ht2 hI))) ?_
  rintro _ _ _ ⟨rfl, rfl, rfl⟩
  refine WL.restQ 2 [0, 16] (L' := [(0, .slice Al0 l0.length cl0), (16, .bool t1)]) (by kernel_rfl) ?_
  refine WP.cond (b := t1) (by kernel_rfl) (fun hc => ?_) (fun hc => ?_)
  · replace hc := hc
    rw [if_pos hc] at h
    have hc5 := hc
    clear hc
    refine WP.seqR ?_
    rw [Option.bind_eq_some_iff] at h
    obtain ⟨t6, ht7, h⟩ := h
    refine WL.op (op := .call { callee := (.value (.func 13)), args := #[], argTypes := #[] }) (ty := 4) (d := some 17) (g := none) (by kernel_rfl) (by kernel_rfl) (by kernel_rfl) (Does.call (f := 13) (args := []) (by kernel_rfl) (fun W hI => (grapevinelaw4_awake_calls HT k   t6 ht7 hI))) ?_
    rintro _ _ _ ⟨rfl, rfl, rfl⟩
    refine WL.restQ 1 [2] (L' := [(2, .bool t6)]) (by kernel_rfl) ?_
    refine WP.ret ?_
    refine QP.thenR ?_
    obtain rfl := Option.some.inj h
    exact QP.returned [2] [.bool t6] _ (by kernel_rfl) (by kernel_rfl) (by kernel_rfl) (fun W hI => ⟨_, _, _, rfl, ⟨rfl, rfl, rfl⟩, hI⟩)
  · replace hc := (Bool.eq_false_iff.1 hc)
    rw [if_neg hc] at h
    have hc5 := hc
    clear hc
    refine WP.skip ?_
    refine QP.next ?_
    refine WP.pick [0] ?_
    refine WP.seqP [0, 3] (L' := [(0, .slice Al0 l0.length cl0), (3, .slice none 0 0)]) (by kernel_rfl) ?_
    refine WP.seq ?_
    refine WP.seqP [0, 3, 4] (L' := [(0, .slice Al0 l0.length cl0), (3, .slice none 0 0), (4, .int .i64 0)]) (by kernel_rfl) ?_
    rw [Option.bind_eq_some_iff] at h
    obtain ⟨os10, h, hk11⟩ := h
    refine WP.cutQ (fun L' G' Γ' => ∃ s10 : (List Int), Sum.inr s10 = os10 ∧ ∃ (As10 : Option Addr), ∃ (cs10 : Nat), ∃ (Cs10 : Chunk), L' = [(0, .slice Al0 l0.length cl0), (3, .slice As10 s10.length cs10)] ∧ G = G' ∧ Cs10 :: Γ = Γ' ∧ Ow (kInt .u8) G As10 cs10 s10 Cs10) ?_ ?_
    · skip
      refine WP.block ?_
      refine WP.addNil ?_
      refine WP.pick [0, 3, 4] ?_
      refine WP.loopF (fun k14 L' G' Γ' => ∃ (y12 : List Int), ∃ (y13 : Int), grapevinelaw4_RecordRows_l0 l0 k14 y12 y13 = some os10 ∧ ∃ (Ay12 : Option Addr), ∃ (cy12 : Nat), ∃ (Cy12 : Chunk), L' = [(0, .slice Al0 l0.length cl0), (3, .slice Ay12 y12.length cy12), (4, .int .i64 y13)] ∧ G = G' ∧ Cy12 :: Γ = Γ' ∧ Ow (kInt .u8) G Ay12 cy12 y12 Cy12) ?_ k ⟨([] : List Int), 0, h, none, 0, [], rfl, rfl, rfl, (Ow.nil _ _)⟩
      clear h
      rintro k15 _ _ _ ⟨y12, y13, h, Ay12, cy12, Cy12, rfl, rfl, rfl, Hy12⟩
      cases k15 with
      | zero => exact absurd h (by simp [grapevinelaw4_RecordRows_l0])
      | succ k15 =>
        simp only [grapevinelaw4_RecordRows_l0] at h
        refine WP.seq ?_
        refine WP.seqP [0, 3, 4, 21] (L' := [(0, .slice Al0 l0.length cl0), (3, .slice Ay12 y12.length cy12), (4, .int .i64 y13), (21, .bool (decide (y13 < (l0.length : Int))))]) (by kernel_rfl) ?_
        refine WP.cond (b := decide (y13 < (l0.length : Int))) (by kernel_rfl) (fun hc => ?_) (fun hc => ?_)
        · replace hc := of_decide_eq_true hc
          rw [if_pos hc] at h
          have hc16 := hc
          clear hc
          refine WP.skip ?_
          refine QP.next ?_
          refine WP.pick [0, 3, 4] ?_
          refine WP.seq ?_
          refine WP.block ?_
          refine WP.seqR ?_
          refine WL.pure 0 2 [0, 3, 4, 25, 26] (L' := [(0, .slice Al0 l0.length cl0), (3, .slice Ay12 y12.length cy12), (4, .int .i64 y13), (25, .slice Al0 l0.length cl0), (26, .int .i64 y13)]) (by kernel_rfl) (by decide) ?_
          by_cases hb17 : 0 ≤ y13 ∧ y13 < (l0.length : Int)
          case neg => rw [if_neg hb17] at h; cases h
          rw [if_pos hb17] at h
          refine WL.tell (op := .indexAddr 46 (.tmp 25) (.tmp 26)) (ty := 0) (d := some 27) (g := none) (by kernel_rfl) (by kernel_rfl) (by kernel_rfl) (Tells.indexAddr (A := Al0) (n := l0.length) (c := cl0) (k := .i64) (j := y13) (by kernel_rfl) (by kernel_rfl) (Hl0.isSome hb17.1 hb17.2) hb17.1 hb17.2 sl46) ?_
          refine WL.tellE (op := .load 27 (.tmp 27)) (ty := 27) (d := some 28) (g := none) (by kernel_rfl) (by kernel_rfl) (by kernel_rfl) (Hl0.load (agg := true) hb17.1 hb17.2 z27 ag27 (fun h => by cases h) (by kernel_rfl)) ?_
          rintro _ rfl
          rw [Option.bind_eq_some_iff] at h
          obtain ⟨t18, ht19, h⟩ := h
          refine WL.op (op := .call { callee := (.value (.func 14)), args := #[(.tmp 28)], argTypes := #[27] }) (ty := 31) (d := some 29) (g := none) (by kernel_rfl) (by kernel_rfl) (by kernel_rfl) (Does.call (f := 14) (args := [.agg #[.int .i64 ((l0.getD y13.toNat z27).f0), .int .i64 ((l0.getD y13.toNat z27).f1), .int .i64 ((l0.getD y13.toNat z27).f2), .int .i64 ((l0.getD y13.toNat z27).f3), .string ((l0.getD y13.toNat z27).f4)]]) (by kernel_rfl) (fun W hI => (record_Lay_calls HT k15 (l0.getD y13.toNat z27)  t18 ht19 hI))) ?_
          rintro _ _ _ ⟨AR200, cR200, CR200, rfl, HR200, rfl, rfl⟩
          refine WL.restQ 5 [0, 3, 4, 5, 6] (L' := [(0, .slice Al0 l0.length cl0), (3, .slice Ay12 y12.length cy12), (4, .int .i64 y13), (5, .slice AR200 t18.1.length cR200), (6, .int .i64 t18.2)]) (by kernel_rfl) ?_
          refine WP.seq ?_
          refine WP.seqP [0, 3, 4, 5, 33] (L' := [(0, .slice Al0 l0.length cl0), (3, .slice Ay12 y12.length cy12), (4, .int .i64 y13), (5, .slice AR200 t18.1.length cR200), (33, .bool (t18.2 != 0))]) (by kernel_rfl) ?_
          refine WP.cond (b := (t18.2 != 0)) (by kernel_rfl) (fun hc => ?_) (fun hc => ?_)
          · replace hc := (bne_iff_ne.1 hc)
            rw [if_pos hc] at h
            have hc22 := hc
            clear hc
            rw [Option.bind_eq_some_iff] at h
            obtain ⟨os23, h, hk24⟩ := h
            refine WP.cut (fun L' G' Γ' => ∃ s23 : Bool, s23 = os23 ∧ L' = [(2, .bool s23)] ∧ G = G' ∧ CR200 :: Cy12 :: Γ = Γ') ?_ ?_
            · clear hk24
              refine WP.region ?_
              refine WL.pure 0 4 [0, 4, 37] (L' := [(0, .slice Al0 l0.length cl0), (4, .int .i64 y13), (37, .bool ((t18.1.length : Int) == 0))]) (by kernel_rfl) (by decide) ?_
              refine WL.split 37 (b := ((t18.1.length : Int) == 0)) (by kernel_rfl) (fun hc => ?_) (fun hc => ?_)
              · replace hc := eq_of_beq hc
                rw [if_pos hc] at h
                have hc25 := hc
                clear hc
                refine WL.pure 4 6 [37, 38, 39] (L' := [(37, .bool true), (38, .slice Al0 l0.length cl0), (39, .int .i64 y13)]) (by kernel_rfl) (by decide) ?_
                by_cases hb26 : 0 ≤ y13 ∧ y13 < (l0.length : Int)
                case neg => rw [if_neg hb26] at h; cases h
                rw [if_pos hb26] at h
                refine WL.tell (op := .indexAddr 46 (.tmp 38) (.tmp 39)) (ty := 0) (d := some 40) (g := some (3, true)) (by kernel_rfl) (by kernel_rfl) (by kernel_rfl) (Tells.indexAddr (A := Al0) (n := l0.length) (c := cl0) (k := .i64) (j := y13) (by kernel_rfl) (by kernel_rfl) (Hl0.isSome hb26.1 hb26.2) hb26.1 hb26.2 sl46) ?_
                refine WL.tellE (op := .load 27 (.tmp 40)) (ty := 27) (d := some 41) (g := some (3, true)) (by kernel_rfl) (by kernel_rfl) (by kernel_rfl) (Hl0.load (agg := true) hb26.1 hb26.2 z27 ag27 (fun h => by cases h) (by kernel_rfl)) ?_
                rintro _ rfl
                rw [Option.bind_eq_some_iff] at h
                obtain ⟨t27, ht28, h⟩ := h
                refine WL.op (op := .call { callee := (.value (.func 23)), args := #[(.tmp 41)], argTypes := #[27] }) (ty := 4) (d := some 42) (g := some (3, true)) (by kernel_rfl) (by kernel_rfl) (by kernel_rfl) (Does.call (f := 23) (args := [.agg #[.int .i64 ((l0.getD y13.toNat z27).f0), .int .i64 ((l0.getD y13.toNat z27).f1), .int .i64 ((l0.getD y13.toNat z27).f2), .int .i64 ((l0.getD y13.toNat z27).f3), .string ((l0.getD y13.toNat z27).f4)]]) (by kernel_rfl) (fun W hI => (record_May_calls HT (l0.getD y13.toNat z27)  t27 ht28 hI))) ?_
                rintro _ _ _ ⟨rfl, rfl, rfl⟩
                refine WL.pure 9 12 [45] (L' := [(45, .bool (!t27))]) (by kernel_rfl) (by decide) ?_
                refine WL.split 45 (b := (!t27)) (by kernel_rfl) (fun hc => ?_) (fun hc => ?_)
                · replace hc := hc
                  rw [if_pos hc] at h
                  have hc31 := hc
                  clear hc
                  rw [Option.bind_eq_some_iff] at h
                  obtain ⟨t32, ht33, h⟩ := h
                  refine WL.op (op := .call { callee := (.value (.func 13)), args := #[], argTypes := #[] }) (ty := 4) (d := some 46) (g := some (11, true)) (by kernel_rfl) (by kernel_rfl) (by kernel_rfl) (Does.call (f := 13) (args := []) (by kernel_rfl) (fun W hI => (grapevinelaw4_awake_calls HT k15   t32 ht33 hI))) ?_
                  rintro _ _ _ ⟨rfl, rfl, rfl⟩
                  refine WL.rest 13 [2] (L' := [(2, .bool t32)]) (by kernel_rfl) ?_
                  refine QP.pick [2] ?_
                  exact QP.meet ⟨_, Option.some.inj h, rfl, rfl, rfl⟩
                · replace hc := (Bool.eq_false_iff.1 hc)
                  rw [if_neg hc] at h
                  have hc31 := hc
                  clear hc
                  refine WL.rest 12 [2] (L' := [(2, .bool false)]) (by kernel_rfl) ?_
                  refine QP.pick [2] ?_
                  exact QP.meet ⟨_, Option.some.inj h, rfl, rfl, rfl⟩
              · replace hc := ne_of_beq_false hc
                rw [if_neg hc] at h
                have hc25 := hc
                clear hc
                refine WL.rest 4 [2] (L' := [(2, .bool false)]) (by kernel_rfl) ?_
                refine QP.pick [2] ?_
                exact QP.meet ⟨_, Option.some.inj h, rfl, rfl, rfl⟩
            · rintro _ _ _ ⟨s23, rfl, rfl, rfl, rfl⟩
              clear h
              replace h := hk24
              refine WP.ret ?_
              refine QP.thenR ?_
              refine QP.blockR ?_
              refine QP.thenR ?_
              refine QP.thenR ?_
              refine QP.blockR ?_
              refine QP.thenR ?_
              refine QP.thenR ?_
              obtain rfl := Option.some.inj h
              obtain rfl := Option.some.inj (show some _ = some _ from hk11)
              refine QP.dropAt 1 ?_
              refine QP.dropAt 0 ?_
              exact QP.returned [2] [.bool s23] _ (by kernel_rfl) (by kernel_rfl) (by kernel_rfl) (fun W hI => ⟨_, _, _, rfl, ⟨rfl, rfl, rfl⟩, hI⟩)
          · replace hc := (not_not_intro (bne_eq_false_iff_eq.1 hc))
            rw [if_neg hc] at h
            have hc22 := hc
            clear hc
            refine WP.skip ?_
            refine QP.next ?_
            refine WP.pick [0, 3, 4, 5] ?_
            refine WP.region ?_
            refine WL.pure 0 2 [0, 3, 4, 48, 49] (L' := [(0, .slice Al0 l0.length cl0), (3, .slice Ay12 y12.length cy12), (4, .int .i64 y13), (48, .slice Ay12 y12.length cy12), (49, .slice AR200 t18.1.length cR200)]) (by kernel_rfl) (by decide) ?_
            by_cases hb36 : y12.length + t18.1.length ≤ 1073741824
            case neg => rw [if_neg hb36] at h; cases h
            rw [if_pos hb36] at h
            refine WL.op (op := .call { callee := (.builtin .append), args := #[(.tmp 48), (.tmp 49)], argTypes := #[29, 29] }) (ty := 29) (d := some 50) (g := none) (by kernel_rfl) (by kernel_rfl) (by kernel_rfl) (Ow.append (ys := t18.1) (v := .slice AR200 t18.1.length cR200) Hy12 (i := 1) rfl (by kernel_rfl) (by kernel_rfl) (HR200.src (i := 0) rfl) sl29 ze5 nt29 (by decide) hb36) ?_
            rintro _ _ _ ⟨rfl, AN37, cN37, CN37, rfl, HN37, rfl⟩
            refine WL.rest 3 [0, 3, 4] (L' := [(0, .slice Al0 l0.length cl0), (3, .slice AN37 (y12 ++ t18.1).length cN37), (4, .int .i64 y13)]) (by kernel_rfl) ?_
            refine QP.blockN ?_
            refine QP.next ?_
            refine WP.pick [0, 3, 4] ?_
            refine WP.regionP [0, 3, 4] (L' := [(0, .slice Al0 l0.length cl0), (3, .slice AN37 (y12 ++ t18.1).length cN37), (4, .int .i64 (IntKind.i64.wrap (y13 + 1)))]) (by kernel_rfl) ?_
            refine QP.dropAt 0 ?_
            refine QP.pick [0, 3, 4] ?_
            exact QP.meet ⟨k15, Nat.lt_succ_self _, (y12 ++ t18.1), (IntKind.i64.wrap (y13 + 1)), h, AN37, cN37, CN37, rfl, rfl, rfl, HN37⟩
        · replace hc := of_decide_eq_false hc
          rw [if_neg hc] at h
          have hc16 := hc
          clear hc
          refine WP.exit ?_
          refine QP.thenE ?_
          refine QP.thenE ?_
          refine QP.blockE ?_
          refine QP.pick [0, 3] ?_
          exact QP.meet ⟨_, Option.some.inj h, Ay12, cy12, Cy12, rfl, rfl, rfl, Hy12⟩
    · rintro _ _ _ ⟨s10, rfl, As10, cs10, Cs10, rfl, rfl, rfl, Hs10⟩
      clear h
      replace h := hk11
      refine QP.next ?_
      refine WP.pick [0, 3] ?_
      refine WP.seqP [0, 3, 7] (L' := [(0, .slice Al0 l0.length cl0), (3, .slice As10 s10.length cs10), (7, .int .i64 0)]) (by kernel_rfl) ?_
      refine WP.seq ?_
      refine WP.seqP [0, 3, 7, 8] (L' := [(0, .slice Al0 l0.length cl0), (3, .slice As10 s10.length cs10), (7, .int .i64 0), (8, .int .i64 0)]) (by kernel_rfl) ?_
      rw [Option.bind_eq_some_iff] at h
      obtain ⟨os38, h, hk39⟩ := h
      refine WP.cutQ (fun L' G' Γ' => ∃ s38 : Int, Sum.inr s38 = os38 ∧ L' = [(3, .slice As10 s10.length cs10), (7, .int .i64 s38)] ∧ G = G' ∧ Cs10 :: Γ = Γ') ?_ ?_
      · skip
        refine WP.block ?_
        refine WP.pick [0, 3, 7, 8] ?_
        refine WP.loopF (fun k42 L' G' Γ' => ∃ (y40 : Int), ∃ (y41 : Int), grapevinelaw4_RecordRows_l1 l0 s10 k42 y40 y41 = some os38 ∧ L' = [(0, .slice Al0 l0.length cl0), (3, .slice As10 s10.length cs10), (7, .int .i64 y40), (8, .int .i64 y41)] ∧ G = G' ∧ Cs10 :: Γ = Γ') ?_ k ⟨0, 0, h, rfl, rfl, rfl⟩
        clear h
        rintro k43 _ _ _ ⟨y40, y41, h, rfl, rfl, rfl⟩
        cases k43 with
        | zero => exact absurd h (by simp [grapevinelaw4_RecordRows_l1])
        | succ k43 =>
          simp only [grapevinelaw4_RecordRows_l1] at h
          refine WP.seq ?_
          refine WP.seqP [0, 3, 7, 8, 54] (L' := [(0, .slice Al0 l0.length cl0), (3, .slice As10 s10.length cs10), (7, .int .i64 y40), (8, .int .i64 y41), (54, .bool (decide (y41 < (l0.length : Int))))]) (by kernel_rfl) ?_
          refine WP.cond (b := decide (y41 < (l0.length : Int))) (by kernel_rfl) (fun hc => ?_) (fun hc => ?_)
          · replace hc := of_decide_eq_true hc
            rw [if_pos hc] at h
            have hc44 := hc
            clear hc
            refine WP.skip ?_
            refine QP.next ?_
            refine WP.pick [0, 3, 7, 8] ?_
            refine WP.seq ?_
            refine WP.block ?_
            refine WP.seqR ?_
            refine WL.pure 0 2 [0, 3, 7, 8, 58, 59] (L' := [(0, .slice Al0 l0.length cl0), (3, .slice As10 s10.length cs10), (7, .int .i64 y40), (8, .int .i64 y41), (58, .slice As10 s10.length cs10), (59, .int .i64 y40)]) (by kernel_rfl) (by decide) ?_
            rw [Option.bind_eq_some_iff] at h
            obtain ⟨t45, ht46, h⟩ := h
            refine WL.op (op := .call { callee := (.value (.func 20)), args := #[(.tmp 58), (.tmp 59)], argTypes := #[29, 3] }) (ty := 40) (d := some 60) (g := none) (by kernel_rfl) (by kernel_rfl) (by kernel_rfl) (Does.call (Φ := fun v' G' Γ' => v' = .tuple #[.agg #[.int .i64 t45.1.f0, .int .i64 t45.1.f1, .int .i64 t45.1.f2, .int .i64 t45.1.f3, .string t45.1.f4], .int .i64 t45.2.1, .bool t45.2.2] ∧ G = G' ∧ Cs10 :: Γ = Γ') (f := 20) (args := [.slice As10 s10.length cs10, .int .i64 y40]) (by kernel_rfl) (fun W hI => (Calls.lendH (Φ := fun v' N => v' = .tuple #[.agg #[.int .i64 t45.1.f0, .int .i64 t45.1.f1, .int .i64 t45.1.f2, .int .i64 t45.1.f3, .string t45.1.f4], .int .i64 t45.2.1, .bool t45.2.2] ∧ N = []) (H := []) (i := 0) rfl (Ow.nodup Hs10) hI (fun _ e l49 hI => by subst e; exact (((record_Read_calls (HT.mono l49) k43 s10 y40 As10 cs10 (Hs10.rd l49) t45 ht46 hI)).mono fun _ _ hr => by obtain ⟨_, _, _, rfl, hd, hI⟩ := hr; obtain ⟨rfl, rfl, rfl⟩ := hd; exact ⟨_, _, _, rfl, ⟨[], ⟨rfl, rfl⟩, rfl, rfl⟩, hI⟩))).mono fun _ _ hr => by obtain ⟨_, _, _, rfl, ⟨_, hd, rfl, rfl⟩, hI⟩ := hr; obtain ⟨rfl, rfl⟩ := hd; exact ⟨_, _, _, rfl, ⟨rfl, rfl, rfl⟩, hI⟩)) ?_
            rintro _ _ _ ⟨rfl, rfl, rfl⟩
            refine WL.pure 3 7 [0, 3, 7, 8, 61, 62, 63] (L' := [(0, .slice Al0 l0.length cl0), (3, .slice As10 s10.length cs10), (7, .int .i64 y40), (8, .int .i64 y41), (61, .agg #[.int .i64 t45.1.f0, .int .i64 t45.1.f1, .int .i64 t45.1.f2, .int .i64 t45.1.f3, .string t45.1.f4]), (62, .int .i64 t45.2.1), (63, .bool t45.2.2)]) (by kernel_rfl) (by decide) ?_
            refine WL.op (op := .alloc 27) (ty := 0) (d := some 9) (g := none) (by kernel_rfl) (by kernel_rfl) (by kernel_rfl) (Does.new (o := .cells #[.int .i64 0, .int .i64 0, .int .i64 0, .int .i64 0, .string (⟨#[]⟩ : ByteArray)] 27 (0, 0)) (v := fun r => .pointer (some ⟨r, 0, none⟩)) (fun r => by kernel_rfl)) ?_
            rintro _ _ _ ⟨b50, rfl, rfl, rfl⟩
            refine WL.op (op := .store 27 (.tmp 9) (.tmp 61)) (ty := 0) (d := none) (g := none) (by kernel_rfl) (by kernel_rfl) (by kernel_rfl) (Does.store_box (i := 0) (b := b50) (o := 0) (v := .agg #[.int .i64 t45.1.f0, .int .i64 t45.1.f1, .int .i64 t45.1.f2, .int .i64 t45.1.f3, .string t45.1.f4]) (by rfl) sz27 (by kernel_rfl) (by kernel_rfl) (by kernel_rfl) (Free.zero _) (Nat.le_of_ble_eq_true rfl) (cells' := #[.int .i64 t45.1.f0, .int .i64 t45.1.f1, .int .i64 t45.1.f2, .int .i64 t45.1.f3, .string t45.1.f4]) (by kernel_rfl)) ?_
            rintro _ _ _ ⟨rfl, rfl, rfl⟩
            refine WL.restQ 9 [0, 3, 7, 8, 9, 10, 11] (L' := [(0, .slice Al0 l0.length cl0), (3, .slice As10 s10.length cs10), (7, .int .i64 y40), (8, .int .i64 y41), (9, .pointer (some ⟨b50, 0, none⟩)), (10, .int .i64 t45.2.1), (11, .bool t45.2.2)]) (by kernel_rfl) ?_
            refine WP.seq ?_
            rw [Option.bind_eq_some_iff] at h
            obtain ⟨os51, h, hk52⟩ := h
            refine WP.cut (fun L' G' Γ' => ∃ s51 : Bool, s51 = os51 ∧ L' = [(0, .slice Al0 l0.length cl0), (3, .slice As10 s10.length cs10), (8, .int .i64 y41), (10, .int .i64 t45.2.1), (84, .bool s51)] ∧ G = G' ∧ [(b50, .cells #[.int .i64 t45.1.f0, .int .i64 t45.1.f1, .int .i64 t45.1.f2, .int .i64 t45.1.f3, .string t45.1.f4] 27 (0, 0))] :: Cs10 :: Γ = Γ') ?_ ?_
            · clear hk52
              skip
              refine WP.any (N := 21) (S := [⟨some 64, [11], []⟩, ⟨some 65, [64], [0]⟩, ⟨some 66, [65], [1]⟩, ⟨some 67, [9, 66], [2]⟩, ⟨some 68, [0, 66], [2]⟩, ⟨some 69, [8, 66], [2]⟩, ⟨some 70, [66, 68, 69], [2, 4, 5]⟩, ⟨some 71, [66, 70], [2, 6]⟩, ⟨some 72, [66, 67, 71], [2, 3, 7]⟩, ⟨some 73, [66, 72], [2, 8]⟩, ⟨some 74, [73], [2, 9]⟩, ⟨some 75, [10, 74], [10]⟩, ⟨some 76, [7, 74], [10]⟩, ⟨some 77, [74, 75, 76], [10, 11, 12]⟩, ⟨some 78, [74, 77], [10, 13]⟩, ⟨some 79, [78], [10, 14]⟩, ⟨some 80, [10, 79], [15]⟩, ⟨some 81, [3, 79], [15]⟩, ⟨some 82, [79, 81], [15, 17]⟩, ⟨some 83, [79, 80, 82], [15, 16, 18]⟩, ⟨some 84, [79, 83], [15, 19]⟩]) (kw := 21) (G0 := G) (Γ0 := [(b50, .cells #[.int .i64 t45.1.f0, .int .i64 t45.1.f1, .int .i64 t45.1.f2, .int .i64 t45.1.f3, .string t45.1.f4] 27 (0, 0))] :: Cs10 :: Γ) mo (by kernel_rfl) (fun hS => ?_)
              refine WA.pure [0, 1, 2] [0, 3, 7, 8, 9, 10, 66] (m := 18) (b' := 7) (L' := [(0, .slice Al0 l0.length cl0), (3, .slice As10 s10.length cs10), (7, .int .i64 y40), (8, .int .i64 y41), (9, .pointer (some ⟨b50, 0, none⟩)), (10, .int .i64 t45.2.1), (66, .bool (!t45.2.2))]) (by kernel_rfl) (NoPanic.then (NoPanic.then (NoPanic.block (NoPanic.then (NoPanic.then (NoPanic.block (NoPanic.then (NoPanic.then (NoPanic.body))))))))) Under.refl hS (by kernel_rfl) ?_
              refine WA.split 66 (b := (!t45.2.2)) (by kernel_rfl) (fun hc => ?_) (fun hc => ?_)
              · replace hc := hc
                rw [if_pos hc] at h
                have hc53 := hc
                clear hc
                refine WA.pure [3, 4, 5, 6, 7, 8, 9, 10, 11, 12, 13, 14, 15, 16, 17, 18, 19, 20] [0, 3, 8, 10, 84] (m := 0) (b' := 2097151) (L' := [(0, .slice Al0 l0.length cl0), (3, .slice As10 s10.length cs10), (8, .int .i64 y41), (10, .int .i64 t45.2.1), (84, .bool true)]) (by kernel_rfl) (NoPanic.then (NoPanic.then (NoPanic.block (NoPanic.then (NoPanic.then (NoPanic.block (NoPanic.then (NoPanic.then (NoPanic.body))))))))) Under.refl hS (by kernel_rfl) ?_
                refine WA.done hS (by kernel_rfl) ?_
                refine QP.pick [0, 3, 8, 10, 84] ?_
                refine QP.pick [0, 3, 8, 10, 84] ?_
                exact QP.meet ⟨_, Option.some.inj h, rfl, rfl, rfl⟩
              · replace hc := (Bool.eq_false_iff.1 hc)
                rw [if_neg hc] at h
                have hc53 := hc
                clear hc
                refine WA.pure [4, 5] [0, 3, 7, 8, 9, 10, 66, 68, 69] (m := 16) (b' := 55) (L' := [(0, .slice Al0 l0.length cl0), (3, .slice As10 s10.length cs10), (7, .int .i64 y40), (8, .int .i64 y41), (9, .pointer (some ⟨b50, 0, none⟩)), (10, .int .i64 t45.2.1), (66, .bool false), (68, .slice Al0 l0.length cl0), (69, .int .i64 y41)]) (by kernel_rfl) (NoPanic.then (NoPanic.then (NoPanic.block (NoPanic.then (NoPanic.then (NoPanic.block (NoPanic.then (NoPanic.then (NoPanic.body))))))))) Under.refl hS (by kernel_rfl) ?_
                refine WA.tellD [] (i := 3) (m := 15) (b' := 63) (by kernel_rfl) (NoPanic.then (NoPanic.then (NoPanic.block (NoPanic.then (NoPanic.then (NoPanic.block (NoPanic.then (NoPanic.then (NoPanic.body))))))))) Under.refl hS (by kernel_rfl) (op := .load 27 (.tmp 9)) (ty := 27) (d := some 67) (g := some (2, false)) (by kernel_rfl) (by kernel_rfl) (by kernel_rfl) (Tells.load_box (i := 0) (b := b50) (o := 0) (agg := true) (by rfl) ag27 (by kernel_rfl) (fun h => by cases h) (Nat.le_of_ble_eq_true rfl) (v := .agg #[.int .i64 t45.1.f0, .int .i64 t45.1.f1, .int .i64 t45.1.f2, .int .i64 t45.1.f3, .string t45.1.f4]) (by kernel_rfl)) ?_
                by_cases hb54 : 0 ≤ y41 ∧ y41 < (l0.length : Int)
                case neg => rw [if_neg hb54] at h; cases h
                rw [if_pos hb54] at h
                refine WA.tellD [] (i := 6) (m := 14) (b' := 127) (by kernel_rfl) (NoPanic.then (NoPanic.then (NoPanic.block (NoPanic.then (NoPanic.then (NoPanic.block (NoPanic.then (NoPanic.then (NoPanic.body))))))))) Under.refl hS (by kernel_rfl) (op := .indexAddr 46 (.tmp 68) (.tmp 69)) (ty := 0) (d := some 70) (g := some (2, false)) (by kernel_rfl) (by kernel_rfl) (by kernel_rfl) (Tells.indexAddr (A := Al0) (n := l0.length) (c := cl0) (k := .i64) (j := y41) (by kernel_rfl) (by kernel_rfl) (Hl0.isSome hb54.1 hb54.2) hb54.1 hb54.2 sl46) ?_
                refine WA.tellDE [] (i := 7) (m := 13) (b' := 255) (by kernel_rfl) (NoPanic.then (NoPanic.then (NoPanic.block (NoPanic.then (NoPanic.then (NoPanic.block (NoPanic.then (NoPanic.then (NoPanic.body))))))))) Under.refl hS (by kernel_rfl) (op := .load 27 (.tmp 70)) (ty := 27) (d := some 71) (g := some (2, false)) (by kernel_rfl) (by kernel_rfl) (by kernel_rfl) (Hl0.load (agg := true) hb54.1 hb54.2 z27 ag27 (fun h => by cases h) (by kernel_rfl)) ?_
                rintro _ rfl
                refine WA.tellD [] (i := 8) (m := 12) (b' := 511) (by kernel_rfl) (NoPanic.then (NoPanic.then (NoPanic.block (NoPanic.then (NoPanic.then (NoPanic.block (NoPanic.then (NoPanic.then (NoPanic.body))))))))) Under.refl hS (by kernel_rfl) (op := .binOp .neq 27 (.tmp 67) (.tmp 71) 27) (ty := 4) (d := some 72) (g := some (2, false)) (by kernel_rfl) (by kernel_rfl) (by kernel_rfl) (Tells.neAgg (xs := #[.int .i64 t45.1.f0, .int .i64 t45.1.f1, .int .i64 t45.1.f2, .int .i64 t45.1.f3, .string t45.1.f4]) (ys := #[.int .i64 ((l0.getD y41.toNat z27).f0), .int .i64 ((l0.getD y41.toNat z27).f1), .int .i64 ((l0.getD y41.toNat z27).f2), .int .i64 ((l0.getD y41.toNat z27).f3), .string ((l0.getD y41.toNat z27).f4)]) (ls := [.int t45.1.f0 ((l0.getD y41.toNat z27).f0), .int t45.1.f1 ((l0.getD y41.toNat z27).f1), .int t45.1.f2 ((l0.getD y41.toNat z27).f2), .int t45.1.f3 ((l0.getD y41.toNat z27).f3), .str t45.1.f4 ((l0.getD y41.toNat z27).f4)]) (by kernel_rfl) (by kernel_rfl) (by kernel_rfl) eg27) ?_
                refine WA.reput 72 (v := .bool (!([.int t45.1.f0 ((l0.getD y41.toNat z27).f0), .int t45.1.f1 ((l0.getD y41.toNat z27).f1), .int t45.1.f2 ((l0.getD y41.toNat z27).f2), .int t45.1.f3 ((l0.getD y41.toNat z27).f3), .str t45.1.f4 ((l0.getD y41.toNat z27).f4)].all Lf.ok))) (v' := .bool (!decide (t45.1 = (l0.getD y41.toNat z27)))) (by kernel_rfl) (by exact (congrArg (fun z => Value.bool (!z)) (eqT27 t45.1 (l0.getD y41.toNat z27)))) ?_
                refine WA.pure [9, 10] [0, 3, 7, 8, 10, 74] (m := 10) (b' := 2047) (L' := [(0, .slice Al0 l0.length cl0), (3, .slice As10 s10.length cs10), (7, .int .i64 y40), (8, .int .i64 y41), (10, .int .i64 t45.2.1), (74, .bool (!decide (t45.1 = (l0.getD y41.toNat z27))))]) (by kernel_rfl) (NoPanic.then (NoPanic.then (NoPanic.block (NoPanic.then (NoPanic.then (NoPanic.block (NoPanic.then (NoPanic.then (NoPanic.body))))))))) Under.refl hS (by kernel_rfl) ?_
                refine WA.split 74 (b := (!decide (t45.1 = (l0.getD y41.toNat z27)))) (by kernel_rfl) (fun hc => ?_) (fun hc => ?_)
                · replace hc := (nd_true hc)
                  rw [if_pos hc] at h
                  have hc55 := hc
                  clear hc
                  refine WA.pure [11, 12, 13, 14, 15, 16, 17, 18, 19, 20] [0, 3, 8, 10, 84] (m := 0) (b' := 2097151) (L' := [(0, .slice Al0 l0.length cl0), (3, .slice As10 s10.length cs10), (8, .int .i64 y41), (10, .int .i64 t45.2.1), (84, .bool true)]) (by kernel_rfl) (NoPanic.then (NoPanic.then (NoPanic.block (NoPanic.then (NoPanic.then (NoPanic.block (NoPanic.then (NoPanic.then (NoPanic.body))))))))) Under.refl hS (by kernel_rfl) ?_
                  refine WA.done hS (by kernel_rfl) ?_
                  refine QP.pick [0, 3, 8, 10, 84] ?_
                  refine QP.pick [0, 3, 8, 10, 84] ?_
                  exact QP.meet ⟨_, Option.some.inj h, rfl, rfl, rfl⟩
                · replace hc := (nd_false hc)
                  rw [if_neg hc] at h
                  have hc55 := hc
                  clear hc
                  refine WA.pure [11, 12, 13, 14, 15] [0, 3, 8, 10, 79] (m := 5) (b' := 65535) (L' := [(0, .slice Al0 l0.length cl0), (3, .slice As10 s10.length cs10), (8, .int .i64 y41), (10, .int .i64 t45.2.1), (79, .bool (decide (t45.2.1 ≤ y40)))]) (by kernel_rfl) (NoPanic.then (NoPanic.then (NoPanic.block (NoPanic.then (NoPanic.then (NoPanic.block (NoPanic.then (NoPanic.then (NoPanic.body))))))))) Under.refl hS (by kernel_rfl) ?_
                  refine WA.split 79 (b := decide (t45.2.1 ≤ y40)) (by kernel_rfl) (fun hc => ?_) (fun hc => ?_)
                  · replace hc := of_decide_eq_true hc
                    rw [if_pos hc] at h
                    have hc56 := hc
                    clear hc
                    refine WA.pure [16, 17, 18, 19, 20] [0, 3, 8, 10, 84] (m := 0) (b' := 2097151) (L' := [(0, .slice Al0 l0.length cl0), (3, .slice As10 s10.length cs10), (8, .int .i64 y41), (10, .int .i64 t45.2.1), (84, .bool true)]) (by kernel_rfl) (NoPanic.then (NoPanic.then (NoPanic.block (NoPanic.then (NoPanic.then (NoPanic.block (NoPanic.then (NoPanic.then (NoPanic.body))))))))) Under.refl hS (by kernel_rfl) ?_
                    refine WA.done hS (by kernel_rfl) ?_
                    refine QP.pick [0, 3, 8, 10, 84] ?_
                    refine QP.pick [0, 3, 8, 10, 84] ?_
                    exact QP.meet ⟨_, Option.some.inj h, rfl, rfl, rfl⟩
                  · replace hc := of_decide_eq_false hc
                    rw [if_neg hc] at h
                    have hc56 := hc
                    clear hc
                    refine WA.pure [16, 17, 18, 19, 20] [0, 3, 8, 10, 84] (m := 0) (b' := 2097151) (L' := [(0, .slice Al0 l0.length cl0), (3, .slice As10 s10.length cs10), (8, .int .i64 y41), (10, .int .i64 t45.2.1), (84, .bool (decide (t45.2.1 > (s10.length : Int))))]) (by kernel_rfl) (NoPanic.then (NoPanic.then (NoPanic.block (NoPanic.then (NoPanic.then (NoPanic.block (NoPanic.then (NoPanic.then (NoPanic.body))))))))) Under.refl hS (by kernel_rfl) ?_
                    refine WA.done hS (by kernel_rfl) ?_
                    refine QP.pick [0, 3, 8, 10, 84] ?_
                    refine QP.pick [0, 3, 8, 10, 84] ?_
                    exact QP.meet ⟨_, Option.some.inj h, rfl, rfl, rfl⟩
            · rintro _ _ _ ⟨s51, rfl, rfl, rfl, rfl⟩
              clear h
              replace h := hk52
              refine WP.cond (b := s51) (by kernel_rfl) (fun hc => ?_) (fun hc => ?_)
              · replace hc := hc
                rw [if_pos hc] at h
                have hc57 := hc
                clear hc
                refine WP.seqP [2] (L' := [(2, .bool false)]) (by kernel_rfl) ?_
                refine WP.dropAt 1 ?_
                refine WP.dropAt 0 ?_
                refine WP.ret ?_
                refine QP.thenR ?_
                refine QP.blockR ?_
                refine QP.thenR ?_
                refine QP.thenR ?_
                refine QP.blockR ?_
                refine QP.thenR ?_
                refine QP.thenR ?_
                obtain rfl := Option.some.inj h
                obtain rfl := Option.some.inj (show some _ = some _ from hk39)
                exact QP.returned [2] [.bool false] _ (by kernel_rfl) (by kernel_rfl) (by kernel_rfl) (fun W hI => ⟨_, _, _, rfl, ⟨rfl, rfl, rfl⟩, hI⟩)
              · replace hc := (Bool.eq_false_iff.1 hc)
                rw [if_neg hc] at h
                have hc57 := hc
                clear hc
                refine WP.skip ?_
                refine QP.next ?_
                refine WP.pick [0, 3, 8, 10] ?_
                refine WP.regionP [0, 3, 7, 8] (L' := [(0, .slice Al0 l0.length cl0), (3, .slice As10 s10.length cs10), (7, .int .i64 t45.2.1), (8, .int .i64 y41)]) (by kernel_rfl) ?_
                refine QP.blockN ?_
                refine QP.next ?_
                refine WP.pick [0, 3, 7, 8] ?_
                refine WP.regionP [0, 3, 7, 8] (L' := [(0, .slice Al0 l0.length cl0), (3, .slice As10 s10.length cs10), (7, .int .i64 t45.2.1), (8, .int .i64 (IntKind.i64.wrap (y41 + 1)))]) (by kernel_rfl) ?_
                refine QP.dropAt 0 ?_
                refine QP.pick [0, 3, 7, 8] ?_
                exact QP.meet ⟨k43, Nat.lt_succ_self _, t45.2.1, (IntKind.i64.wrap (y41 + 1)), h, rfl, rfl, rfl⟩
          · replace hc := of_decide_eq_false hc
            rw [if_neg hc] at h
            have hc44 := hc
            clear hc
            refine WP.exit ?_
            refine QP.thenE ?_
            refine QP.thenE ?_
            refine QP.blockE ?_
            refine QP.pick [3, 7] ?_
            exact QP.meet ⟨_, Option.some.inj h, rfl, rfl, rfl⟩
      · rintro _ _ _ ⟨s38, rfl, rfl, rfl, rfl⟩
        clear h
        replace h := hk39
        refine QP.next ?_
        refine WP.pick [3, 7] ?_
        refine WP.seqR ?_
        refine WL.pure 0 2 [3, 7, 87, 88] (L' := [(3, .slice As10 s10.length cs10), (7, .int .i64 s38), (87, .slice As10 s10.length cs10), (88, .int .i64 s38)]) (by kernel_rfl) (by decide) ?_
        rw [Option.bind_eq_some_iff] at h
        obtain ⟨t58, ht59, h⟩ := h
        refine WL.op (op := .call { callee := (.value (.func 20)), args := #[(.tmp 87), (.tmp 88)], argTypes := #[29, 3] }) (ty := 40) (d := some 89) (g := none) (by kernel_rfl) (by kernel_rfl) (by kernel_rfl) (Does.call (Φ := fun v' G' Γ' => v' = .tuple #[.agg #[.int .i64 t58.1.f0, .int .i64 t58.1.f1, .int .i64 t58.1.f2, .int .i64 t58.1.f3, .string t58.1.f4], .int .i64 t58.2.1, .bool t58.2.2] ∧ G = G' ∧ Cs10 :: Γ = Γ') (f := 20) (args := [.slice As10 s10.length cs10, .int .i64 s38]) (by kernel_rfl) (fun W hI => (Calls.lendH (Φ := fun v' N => v' = .tuple #[.agg #[.int .i64 t58.1.f0, .int .i64 t58.1.f1, .int .i64 t58.1.f2, .int .i64 t58.1.f3, .string t58.1.f4], .int .i64 t58.2.1, .bool t58.2.2] ∧ N = []) (H := []) (i := 0) rfl (Ow.nodup Hs10) hI (fun _ e l62 hI => by subst e; exact (((record_Read_calls (HT.mono l62) k s10 s38 As10 cs10 (Hs10.rd l62) t58 ht59 hI)).mono fun _ _ hr => by obtain ⟨_, _, _, rfl, hd, hI⟩ := hr; obtain ⟨rfl, rfl, rfl⟩ := hd; exact ⟨_, _, _, rfl, ⟨[], ⟨rfl, rfl⟩, rfl, rfl⟩, hI⟩))).mono fun _ _ hr => by obtain ⟨_, _, _, rfl, ⟨_, hd, rfl, rfl⟩, hI⟩ := hr; obtain ⟨rfl, rfl⟩ := hd; exact ⟨_, _, _, rfl, ⟨rfl, rfl, rfl⟩, hI⟩)) ?_
        rintro _ _ _ ⟨rfl, rfl, rfl⟩
        refine WL.pure 3 7 [3, 7, 90, 91, 92] (L' := [(3, .slice As10 s10.length cs10), (7, .int .i64 s38), (90, .agg #[.int .i64 t58.1.f0, .int .i64 t58.1.f1, .int .i64 t58.1.f2, .int .i64 t58.1.f3, .string t58.1.f4]), (91, .int .i64 t58.2.1), (92, .bool t58.2.2)]) (by kernel_rfl) (by decide) ?_
        refine WL.op (op := .alloc 27) (ty := 0) (d := some 12) (g := none) (by kernel_rfl) (by kernel_rfl) (by kernel_rfl) (Does.new (o := .cells #[.int .i64 0, .int .i64 0, .int .i64 0, .int .i64 0, .string (⟨#[]⟩ : ByteArray)] 27 (0, 0)) (v := fun r => .pointer (some ⟨r, 0, none⟩)) (fun r => by kernel_rfl)) ?_
        rintro _ _ _ ⟨b63, rfl, rfl, rfl⟩
        refine WL.op (op := .store 27 (.tmp 12) (.tmp 90)) (ty := 0) (d := none) (g := none) (by kernel_rfl) (by kernel_rfl) (by kernel_rfl) (Does.store_box (i := 0) (b := b63) (o := 0) (v := .agg #[.int .i64 t58.1.f0, .int .i64 t58.1.f1, .int .i64 t58.1.f2, .int .i64 t58.1.f3, .string t58.1.f4]) (by rfl) sz27 (by kernel_rfl) (by kernel_rfl) (by kernel_rfl) (Free.zero _) (Nat.le_of_ble_eq_true rfl) (cells' := #[.int .i64 t58.1.f0, .int .i64 t58.1.f1, .int .i64 t58.1.f2, .int .i64 t58.1.f3, .string t58.1.f4]) (by kernel_rfl)) ?_
        rintro _ _ _ ⟨rfl, rfl, rfl⟩
        refine WL.restQ 9 [3, 7, 14] (L' := [(3, .slice As10 s10.length cs10), (7, .int .i64 s38), (14, .bool t58.2.2)]) (by kernel_rfl) ?_
        refine WP.dropAt 0 ?_
        rw [Option.bind_eq_some_iff] at h
        obtain ⟨os64, h, hk65⟩ := h
        refine WP.cut (fun L' G' Γ' => ∃ s64 : Bool, s64 = os64 ∧ L' = [(2, .bool s64)] ∧ G = G' ∧ Cs10 :: Γ = Γ') ?_ ?_
        · clear hk65
          refine WP.region ?_
          refine WL.pure 0 5 [14, 97] (L' := [(14, .bool t58.2.2), (97, .bool (s38 == (s10.length : Int)))]) (by kernel_rfl) (by decide) ?_
          refine WL.split 97 (b := (s38 == (s10.length : Int))) (by kernel_rfl) (fun hc => ?_) (fun hc => ?_)
          · replace hc := eq_of_beq hc
            rw [if_pos hc] at h
            have hc66 := hc
            clear hc
            refine WL.pure 5 9 [101] (L' := [(101, .bool (!t58.2.2))]) (by kernel_rfl) (by decide) ?_
            refine WL.split 101 (b := (!t58.2.2)) (by kernel_rfl) (fun hc => ?_) (fun hc => ?_)
            · replace hc := hc
              rw [if_pos hc] at h
              have hc67 := hc
              clear hc
              rw [Option.bind_eq_some_iff] at h
              obtain ⟨t68, ht69, h⟩ := h
              refine WL.op (op := .call { callee := (.value (.func 13)), args := #[], argTypes := #[] }) (ty := 4) (d := some 102) (g := some (8, true)) (by kernel_rfl) (by kernel_rfl) (by kernel_rfl) (Does.call (f := 13) (args := []) (by kernel_rfl) (fun W hI => (grapevinelaw4_awake_calls HT k   t68 ht69 hI))) ?_
              rintro _ _ _ ⟨rfl, rfl, rfl⟩
              refine WL.rest 10 [2] (L' := [(2, .bool t68)]) (by kernel_rfl) ?_
              refine QP.pick [2] ?_
              exact QP.meet ⟨_, Option.some.inj h, rfl, rfl, rfl⟩
            · replace hc := (Bool.eq_false_iff.1 hc)
              rw [if_neg hc] at h
              have hc67 := hc
              clear hc
              refine WL.rest 9 [2] (L' := [(2, .bool false)]) (by kernel_rfl) ?_
              refine QP.pick [2] ?_
              exact QP.meet ⟨_, Option.some.inj h, rfl, rfl, rfl⟩
          · replace hc := ne_of_beq_false hc
            rw [if_neg hc] at h
            have hc66 := hc
            clear hc
            refine WL.rest 5 [2] (L' := [(2, .bool false)]) (by kernel_rfl) ?_
            refine QP.pick [2] ?_
            exact QP.meet ⟨_, Option.some.inj h, rfl, rfl, rfl⟩
        · rintro _ _ _ ⟨s64, rfl, rfl, rfl, rfl⟩
          clear h
          replace h := hk65
          refine WP.ret ?_
          obtain rfl := Option.some.inj h
          refine QP.dropAt 0 ?_
          exact QP.returned [2] [.bool s64] _ (by kernel_rfl) (by kernel_rfl) (by kernel_rfl) (fun W hI => ⟨_, _, _, rfl, ⟨rfl, rfl, rfl⟩, hI⟩)
/-- The plain law. -/
def RecordRows_Pure : Prop := ∀ (l0 : List T27), (l0.length ≤ maxLen ∧ ∀ z0 ∈ l0, ((Lit.int .i64 z0.f0).wf = true ∧ (Lit.int .i64 z0.f1).wf = true ∧ (Lit.int .i64 z0.f2).wf = true ∧ (Lit.int .i64 z0.f3).wf = true ∧ z0.f4.size ≤ maxLen)) → ∃ k, grapevinelaw4_RecordRows k l0 = some true
end Go.Proofs.YtjmhhmljldjmjaaDoor.Gf
