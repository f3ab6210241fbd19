/- Walks of Go functions: what each tells, as a plain Lean function, and that the Go code comes to it. Written by gg.py of this repo. -/
import Derived.Test.YtmphcmgbognmnaaT
import Derived.Test.YtmphcmgbognmnaaF0
namespace Go.Proofs.Ytmphcmgbognmnaa.Gf
open Go Go.Gg
set_option maxRecDepth 100000
set_option linter.unusedVariables false
set_option linter.unusedSimpArgs false

/-! ### grapevine/grapevinelaw22.BagRows: function 14 -/
def grapevinelaw22_BagRows_l0 (t1 : Int) (t5 : Int) : Nat → Int → T89 → Option (Sum Bool T89)
  | 0, _, _ => none
  | k + 1, y15, y16 => (if y15 < t5 then (if y15 ≥ t1 then ((bag_Bag_Put y16 y15 ([IntKind.u8.wrap y15, 7] : List Int)).bind fun t24 => (if ¬ t24.1 = 10 then some (Sum.inl false) else grapevinelaw22_BagRows_l0 t1 t5 k (IntKind.i64.wrap (y15 + 1)) t24.2)) else ((bag_Bag_Put y16 y15 ([IntKind.u8.wrap y15, 7] : List Int)).bind fun t33 => (if ¬ t33.1 = 0 then some (Sum.inl false) else grapevinelaw22_BagRows_l0 t1 t5 k (IntKind.i64.wrap (y15 + 1)) t33.2))) else some (Sum.inr y16))
def grapevinelaw22_BagRows_l1 (t1 : Int) (t5 : Int) (t61 : Int) : Nat → Int → T89 → Option (Sum Bool T89)
  | 0, _, _ => none
  | k + 1, y79, y80 => (if y79 < (if t5 < t1 then t5 else t1) then (if y79 = t61 then grapevinelaw22_BagRows_l1 t1 t5 t61 k (IntKind.i64.wrap (y79 + 1)) y80 else ((bag_Bag_Take y80 0).bind fun t85 => ((if ¬ t85.1 = y79 then some true else ((grapevinelaw0_SameBytes k t85.2.1 ([IntKind.u8.wrap y79, 7] : List Int)).bind fun t95 => (if (!t95) = true then some true else some (!t85.2.2.1)))).bind fun s89 => (if s89 = true then some (Sum.inl false) else grapevinelaw22_BagRows_l1 t1 t5 t61 k (IntKind.i64.wrap (y79 + 1)) t85.2.2.2)))) else some (Sum.inr y80))
def grapevinelaw22_BagRows (k : Nat) (a0 : Int) (a1 : Int) (a2 : Int) : Option Bool := ((grapevinelaw0_Low a0 25).bind fun t1 => ((grapevinelaw0_Low a1 30).bind fun t5 => ((bag_New t1).bind fun t9 => Option.elim t9 (some false) (fun x12 => ((grapevinelaw22_BagRows_l0 t1 t5 k 0 x12).bind fun os13 => match os13 with | Sum.inl r => some r | Sum.inr s13 => (if (if t5 < t1 then t5 else t1) = 0 then ((bag_Bag_Take s13 a2).bind fun t40 => ((if (!t40.2.2.1) = true then ((bag_Bag_Drop t40.2.2.2 a2).bind fun t47 => (if (!t47.1) = true then ((bag_Bag_Len t47.2).bind fun t52 => (if t52 = 0 then ((grapevinelaw22_awake k ).bind fun t57 => some (t57, t47.2)) else some (false, t47.2))) else some (false, t47.2))) else some (false, t40.2.2.2)).bind fun s44 => some s44.1)) else ((grapevinelaw0_Low a2 (if t5 < t1 then t5 else t1)).bind fun t61 => (((bag_Bag_Len s13).bind fun t67 => (if ¬ t67 = (if t5 < t1 then t5 else t1) then some (true, s13) else ((bag_Bag_Drop s13 t61).bind fun t72 => some ((!t72.1), t72.2)))).bind fun s65 => (if s65.1 = true then some false else ((grapevinelaw22_BagRows_l1 t1 t5 t61 k 0 s65.2).bind fun os77 => match os77 with | Sum.inl r => some r | Sum.inr s77 => (((bag_Bag_Len s77).bind fun t105 => (if t105 = 0 then ((grapevinelaw22_awake k ).bind fun t110 => some t110) else some false)).bind fun s103 => some s103)))))))))))
set_option maxHeartbeats 4000000 in
theorem grapevinelaw22_BagRows_calls {B : World} {G : GMap} {Γ : List Chunk} {W : World} (k : Nat) (a0 : Int) (a1 : Int) (a2 : Int) (r : Bool) (h : grapevinelaw22_BagRows k a0 a1 a2 = some r) (hI : Inv B G (Γ) W) :
    Calls Try.prog 14 [.int .i64 a0, .int .i64 a1, .int .i64 a2].toArray W (Ret B (fun v G' Γ' => v = .bool r ∧ G = G' ∧ Γ = Γ')) := by
  refine calls_WP (Γ := Γ) (G := G) (B := B) Try.func14 rfl (by kernel_rfl) ?_ hI
  clear hI
  unfold grapevinelaw22_BagRows at h
  refine WP.seqP [0, 1, 2] (L' := [(0, .int .i64 a0), (1, .int .i64 a1), (2, .int .i64 a2)]) (by kernel_rfl) ?_
  refine WP.seqR ?_
  refine WL.pure 0 1 [0, 1, 2, 18] (L' := [(0, .int .i64 a0), (1, .int .i64 a1), (2, .int .i64 a2), (18, .int .i64 a0)]) (by kernel_rfl) (by decide) ?_
  rw [Option.bind_eq_some_iff] at h
  obtain ⟨t1, ht2, h⟩ := h
  refine WL.op (op := .call { callee := (.value (.func 31)), args := #[(.tmp 18), (.const (.int .i64 25))], argTypes := #[3, 3] }) (ty := 3) (d := some 19) (g := none) (by kernel_rfl) (by kernel_rfl) (by kernel_rfl) (Does.call (f := 31) (args := [.int .i64 a0, .int .i64 25]) (by kernel_rfl) (fun W hI => (grapevinelaw0_Low_calls a0 25  t1 ht2 hI))) ?_
  rintro _ _ _ ⟨rfl, rfl, rfl⟩
  refine WL.pure 2 3 [0, 1, 2, 19, 20] (L' := [(0, .int .i64 a0), (1, .int .i64 a1), (2, .int .i64 a2), (19, .int .i64 t1), (20, .int .i64 a1)]) (by kernel_rfl) (by decide) ?_
  rw [Option.bind_eq_some_iff] at h
  obtain ⟨t5, ht6, h⟩ := h
  refine WL.op (op := .call { callee := (.value (.func 31)), args := #[(.tmp 20), (.const (.int .i64 30))], argTypes := #[3, 3] }) (ty := 3) (d := some 21) (g := none) (by kernel_rfl) (by kernel_rfl) (by kernel_rfl) (Does.call (f := 31) (args := [.int .i64 a1, .int .i64 30]) (by kernel_rfl) (fun W hI => (grapevinelaw0_Low_calls a1 30  t5 ht6 hI))) ?_
  rintro _ _ _ ⟨rfl, rfl, rfl⟩
  refine WL.restQ 4 [0, 1, 2] (L' := [(0, .int .i64 t1), (1, .int .i64 t5), (2, .int .i64 a2)]) (by kernel_rfl) ?_
  refine WP.seqR ?_
  refine WL.pure 0 1 [0, 1, 2, 22] (L' := [(0, .int .i64 t1), (1, .int .i64 t5), (2, .int .i64 a2), (22, .int .i64 t1)]) (by kernel_rfl) (by decide) ?_
  rw [Option.bind_eq_some_iff] at h
  obtain ⟨t9, ht10, h⟩ := h
  refine WL.op (op := .call { callee := (.value (.func 42)), args := #[(.tmp 22)], argTypes := #[3] }) (ty := 67) (d := some 23) (g := none) (by kernel_rfl) (by kernel_rfl) (by kernel_rfl) (Does.call (f := 42) (args := [.int .i64 t1]) (by kernel_rfl) (fun W hI => (bag_New_calls t1  t9 ht10 hI))) ?_
  rintro _ _ _ (⟨hx, rfl, rfl, rfl⟩ | ⟨x12, hx, bR11, AR11, cR11, CR11, rfl, HR11, rfl, rfl⟩)
  · rw [hx] at h
    rw [Option.elim_none] at h
    clear hx
    refine WL.restQ 2 [0, 1, 2, 7] (L' := [(0, .int .i64 t1), (1, .int .i64 t5), (2, .int .i64 a2), (7, .pointer none)]) (by kernel_rfl) ?_
    refine WP.seq ?_
    refine WP.seqP [0, 1, 2, 7, 25] (L' := [(0, .int .i64 t1), (1, .int .i64 t5), (2, .int .i64 a2), (7, .pointer none), (25, .bool true)]) (by kernel_rfl) ?_
    refine WP.yes (by kernel_rfl) ?_
    refine WP.seqP [6] (L' := [(6, .bool false)]) (by kernel_rfl) ?_
    refine WP.ret ?_
    refine QP.thenR ?_
    obtain rfl := Option.some.inj h
    exact QP.returned [6] [.bool false] _ (by kernel_rfl) (by kernel_rfl) (by kernel_rfl) (fun W hI => ⟨_, _, _, rfl, ⟨rfl, rfl, rfl⟩, hI⟩)
  · rw [hx] at h
    rw [Option.elim_some] at h
    clear hx
    refine WL.restQ 2 [0, 1, 2, 7] (L' := [(0, .int .i64 t1), (1, .int .i64 t5), (2, .int .i64 a2), (7, .pointer (some ⟨bR11, 0, none⟩))]) (by kernel_rfl) ?_
    refine WP.seq ?_
    refine WP.seqP [0, 1, 2, 7, 25] (L' := [(0, .int .i64 t1), (1, .int .i64 t5), (2, .int .i64 a2), (7, .pointer (some ⟨bR11, 0, none⟩)), (25, .bool false)]) (by kernel_rfl) ?_
    refine WP.no (by kernel_rfl) ?_
    refine WP.skip ?_
    refine QP.next ?_
    refine WP.pick [0, 1, 2, 7] ?_
    refine WP.seq ?_
    refine WP.seqP [0, 1, 2, 7, 8] (L' := [(0, .int .i64 t1), (1, .int .i64 t5), (2, .int .i64 a2), (7, .pointer (some ⟨bR11, 0, none⟩)), (8, .int .i64 0)]) (by kernel_rfl) ?_
    rw [Option.bind_eq_some_iff] at h
    obtain ⟨os13, h, hk14⟩ := h
    refine WP.cutQ (fun L' G' Γ' => ∃ s13 : T89, Sum.inr s13 = os13 ∧ ∃ (As13_f1 : Option Addr), ∃ (cs13_f1 : Nat), ∃ (Cs13_f1 : Chunk), L' = [(0, .int .i64 t1), (1, .int .i64 t5), (2, .int .i64 a2), (7, .pointer (some ⟨bR11, 0, none⟩))] ∧ G = G' ∧ [(bR11, .cells #[.int .i64 s13.f0, .slice As13_f1 s13.f1.length cs13_f1] 89 (0, 0))] :: Cs13_f1 :: Γ = Γ' ∧ Dp d94 G As13_f1 cs13_f1 s13.f1 Cs13_f1) ?_ ?_
    · skip
      refine WP.block ?_
      refine WP.pick [0, 1, 2, 7, 8] ?_
      refine WP.loopF (fun kn17 L' G' Γ' => ∃ (y15 : Int), ∃ (y16 : T89), grapevinelaw22_BagRows_l0 t1 t5 kn17 y15 y16 = some os13 ∧ ∃ (Ay16_f1 : Option Addr), ∃ (cy16_f1 : Nat), ∃ (Cy16_f1 : Chunk), L' = [(0, .int .i64 t1), (1, .int .i64 t5), (2, .int .i64 a2), (7, .pointer (some ⟨bR11, 0, none⟩)), (8, .int .i64 y15)] ∧ G = G' ∧ [(bR11, .cells #[.int .i64 y16.f0, .slice Ay16_f1 y16.f1.length cy16_f1] 89 (0, 0))] :: Cy16_f1 :: Γ = Γ' ∧ Dp d94 G Ay16_f1 cy16_f1 y16.f1 Cy16_f1) ?_ k ⟨0, x12, h, AR11, cR11, CR11, rfl, rfl, rfl, HR11⟩
      clear h
      rintro kn18 _ _ _ ⟨y15, y16, h, Ay16_f1, cy16_f1, Cy16_f1, rfl, rfl, rfl, Hy16_f1⟩
      cases kn18 with
      | zero => exact absurd h (by simp [grapevinelaw22_BagRows_l0])
      | succ kn18 =>
        simp only [grapevinelaw22_BagRows_l0] at h
        refine WP.seq ?_
        refine WP.seqP [0, 1, 2, 7, 8, 28] (L' := [(0, .int .i64 t1), (1, .int .i64 t5), (2, .int .i64 a2), (7, .pointer (some ⟨bR11, 0, none⟩)), (8, .int .i64 y15), (28, .bool (decide (y15 < t5)))]) (by kernel_rfl) ?_
        refine WP.cond (b := decide (y15 < t5)) (by kernel_rfl) (fun hc => ?_) (fun hc => ?_)
        · replace hc := of_decide_eq_true hc
          rw [if_pos hc] at h
          have hc19 := hc
          clear hc
          refine WP.skip ?_
          refine QP.next ?_
          refine WP.pick [0, 1, 2, 7, 8] ?_
          refine WP.seq ?_
          refine WP.block ?_
          refine WP.seqP [0, 1, 2, 7, 8, 9] (L' := [(0, .int .i64 t1), (1, .int .i64 t5), (2, .int .i64 a2), (7, .pointer (some ⟨bR11, 0, none⟩)), (8, .int .i64 y15), (9, .int .i64 0)]) (by kernel_rfl) ?_
          refine WP.seq ?_
          refine WP.seqP [0, 1, 2, 7, 8, 9, 33] (L' := [(0, .int .i64 t1), (1, .int .i64 t5), (2, .int .i64 a2), (7, .pointer (some ⟨bR11, 0, none⟩)), (8, .int .i64 y15), (9, .int .i64 0), (33, .bool (decide (y15 ≥ t1)))]) (by kernel_rfl) ?_
          refine WP.cond (b := decide (y15 ≥ t1)) (by kernel_rfl) (fun hc => ?_) (fun hc => ?_)
          · replace hc := of_decide_eq_true hc
            rw [if_pos hc] at h
            have hc20 := hc
            clear hc
            refine WP.regionP [0, 1, 2, 7, 8, 9] (L' := [(0, .int .i64 t1), (1, .int .i64 t5), (2, .int .i64 a2), (7, .pointer (some ⟨bR11, 0, none⟩)), (8, .int .i64 y15), (9, .int .i64 10)]) (by kernel_rfl) ?_
            refine QP.next ?_
            refine WP.pick [0, 1, 2, 7, 8, 9] ?_
            refine WP.seqR ?_
            refine WL.pure 0 4 [0, 1, 2, 7, 8, 9, 34, 35, 37] (L' := [(0, .int .i64 t1), (1, .int .i64 t5), (2, .int .i64 a2), (7, .pointer (some ⟨bR11, 0, none⟩)), (8, .int .i64 y15), (9, .int .i64 10), (34, .pointer (some ⟨bR11, 0, none⟩)), (35, .int .i64 y15), (37, .int .u8 (IntKind.u8.wrap y15))]) (by kernel_rfl) (by decide) ?_
            refine WL.op (op := .buildSlice 70 2 #[(0, (.tmp 37)), (1, (.const (.int .u8 7)))]) (ty := 70) (d := some 38) (g := none) (by kernel_rfl) (by kernel_rfl) (by kernel_rfl) (Does.new (o := .cells #[.int .u8 (IntKind.u8.wrap y15), .int .u8 7] 5 (0, 0)) (v := fun r => .slice (some ⟨r, 0, none⟩) 2 2) (fun r => by kernel_rfl)) ?_
            rintro _ _ _ ⟨b21, rfl, rfl, rfl⟩
            have Ho23 : Ow (kInt .u8) G (some ⟨b21, 0, none⟩) 2 ([IntKind.u8.wrap y15, 7] : List Int) [(b21, .cells #[.int .u8 (IntKind.u8.wrap y15), .int .u8 7] 5 (0, 0))] := Ow.lit (kd := (kInt .u8)) (G := G) (b := b21) (T := 5) (xs := ([IntKind.u8.wrap y15, 7] : List Int)) (cs := [.int .u8 (IntKind.u8.wrap y15), .int .u8 7]) (.cons (x := (IntKind.u8.wrap y15)) (cs := [.int .u8 (IntKind.u8.wrap y15)]) (by exact rfl) (.cons (x := 7) (cs := [.int .u8 7]) (by exact rfl) .nil))
            refine WL.front (i := 2) rfl ?_
            refine WL.front (i := 2) rfl ?_
            rw [Option.bind_eq_some_iff] at h
            obtain ⟨t24, ht25, h⟩ := h
            refine WL.op (op := .call { callee := (.value (.func 43)), args := #[(.tmp 34), (.tmp 35), (.tmp 38)], argTypes := #[67, 3, 70] }) (ty := 41) (d := some 39) (g := none) (by kernel_rfl) (by kernel_rfl) (by kernel_rfl) (Does.call (Φ := fun v' G' Γ' => ∃ (AR26p0 : Option Addr), ∃ (cR26p0 : Nat), ∃ (CR26p0 : Chunk), v' = .int .i64 t24.1 ∧ Dp d94 G AR26p0 cR26p0 t24.2.f1 CR26p0 ∧ G = G' ∧ [(bR11, .cells #[.int .i64 t24.2.f0, .slice AR26p0 t24.2.f1.length cR26p0] 89 (0, 0))] :: CR26p0 :: [(b21, .cells #[.int .u8 (IntKind.u8.wrap y15), .int .u8 7] 5 (0, 0))] :: Γ = Γ') (f := 43) (args := [.pointer (some ⟨bR11, 0, none⟩), .int .i64 y15, .slice (some ⟨b21, 0, none⟩) ([IntKind.u8.wrap y15, 7] : List Int).length 2]) (by kernel_rfl) (fun W hI => (Calls.lendN (Φ := fun v' N => ∃ (AR26p0 : Option Addr), ∃ (cR26p0 : Nat), ∃ (CR26p0 : Chunk), v' = .int .i64 t24.1 ∧ Dp d94 G AR26p0 cR26p0 t24.2.f1 CR26p0 ∧ N = [[(bR11, .cells #[.int .i64 t24.2.f0, .slice AR26p0 t24.2.f1.length cR26p0] 89 (0, 0))], CR26p0]) (H := [[(bR11, .cells #[.int .i64 y16.f0, .slice Ay16_f1 y16.f1.length cy16_f1] 89 (0, 0))], Cy16_f1]) (i := 0) rfl hI (fun _ e l28 nl28 hI => by subst e; exact (((bag_Bag_Put_calls y16 y15 ([IntKind.u8.wrap y15, 7] : List Int) bR11 Ay16_f1 cy16_f1 Cy16_f1 (Hy16_f1.mono l28) (some ⟨b21, 0, none⟩) 2 (Ho23.rdN l28 nl28) t24 ht25 hI)).mono fun _ _ hr => by obtain ⟨_, _, _, rfl, hd, hI⟩ := hr; obtain ⟨AR26p0, cR26p0, CR26p0, rfl, HR26p0, rfl, rfl⟩ := hd; exact ⟨_, _, _, rfl, ⟨[[(bR11, .cells #[.int .i64 t24.2.f0, .slice AR26p0 t24.2.f1.length cR26p0] 89 (0, 0))], CR26p0], ⟨AR26p0, cR26p0, CR26p0, rfl, (HR26p0.flat (kInt_flat .i64)), rfl⟩, rfl, rfl⟩, hI⟩))).mono fun _ _ hr => by obtain ⟨_, _, _, rfl, ⟨_, hd, rfl, rfl⟩, hI⟩ := hr; obtain ⟨AR26p0, cR26p0, CR26p0, rfl, HR26p0, rfl⟩ := hd; exact ⟨_, _, _, rfl, ⟨AR26p0, cR26p0, CR26p0, rfl, HR26p0, rfl, rfl⟩, hI⟩)) ?_
            rintro _ _ _ ⟨AR26p0, cR26p0, CR26p0, rfl, HR26p0, rfl, rfl⟩
            refine WL.restQ 6 [0, 1, 2, 7, 8, 41] (L' := [(0, .int .i64 t1), (1, .int .i64 t5), (2, .int .i64 a2), (7, .pointer (some ⟨bR11, 0, none⟩)), (8, .int .i64 y15), (41, .bool (t24.1 != 10))]) (by kernel_rfl) ?_
            refine WP.dropAt 2 ?_
            refine WP.cond (b := (t24.1 != 10)) (by kernel_rfl) (fun hc => ?_) (fun hc => ?_)
            · replace hc := (bne_iff_ne.1 hc)
              rw [if_pos hc] at h
              have hc29 := hc
              clear hc
              refine WP.seqP [6] (L' := [(6, .bool false)]) (by kernel_rfl) ?_
              refine WP.dropAt 1 ?_
              refine WP.dropAt 0 ?_
              refine WP.ret ?_
              refine QP.blockR ?_
              refine QP.thenR ?_
              refine QP.thenR ?_
              refine QP.blockR ?_
              refine QP.thenR ?_
              refine QP.thenR ?_
              obtain rfl := Option.some.inj h
              obtain rfl := Option.some.inj (show some _ = some _ from hk14)
              exact QP.returned [6] [.bool false] _ (by kernel_rfl) (by kernel_rfl) (by kernel_rfl) (fun W hI => ⟨_, _, _, rfl, ⟨rfl, rfl, rfl⟩, hI⟩)
            · replace hc := (not_not_intro (bne_eq_false_iff_eq.1 hc))
              rw [if_neg hc] at h
              have hc29 := hc
              clear hc
              refine WP.skip ?_
              refine QP.blockN ?_
              refine QP.next ?_
              refine WP.pick [0, 1, 2, 7, 8] ?_
              refine WP.regionP [0, 1, 2, 7, 8] (L' := [(0, .int .i64 t1), (1, .int .i64 t5), (2, .int .i64 a2), (7, .pointer (some ⟨bR11, 0, none⟩)), (8, .int .i64 (IntKind.i64.wrap (y15 + 1)))]) (by kernel_rfl) ?_
              refine QP.front (i := 1) rfl ?_
              refine QP.front (i := 1) rfl ?_
              refine QP.pick [0, 1, 2, 7, 8] ?_
              exact QP.meet ⟨kn18, Nat.lt_succ_self _, (IntKind.i64.wrap (y15 + 1)), t24.2, h, AR26p0, cR26p0, CR26p0, rfl, rfl, rfl, HR26p0⟩
          · replace hc := of_decide_eq_false hc
            rw [if_neg hc] at h
            have hc20 := hc
            clear hc
            refine WP.skip ?_
            refine QP.next ?_
            refine WP.pick [0, 1, 2, 7, 8, 9] ?_
            refine WP.seqR ?_
            refine WL.pure 0 4 [0, 1, 2, 7, 8, 9, 34, 35, 37] (L' := [(0, .int .i64 t1), (1, .int .i64 t5), (2, .int .i64 a2), (7, .pointer (some ⟨bR11, 0, none⟩)), (8, .int .i64 y15), (9, .int .i64 0), (34, .pointer (some ⟨bR11, 0, none⟩)), (35, .int .i64 y15), (37, .int .u8 (IntKind.u8.wrap y15))]) (by kernel_rfl) (by decide) ?_
            refine WL.op (op := .buildSlice 70 2 #[(0, (.tmp 37)), (1, (.const (.int .u8 7)))]) (ty := 70) (d := some 38) (g := none) (by kernel_rfl) (by kernel_rfl) (by kernel_rfl) (Does.new (o := .cells #[.int .u8 (IntKind.u8.wrap y15), .int .u8 7] 5 (0, 0)) (v := fun r => .slice (some ⟨r, 0, none⟩) 2 2) (fun r => by kernel_rfl)) ?_
            rintro _ _ _ ⟨b30, rfl, rfl, rfl⟩
            have Ho32 : Ow (kInt .u8) G (some ⟨b30, 0, none⟩) 2 ([IntKind.u8.wrap y15, 7] : List Int) [(b30, .cells #[.int .u8 (IntKind.u8.wrap y15), .int .u8 7] 5 (0, 0))] := Ow.lit (kd := (kInt .u8)) (G := G) (b := b30) (T := 5) (xs := ([IntKind.u8.wrap y15, 7] : List Int)) (cs := [.int .u8 (IntKind.u8.wrap y15), .int .u8 7]) (.cons (x := (IntKind.u8.wrap y15)) (cs := [.int .u8 (IntKind.u8.wrap y15)]) (by exact rfl) (.cons (x := 7) (cs := [.int .u8 7]) (by exact rfl) .nil))
            refine WL.front (i := 2) rfl ?_
            refine WL.front (i := 2) rfl ?_
            rw [Option.bind_eq_some_iff] at h
            obtain ⟨t33, ht34, h⟩ := h
            refine WL.op (op := .call { callee := (.value (.func 43)), args := #[(.tmp 34), (.tmp 35), (.tmp 38)], argTypes := #[67, 3, 70] }) (ty := 41) (d := some 39) (g := none) (by kernel_rfl) (by kernel_rfl) (by kernel_rfl) (Does.call (Φ := fun v' G' Γ' => ∃ (AR35p0 : Option Addr), ∃ (cR35p0 : Nat), ∃ (CR35p0 : Chunk), v' = .int .i64 t33.1 ∧ Dp d94 G AR35p0 cR35p0 t33.2.f1 CR35p0 ∧ G = G' ∧ [(bR11, .cells #[.int .i64 t33.2.f0, .slice AR35p0 t33.2.f1.length cR35p0] 89 (0, 0))] :: CR35p0 :: [(b30, .cells #[.int .u8 (IntKind.u8.wrap y15), .int .u8 7] 5 (0, 0))] :: Γ = Γ') (f := 43) (args := [.pointer (some ⟨bR11, 0, none⟩), .int .i64 y15, .slice (some ⟨b30, 0, none⟩) ([IntKind.u8.wrap y15, 7] : List Int).length 2]) (by kernel_rfl) (fun W hI => (Calls.lendN (Φ := fun v' N => ∃ (AR35p0 : Option Addr), ∃ (cR35p0 : Nat), ∃ (CR35p0 : Chunk), v' = .int .i64 t33.1 ∧ Dp d94 G AR35p0 cR35p0 t33.2.f1 CR35p0 ∧ N = [[(bR11, .cells #[.int .i64 t33.2.f0, .slice AR35p0 t33.2.f1.length cR35p0] 89 (0, 0))], CR35p0]) (H := [[(bR11, .cells #[.int .i64 y16.f0, .slice Ay16_f1 y16.f1.length cy16_f1] 89 (0, 0))], Cy16_f1]) (i := 0) rfl hI (fun _ e l37 nl37 hI => by subst e; exact (((bag_Bag_Put_calls y16 y15 ([IntKind.u8.wrap y15, 7] : List Int) bR11 Ay16_f1 cy16_f1 Cy16_f1 (Hy16_f1.mono l37) (some ⟨b30, 0, none⟩) 2 (Ho32.rdN l37 nl37) t33 ht34 hI)).mono fun _ _ hr => by obtain ⟨_, _, _, rfl, hd, hI⟩ := hr; obtain ⟨AR35p0, cR35p0, CR35p0, rfl, HR35p0, rfl, rfl⟩ := hd; exact ⟨_, _, _, rfl, ⟨[[(bR11, .cells #[.int .i64 t33.2.f0, .slice AR35p0 t33.2.f1.length cR35p0] 89 (0, 0))], CR35p0], ⟨AR35p0, cR35p0, CR35p0, rfl, (HR35p0.flat (kInt_flat .i64)), rfl⟩, rfl, rfl⟩, hI⟩))).mono fun _ _ hr => by obtain ⟨_, _, _, rfl, ⟨_, hd, rfl, rfl⟩, hI⟩ := hr; obtain ⟨AR35p0, cR35p0, CR35p0, rfl, HR35p0, rfl⟩ := hd; exact ⟨_, _, _, rfl, ⟨AR35p0, cR35p0, CR35p0, rfl, HR35p0, rfl, rfl⟩, hI⟩)) ?_
            rintro _ _ _ ⟨AR35p0, cR35p0, CR35p0, rfl, HR35p0, rfl, rfl⟩
            refine WL.restQ 6 [0, 1, 2, 7, 8, 41] (L' := [(0, .int .i64 t1), (1, .int .i64 t5), (2, .int .i64 a2), (7, .pointer (some ⟨bR11, 0, none⟩)), (8, .int .i64 y15), (41, .bool (t33.1 != 0))]) (by kernel_rfl) ?_
            refine WP.dropAt 2 ?_
            refine WP.cond (b := (t33.1 != 0)) (by kernel_rfl) (fun hc => ?_) (fun hc => ?_)
            · replace hc := (bne_iff_ne.1 hc)
              rw [if_pos hc] at h
              have hc38 := hc
              clear hc
              refine WP.seqP [6] (L' := [(6, .bool false)]) (by kernel_rfl) ?_
              refine WP.dropAt 1 ?_
              refine WP.dropAt 0 ?_
              refine WP.ret ?_
              refine QP.blockR ?_
              refine QP.thenR ?_
              refine QP.thenR ?_
              refine QP.blockR ?_
              refine QP.thenR ?_
              refine QP.thenR ?_
              obtain rfl := Option.some.inj h
              obtain rfl := Option.some.inj (show some _ = some _ from hk14)
              exact QP.returned [6] [.bool false] _ (by kernel_rfl) (by kernel_rfl) (by kernel_rfl) (fun W hI => ⟨_, _, _, rfl, ⟨rfl, rfl, rfl⟩, hI⟩)
            · replace hc := (not_not_intro (bne_eq_false_iff_eq.1 hc))
              rw [if_neg hc] at h
              have hc38 := hc
              clear hc
              refine WP.skip ?_
              refine QP.blockN ?_
              refine QP.next ?_
              refine WP.pick [0, 1, 2, 7, 8] ?_
              refine WP.regionP [0, 1, 2, 7, 8] (L' := [(0, .int .i64 t1), (1, .int .i64 t5), (2, .int .i64 a2), (7, .pointer (some ⟨bR11, 0, none⟩)), (8, .int .i64 (IntKind.i64.wrap (y15 + 1)))]) (by kernel_rfl) ?_
              refine QP.front (i := 1) rfl ?_
              refine QP.front (i := 1) rfl ?_
              refine QP.pick [0, 1, 2, 7, 8] ?_
              exact QP.meet ⟨kn18, Nat.lt_succ_self _, (IntKind.i64.wrap (y15 + 1)), t33.2, h, AR35p0, cR35p0, CR35p0, rfl, rfl, rfl, HR35p0⟩
        · replace hc := of_decide_eq_false hc
          rw [if_neg hc] at h
          have hc19 := hc
          clear hc
          refine WP.exit ?_
          refine QP.thenE ?_
          refine QP.thenE ?_
          refine QP.blockE ?_
          refine QP.pick [0, 1, 2, 7] ?_
          exact QP.meet ⟨_, Option.some.inj h, Ay16_f1, cy16_f1, Cy16_f1, rfl, rfl, rfl, Hy16_f1⟩
    · rintro _ _ _ ⟨s13, rfl, As13_f1, cs13_f1, Cs13_f1, rfl, rfl, rfl, Hs13_f1⟩
      clear h
      replace h := hk14
      dsimp only at h
      refine QP.next ?_
      refine WP.pick [0, 1, 2, 7] ?_
      refine WP.seqP [2, 7, 10] (L' := [(2, .int .i64 a2), (7, .pointer (some ⟨bR11, 0, none⟩)), (10, .int .i64 (if t5 < t1 then t5 else t1))]) (by kernel_rfl) ?_
      refine WP.seq ?_
      refine WP.seqP [2, 7, 10, 46] (L' := [(2, .int .i64 a2), (7, .pointer (some ⟨bR11, 0, none⟩)), (10, .int .i64 (if t5 < t1 then t5 else t1)), (46, .bool ((if t5 < t1 then t5 else t1) == 0))]) (by kernel_rfl) ?_
      refine WP.cond (b := ((if t5 < t1 then t5 else t1) == 0)) (by kernel_rfl) (fun hc => ?_) (fun hc => ?_)
      · replace hc := eq_of_beq hc
        rw [if_pos hc] at h
        have hc39 := hc
        clear hc
        refine WP.seqR ?_
        refine WL.pure 0 2 [2, 7, 48, 49] (L' := [(2, .int .i64 a2), (7, .pointer (some ⟨bR11, 0, none⟩)), (48, .pointer (some ⟨bR11, 0, none⟩)), (49, .int .i64 a2)]) (by kernel_rfl) (by decide) ?_
        refine WL.front (i := 1) rfl ?_
        refine WL.front (i := 1) rfl ?_
        rw [Option.bind_eq_some_iff] at h
        obtain ⟨t40, ht41, h⟩ := h
        refine WL.op (op := .call { callee := (.value (.func 44)), args := #[(.tmp 48), (.tmp 49)], argTypes := #[67, 3] }) (ty := 71) (d := some 50) (g := none) (by kernel_rfl) (by kernel_rfl) (by kernel_rfl) (Does.call (f := 44) (args := [.pointer (some ⟨bR11, 0, none⟩), .int .i64 a2]) (by kernel_rfl) (fun W hI => (bag_Bag_Take_calls s13 a2 bR11 As13_f1 cs13_f1 Cs13_f1 Hs13_f1 t40 ht41 hI))) ?_
        rintro _ _ _ ⟨AR421, cR421, CR421, AR42p0, cR42p0, CR42p0, rfl, HR421, HR42p0, rfl, rfl⟩
        refine WL.restQ 3 [2, 7, 13] (L' := [(2, .int .i64 a2), (7, .pointer (some ⟨bR11, 0, none⟩)), (13, .bool t40.2.2.1)]) (by kernel_rfl) ?_
        refine WP.dropAt 0 ?_
        rw [Option.bind_eq_some_iff] at h
        obtain ⟨os44, h, hk45⟩ := h
        refine WP.cut (fun L' G' Γ' => ∃ s44 : Bool × T89, s44 = os44 ∧ ∃ (As44_2_f1 : Option Addr), ∃ (cs44_2_f1 : Nat), ∃ (Cs44_2_f1 : Chunk), L' = [(6, .bool s44.1)] ∧ G = G' ∧ [(bR11, .cells #[.int .i64 s44.2.f0, .slice As44_2_f1 s44.2.f1.length cs44_2_f1] 89 (0, 0))] :: Cs44_2_f1 :: Γ = Γ' ∧ Dp d94 G As44_2_f1 cs44_2_f1 s44.2.f1 Cs44_2_f1) ?_ ?_
        · clear hk45
          refine WP.region ?_
          refine WL.pure 0 3 [2, 7, 56] (L' := [(2, .int .i64 a2), (7, .pointer (some ⟨bR11, 0, none⟩)), (56, .bool (!t40.2.2.1))]) (by kernel_rfl) (by decide) ?_
          refine WL.split 56 (b := (!t40.2.2.1)) (by kernel_rfl) (fun hc => ?_) (fun hc => ?_)
          · replace hc := hc
            rw [if_pos hc] at h
            have hc46 := hc
            clear hc
            refine WL.pure 3 5 [7, 56, 57, 58] (L' := [(7, .pointer (some ⟨bR11, 0, none⟩)), (56, .bool true), (57, .pointer (some ⟨bR11, 0, none⟩)), (58, .int .i64 a2)]) (by kernel_rfl) (by decide) ?_
            refine WL.front (i := 1) rfl ?_
            refine WL.front (i := 1) rfl ?_
            rw [Option.bind_eq_some_iff] at h
            obtain ⟨t47, ht48, h⟩ := h
            refine WL.op (op := .call { callee := (.value (.func 45)), args := #[(.tmp 57), (.tmp 58)], argTypes := #[67, 3] }) (ty := 4) (d := some 59) (g := some (2, true)) (by kernel_rfl) (by kernel_rfl) (by kernel_rfl) (Does.call (f := 45) (args := [.pointer (some ⟨bR11, 0, none⟩), .int .i64 a2]) (by kernel_rfl) (fun W hI => (bag_Bag_Drop_calls t40.2.2.2 a2 bR11 AR42p0 cR42p0 CR42p0 HR42p0 t47 ht48 hI))) ?_
            rintro _ _ _ ⟨AR49p0, cR49p0, CR49p0, rfl, HR49p0, rfl, rfl⟩
            refine WL.pure 6 9 [7, 62] (L' := [(7, .pointer (some ⟨bR11, 0, none⟩)), (62, .bool (!t47.1))]) (by kernel_rfl) (by decide) ?_
            refine WL.split 62 (b := (!t47.1)) (by kernel_rfl) (fun hc => ?_) (fun hc => ?_)
            · replace hc := hc
              rw [if_pos hc] at h
              have hc51 := hc
              clear hc
              refine WL.pure 9 10 [62, 63] (L' := [(62, .bool true), (63, .pointer (some ⟨bR11, 0, none⟩))]) (by kernel_rfl) (by decide) ?_
              refine WL.front (i := 1) rfl ?_
              refine WL.front (i := 1) rfl ?_
              rw [Option.bind_eq_some_iff] at h
              obtain ⟨t52, ht53, h⟩ := h
              refine WL.op (op := .call { callee := (.value (.func 46)), args := #[(.tmp 63)], argTypes := #[67] }) (ty := 3) (d := some 64) (g := some (8, true)) (by kernel_rfl) (by kernel_rfl) (by kernel_rfl) (Does.call (f := 46) (args := [.pointer (some ⟨bR11, 0, none⟩)]) (by kernel_rfl) (fun W hI => (bag_Bag_Len_calls t47.2 bR11 AR49p0 cR49p0 CR49p0 HR49p0 t52 ht53 hI))) ?_
              rintro _ _ _ ⟨rfl, rfl, rfl⟩
              refine WL.pure 11 14 [67] (L' := [(67, .bool (t52 == 0))]) (by kernel_rfl) (by decide) ?_
              refine WL.split 67 (b := (t52 == 0)) (by kernel_rfl) (fun hc => ?_) (fun hc => ?_)
              · replace hc := eq_of_beq hc
                rw [if_pos hc] at h
                have hc56 := hc
                clear hc
                rw [Option.bind_eq_some_iff] at h
                obtain ⟨t57, ht58, h⟩ := h
                refine WL.op (op := .call { callee := (.value (.func 47)), args := #[], argTypes := #[] }) (ty := 4) (d := some 68) (g := some (13, true)) (by kernel_rfl) (by kernel_rfl) (by kernel_rfl) (Does.call (f := 47) (args := []) (by kernel_rfl) (fun W hI => (grapevinelaw22_awake_calls k   t57 ht58 hI))) ?_
                rintro _ _ _ ⟨rfl, rfl, rfl⟩
                refine WL.rest 15 [6] (L' := [(6, .bool t57)]) (by kernel_rfl) ?_
                refine QP.pick [6] ?_
                exact QP.meet ⟨_, Option.some.inj h, AR49p0, cR49p0, CR49p0, rfl, rfl, rfl, HR49p0⟩
              · replace hc := ne_of_beq_false hc
                rw [if_neg hc] at h
                have hc56 := hc
                clear hc
                refine WL.rest 14 [6] (L' := [(6, .bool false)]) (by kernel_rfl) ?_
                refine QP.pick [6] ?_
                exact QP.meet ⟨_, Option.some.inj h, AR49p0, cR49p0, CR49p0, rfl, rfl, rfl, HR49p0⟩
            · replace hc := (Bool.eq_false_iff.1 hc)
              rw [if_neg hc] at h
              have hc51 := hc
              clear hc
              refine WL.rest 9 [6] (L' := [(6, .bool false)]) (by kernel_rfl) ?_
              refine QP.pick [6] ?_
              exact QP.meet ⟨_, Option.some.inj h, AR49p0, cR49p0, CR49p0, rfl, rfl, rfl, HR49p0⟩
          · replace hc := (Bool.eq_false_iff.1 hc)
            rw [if_neg hc] at h
            have hc46 := hc
            clear hc
            refine WL.rest 3 [6] (L' := [(6, .bool false)]) (by kernel_rfl) ?_
            refine QP.pick [6] ?_
            exact QP.meet ⟨_, Option.some.inj h, AR42p0, cR42p0, CR42p0, rfl, rfl, rfl, HR42p0⟩
        · rintro _ _ _ ⟨s44, rfl, As44_2_f1, cs44_2_f1, Cs44_2_f1, rfl, rfl, rfl, Hs44_2_f1⟩
          clear h
          replace h := hk45
          refine WP.ret ?_
          refine QP.thenR ?_
          obtain rfl := Option.some.inj h
          refine QP.dropAt 1 ?_
          refine QP.dropAt 0 ?_
          exact QP.returned [6] [.bool s44.1] _ (by kernel_rfl) (by kernel_rfl) (by kernel_rfl) (fun W hI => ⟨_, _, _, rfl, ⟨rfl, rfl, rfl⟩, hI⟩)
      · replace hc := ne_of_beq_false hc
        rw [if_neg hc] at h
        have hc39 := hc
        clear hc
        refine WP.skip ?_
        refine QP.next ?_
        refine WP.pick [2, 7, 10] ?_
        refine WP.seqR ?_
        refine WL.pure 0 2 [2, 7, 10, 70, 71] (L' := [(2, .int .i64 a2), (7, .pointer (some ⟨bR11, 0, none⟩)), (10, .int .i64 (if t5 < t1 then t5 else t1)), (70, .int .i64 a2), (71, .int .i64 (if t5 < t1 then t5 else t1))]) (by kernel_rfl) (by decide) ?_
        rw [Option.bind_eq_some_iff] at h
        obtain ⟨t61, ht62, h⟩ := h
        refine WL.op (op := .call { callee := (.value (.func 31)), args := #[(.tmp 70), (.tmp 71)], argTypes := #[3, 3] }) (ty := 3) (d := some 72) (g := none) (by kernel_rfl) (by kernel_rfl) (by kernel_rfl) (Does.call (f := 31) (args := [.int .i64 a2, .int .i64 (if t5 < t1 then t5 else t1)]) (by kernel_rfl) (fun W hI => (grapevinelaw0_Low_calls a2 (if t5 < t1 then t5 else t1)  t61 ht62 hI))) ?_
        rintro _ _ _ ⟨rfl, rfl, rfl⟩
        refine WL.restQ 3 [2, 7, 10] (L' := [(2, .int .i64 t61), (7, .pointer (some ⟨bR11, 0, none⟩)), (10, .int .i64 (if t5 < t1 then t5 else t1))]) (by kernel_rfl) ?_
        refine WP.seq ?_
        rw [Option.bind_eq_some_iff] at h
        obtain ⟨os65, h, hk66⟩ := h
        refine WP.cut (fun L' G' Γ' => ∃ s65 : Bool × T89, s65 = os65 ∧ ∃ (As65_2_f1 : Option Addr), ∃ (cs65_2_f1 : Nat), ∃ (Cs65_2_f1 : Chunk), L' = [(2, .int .i64 t61), (7, .pointer (some ⟨bR11, 0, none⟩)), (10, .int .i64 (if t5 < t1 then t5 else t1)), (82, .bool s65.1)] ∧ G = G' ∧ [(bR11, .cells #[.int .i64 s65.2.f0, .slice As65_2_f1 s65.2.f1.length cs65_2_f1] 89 (0, 0))] :: Cs65_2_f1 :: Γ = Γ' ∧ Dp d94 G As65_2_f1 cs65_2_f1 s65.2.f1 Cs65_2_f1) ?_ ?_
        · clear hk66
          refine WP.region ?_
          refine WL.pure 0 1 [2, 7, 10, 73] (L' := [(2, .int .i64 t61), (7, .pointer (some ⟨bR11, 0, none⟩)), (10, .int .i64 (if t5 < t1 then t5 else t1)), (73, .pointer (some ⟨bR11, 0, none⟩))]) (by kernel_rfl) (by decide) ?_
          refine WL.front (i := 1) rfl ?_
          refine WL.front (i := 1) rfl ?_
          rw [Option.bind_eq_some_iff] at h
          obtain ⟨t67, ht68, h⟩ := h
          refine WL.op (op := .call { callee := (.value (.func 46)), args := #[(.tmp 73)], argTypes := #[67] }) (ty := 3) (d := some 74) (g := none) (by kernel_rfl) (by kernel_rfl) (by kernel_rfl) (Does.call (f := 46) (args := [.pointer (some ⟨bR11, 0, none⟩)]) (by kernel_rfl) (fun W hI => (bag_Bag_Len_calls s13 bR11 As13_f1 cs13_f1 Cs13_f1 Hs13_f1 t67 ht68 hI))) ?_
          rintro _ _ _ ⟨rfl, rfl, rfl⟩
          refine WL.pure 2 5 [2, 7, 10, 77] (L' := [(2, .int .i64 t61), (7, .pointer (some ⟨bR11, 0, none⟩)), (10, .int .i64 (if t5 < t1 then t5 else t1)), (77, .bool (t67 != (if t5 < t1 then t5 else t1)))]) (by kernel_rfl) (by decide) ?_
          refine WL.split 77 (b := (t67 != (if t5 < t1 then t5 else t1))) (by kernel_rfl) (fun hc => ?_) (fun hc => ?_)
          · replace hc := (bne_iff_ne.1 hc)
            rw [if_pos hc] at h
            have hc71 := hc
            clear hc
            refine WL.rest 5 [2, 7, 10, 82] (L' := [(2, .int .i64 t61), (7, .pointer (some ⟨bR11, 0, none⟩)), (10, .int .i64 (if t5 < t1 then t5 else t1)), (82, .bool true)]) (by kernel_rfl) ?_
            refine QP.pick [2, 7, 10, 82] ?_
            exact QP.meet ⟨_, Option.some.inj h, As13_f1, cs13_f1, Cs13_f1, rfl, rfl, rfl, Hs13_f1⟩
          · replace hc := (not_not_intro (bne_eq_false_iff_eq.1 hc))
            rw [if_neg hc] at h
            have hc71 := hc
            clear hc
            refine WL.pure 5 7 [2, 7, 10, 77, 78, 79] (L' := [(2, .int .i64 t61), (7, .pointer (some ⟨bR11, 0, none⟩)), (10, .int .i64 (if t5 < t1 then t5 else t1)), (77, .bool false), (78, .pointer (some ⟨bR11, 0, none⟩)), (79, .int .i64 t61)]) (by kernel_rfl) (by decide) ?_
            refine WL.front (i := 1) rfl ?_
            refine WL.front (i := 1) rfl ?_
            rw [Option.bind_eq_some_iff] at h
            obtain ⟨t72, ht73, h⟩ := h
            refine WL.op (op := .call { callee := (.value (.func 45)), args := #[(.tmp 78), (.tmp 79)], argTypes := #[67, 3] }) (ty := 4) (d := some 80) (g := some (4, false)) (by kernel_rfl) (by kernel_rfl) (by kernel_rfl) (Does.call (f := 45) (args := [.pointer (some ⟨bR11, 0, none⟩), .int .i64 t61]) (by kernel_rfl) (fun W hI => (bag_Bag_Drop_calls s13 t61 bR11 As13_f1 cs13_f1 Cs13_f1 Hs13_f1 t72 ht73 hI))) ?_
            rintro _ _ _ ⟨AR74p0, cR74p0, CR74p0, rfl, HR74p0, rfl, rfl⟩
            refine WL.rest 8 [2, 7, 10, 82] (L' := [(2, .int .i64 t61), (7, .pointer (some ⟨bR11, 0, none⟩)), (10, .int .i64 (if t5 < t1 then t5 else t1)), (82, .bool (!t72.1))]) (by kernel_rfl) ?_
            refine QP.pick [2, 7, 10, 82] ?_
            exact QP.meet ⟨_, Option.some.inj h, AR74p0, cR74p0, CR74p0, rfl, rfl, rfl, HR74p0⟩
        · rintro _ _ _ ⟨s65, rfl, As65_2_f1, cs65_2_f1, Cs65_2_f1, rfl, rfl, rfl, Hs65_2_f1⟩
          clear h
          replace h := hk66
          refine WP.cond (b := s65.1) (by kernel_rfl) (fun hc => ?_) (fun hc => ?_)
          · replace hc := hc
            rw [if_pos hc] at h
            have hc76 := hc
            clear hc
            refine WP.seqP [6] (L' := [(6, .bool false)]) (by kernel_rfl) ?_
            refine WP.dropAt 1 ?_
            refine WP.dropAt 0 ?_
            refine WP.ret ?_
            refine QP.thenR ?_
            obtain rfl := Option.some.inj h
            exact QP.returned [6] [.bool false] _ (by kernel_rfl) (by kernel_rfl) (by kernel_rfl) (fun W hI => ⟨_, _, _, rfl, ⟨rfl, rfl, rfl⟩, hI⟩)
          · replace hc := (Bool.eq_false_iff.1 hc)
            rw [if_neg hc] at h
            have hc76 := hc
            clear hc
            refine WP.skip ?_
            refine QP.next ?_
            refine WP.pick [2, 7, 10] ?_
            refine WP.seq ?_
            refine WP.seqP [2, 7, 10, 14] (L' := [(2, .int .i64 t61), (7, .pointer (some ⟨bR11, 0, none⟩)), (10, .int .i64 (if t5 < t1 then t5 else t1)), (14, .int .i64 0)]) (by kernel_rfl) ?_
            rw [Option.bind_eq_some_iff] at h
            obtain ⟨os77, h, hk78⟩ := h
            refine WP.cutQ (fun L' G' Γ' => ∃ s77 : T89, Sum.inr s77 = os77 ∧ ∃ (As77_f1 : Option Addr), ∃ (cs77_f1 : Nat), ∃ (Cs77_f1 : Chunk), L' = [(7, .pointer (some ⟨bR11, 0, none⟩))] ∧ G = G' ∧ [(bR11, .cells #[.int .i64 s77.f0, .slice As77_f1 s77.f1.length cs77_f1] 89 (0, 0))] :: Cs77_f1 :: Γ = Γ' ∧ Dp d94 G As77_f1 cs77_f1 s77.f1 Cs77_f1) ?_ ?_
            · skip
              refine WP.block ?_
              refine WP.pick [2, 7, 10, 14] ?_
              refine WP.loopF (fun kn81 L' G' Γ' => ∃ (y79 : Int), ∃ (y80 : T89), grapevinelaw22_BagRows_l1 t1 t5 t61 kn81 y79 y80 = some os77 ∧ ∃ (Ay80_f1 : Option Addr), ∃ (cy80_f1 : Nat), ∃ (Cy80_f1 : Chunk), L' = [(2, .int .i64 t61), (7, .pointer (some ⟨bR11, 0, none⟩)), (10, .int .i64 (if t5 < t1 then t5 else t1)), (14, .int .i64 y79)] ∧ G = G' ∧ [(bR11, .cells #[.int .i64 y80.f0, .slice Ay80_f1 y80.f1.length cy80_f1] 89 (0, 0))] :: Cy80_f1 :: Γ = Γ' ∧ Dp d94 G Ay80_f1 cy80_f1 y80.f1 Cy80_f1) ?_ k ⟨0, s65.2, h, As65_2_f1, cs65_2_f1, Cs65_2_f1, rfl, rfl, rfl, Hs65_2_f1⟩
              clear h
              rintro kn82 _ _ _ ⟨y79, y80, h, Ay80_f1, cy80_f1, Cy80_f1, rfl, rfl, rfl, Hy80_f1⟩
              cases kn82 with
              | zero => exact absurd h (by simp [grapevinelaw22_BagRows_l1])
              | succ kn82 =>
                simp only [grapevinelaw22_BagRows_l1] at h
                refine WP.seq ?_
                refine WP.seqP [2, 7, 10, 14, 85] (L' := [(2, .int .i64 t61), (7, .pointer (some ⟨bR11, 0, none⟩)), (10, .int .i64 (if t5 < t1 then t5 else t1)), (14, .int .i64 y79), (85, .bool (decide (y79 < (if t5 < t1 then t5 else t1))))]) (by kernel_rfl) ?_
                refine WP.cond (b := decide (y79 < (if t5 < t1 then t5 else t1))) (by kernel_rfl) (fun hc => ?_) (fun hc => ?_)
                · replace hc := of_decide_eq_true hc
                  rw [if_pos hc] at h
                  have hc83 := hc
                  clear hc
                  refine WP.skip ?_
                  refine QP.next ?_
                  refine WP.pick [2, 7, 10, 14] ?_
                  refine WP.seq ?_
                  refine WP.block ?_
                  refine WP.seq ?_
                  refine WP.seqP [2, 7, 10, 14, 90] (L' := [(2, .int .i64 t61), (7, .pointer (some ⟨bR11, 0, none⟩)), (10, .int .i64 (if t5 < t1 then t5 else t1)), (14, .int .i64 y79), (90, .bool (y79 == t61))]) (by kernel_rfl) ?_
                  refine WP.cond (b := (y79 == t61)) (by kernel_rfl) (fun hc => ?_) (fun hc => ?_)
                  · replace hc := eq_of_beq hc
                    rw [if_pos hc] at h
                    have hc84 := hc
                    clear hc
                    refine WP.exit ?_
                    refine QP.thenE ?_
                    refine QP.blockE ?_
                    refine QP.next ?_
                    refine WP.pick [2, 7, 10, 14] ?_
                    refine WP.regionP [2, 7, 10, 14] (L' := [(2, .int .i64 t61), (7, .pointer (some ⟨bR11, 0, none⟩)), (10, .int .i64 (if t5 < t1 then t5 else t1)), (14, .int .i64 (IntKind.i64.wrap (y79 + 1)))]) (by kernel_rfl) ?_
                    refine QP.front (i := 1) rfl ?_
                    refine QP.front (i := 1) rfl ?_
                    refine QP.pick [2, 7, 10, 14] ?_
                    exact QP.meet ⟨kn82, Nat.lt_succ_self _, (IntKind.i64.wrap (y79 + 1)), y80, h, Ay80_f1, cy80_f1, Cy80_f1, rfl, rfl, rfl, Hy80_f1⟩
                  · replace hc := ne_of_beq_false hc
                    rw [if_neg hc] at h
                    have hc84 := hc
                    clear hc
                    refine WP.skip ?_
                    refine QP.next ?_
                    refine WP.pick [2, 7, 10, 14] ?_
                    refine WP.seqR ?_
                    refine WL.pure 0 1 [2, 7, 10, 14, 92] (L' := [(2, .int .i64 t61), (7, .pointer (some ⟨bR11, 0, none⟩)), (10, .int .i64 (if t5 < t1 then t5 else t1)), (14, .int .i64 y79), (92, .pointer (some ⟨bR11, 0, none⟩))]) (by kernel_rfl) (by decide) ?_
                    refine WL.front (i := 1) rfl ?_
                    refine WL.front (i := 1) rfl ?_
                    rw [Option.bind_eq_some_iff] at h
                    obtain ⟨t85, ht86, h⟩ := h
                    refine WL.op (op := .call { callee := (.value (.func 44)), args := #[(.tmp 92), (.const (.int .i64 0))], argTypes := #[67, 3] }) (ty := 71) (d := some 93) (g := none) (by kernel_rfl) (by kernel_rfl) (by kernel_rfl) (Does.call (f := 44) (args := [.pointer (some ⟨bR11, 0, none⟩), .int .i64 0]) (by kernel_rfl) (fun W hI => (bag_Bag_Take_calls y80 0 bR11 Ay80_f1 cy80_f1 Cy80_f1 Hy80_f1 t85 ht86 hI))) ?_
                    rintro _ _ _ ⟨AR871, cR871, CR871, AR87p0, cR87p0, CR87p0, rfl, HR871, HR87p0, rfl, rfl⟩
                    refine WL.restQ 2 [2, 7, 10, 14, 15, 16, 17] (L' := [(2, .int .i64 t61), (7, .pointer (some ⟨bR11, 0, none⟩)), (10, .int .i64 (if t5 < t1 then t5 else t1)), (14, .int .i64 y79), (15, .int .i64 t85.1), (16, .slice AR871 t85.2.1.length cR871), (17, .bool t85.2.2.1)]) (by kernel_rfl) ?_
                    rw [Option.bind_eq_some_iff] at h
                    obtain ⟨os89, h, hk90⟩ := h
                    refine WP.cut (fun L' G' Γ' => ∃ s89 : Bool, s89 = os89 ∧ L' = [(2, .int .i64 t61), (7, .pointer (some ⟨bR11, 0, none⟩)), (10, .int .i64 (if t5 < t1 then t5 else t1)), (14, .int .i64 y79), (111, .bool s89)] ∧ G = G' ∧ [(bR11, .cells #[.int .i64 t85.2.2.2.f0, .slice AR87p0 t85.2.2.2.f1.length cR87p0] 89 (0, 0))] :: CR87p0 :: Γ = Γ') ?_ ?_
                    · clear hk90
                      refine WP.region ?_
                      refine WL.pure 0 4 [2, 7, 10, 14, 16, 17, 100] (L' := [(2, .int .i64 t61), (7, .pointer (some ⟨bR11, 0, none⟩)), (10, .int .i64 (if t5 < t1 then t5 else t1)), (14, .int .i64 y79), (16, .slice AR871 t85.2.1.length cR871), (17, .bool t85.2.2.1), (100, .bool (t85.1 != y79))]) (by kernel_rfl) (by decide) ?_
                      refine WL.split 100 (b := (t85.1 != y79)) (by kernel_rfl) (fun hc => ?_) (fun hc => ?_)
                      · replace hc := (bne_iff_ne.1 hc)
                        rw [if_pos hc] at h
                        have hc91 := hc
                        clear hc
                        refine WL.rest 4 [2, 7, 10, 14, 111] (L' := [(2, .int .i64 t61), (7, .pointer (some ⟨bR11, 0, none⟩)), (10, .int .i64 (if t5 < t1 then t5 else t1)), (14, .int .i64 y79), (111, .bool true)]) (by kernel_rfl) ?_
                        refine QP.dropAt 0 ?_
                        refine QP.pick [2, 7, 10, 14, 111] ?_
                        exact QP.meet ⟨_, Option.some.inj h, rfl, rfl, rfl⟩
                      · replace hc := (not_not_intro (bne_eq_false_iff_eq.1 hc))
                        rw [if_neg hc] at h
                        have hc91 := hc
                        clear hc
                        refine WL.pure 4 7 [2, 7, 10, 14, 17, 100, 101, 103] (L' := [(2, .int .i64 t61), (7, .pointer (some ⟨bR11, 0, none⟩)), (10, .int .i64 (if t5 < t1 then t5 else t1)), (14, .int .i64 y79), (17, .bool t85.2.2.1), (100, .bool false), (101, .slice AR871 t85.2.1.length cR871), (103, .int .u8 (IntKind.u8.wrap y79))]) (by kernel_rfl) (by decide) ?_
                        refine WL.op (op := .buildSlice 70 2 #[(0, (.tmp 103)), (1, (.const (.int .u8 7)))]) (ty := 70) (d := some 104) (g := some (3, false)) (by kernel_rfl) (by kernel_rfl) (by kernel_rfl) (Does.new (o := .cells #[.int .u8 (IntKind.u8.wrap y79), .int .u8 7] 5 (0, 0)) (v := fun r => .slice (some ⟨r, 0, none⟩) 2 2) (fun r => by kernel_rfl)) ?_
                        rintro _ _ _ ⟨b92, rfl, rfl, rfl⟩
                        have Ho94 : Ow (kInt .u8) G (some ⟨b92, 0, none⟩) 2 ([IntKind.u8.wrap y79, 7] : List Int) [(b92, .cells #[.int .u8 (IntKind.u8.wrap y79), .int .u8 7] 5 (0, 0))] := Ow.lit (kd := (kInt .u8)) (G := G) (b := b92) (T := 5) (xs := ([IntKind.u8.wrap y79, 7] : List Int)) (cs := [.int .u8 (IntKind.u8.wrap y79), .int .u8 7]) (.cons (x := (IntKind.u8.wrap y79)) (cs := [.int .u8 (IntKind.u8.wrap y79)]) (by exact rfl) (.cons (x := 7) (cs := [.int .u8 7]) (by exact rfl) .nil))
                        rw [Option.bind_eq_some_iff] at h
                        obtain ⟨t95, ht96, h⟩ := h
                        refine WL.op (op := .call { callee := (.value (.func 48)), args := #[(.tmp 101), (.tmp 104)], argTypes := #[70, 70] }) (ty := 4) (d := some 105) (g := some (3, false)) (by kernel_rfl) (by kernel_rfl) (by kernel_rfl) (Does.call (Φ := fun v' G' Γ' => v' = .bool t95 ∧ G = G' ∧ [(b92, .cells #[.int .u8 (IntKind.u8.wrap y79), .int .u8 7] 5 (0, 0))] :: CR871 :: [(bR11, .cells #[.int .i64 t85.2.2.2.f0, .slice AR87p0 t85.2.2.2.f1.length cR87p0] 89 (0, 0))] :: CR87p0 :: Γ = Γ') (f := 48) (args := [.slice AR871 t85.2.1.length cR871, .slice (some ⟨b92, 0, none⟩) ([IntKind.u8.wrap y79, 7] : List Int).length 2]) (by kernel_rfl) (fun W hI => (Calls.lendN (Φ := fun v' N => v' = .bool t95 ∧ N = []) (H := []) (i := 1) rfl hI (fun _ e l99 nl99 hI => by subst e; exact Calls.lendN (Φ := fun v' N => v' = .bool t95 ∧ N = []) (H := []) (i := 0) rfl hI (fun _ e l100 nl100 hI => by subst e; exact (((grapevinelaw0_SameBytes_calls kn82 t85.2.1 ([IntKind.u8.wrap y79, 7] : List Int) AR871 cR871 ((HR871.rdN l99 nl99).mono l100) (some ⟨b92, 0, none⟩) 2 ((Ho94.mono l99).rdN l100 nl100) t95 ht96 hI)).mono fun _ _ hr => by obtain ⟨_, _, _, rfl, hd, hI⟩ := hr; obtain ⟨rfl, rfl, rfl⟩ := hd; exact ⟨_, _, _, rfl, ⟨[], ⟨rfl, rfl⟩, rfl, rfl⟩, hI⟩)))).mono fun _ _ hr => by obtain ⟨_, _, _, rfl, ⟨_, hd, rfl, rfl⟩, hI⟩ := hr; obtain ⟨rfl, rfl⟩ := hd; exact ⟨_, _, _, rfl, ⟨rfl, rfl, rfl⟩, hI⟩)) ?_
                        rintro _ _ _ ⟨rfl, rfl, rfl⟩
                        refine WL.pure 9 12 [2, 7, 10, 14, 17, 108] (L' := [(2, .int .i64 t61), (7, .pointer (some ⟨bR11, 0, none⟩)), (10, .int .i64 (if t5 < t1 then t5 else t1)), (14, .int .i64 y79), (17, .bool t85.2.2.1), (108, .bool (!t95))]) (by kernel_rfl) (by decide) ?_
                        refine WL.split 108 (b := (!t95)) (by kernel_rfl) (fun hc => ?_) (fun hc => ?_)
                        · replace hc := hc
                          rw [if_pos hc] at h
                          have hc101 := hc
                          clear hc
                          refine WL.rest 12 [2, 7, 10, 14, 111] (L' := [(2, .int .i64 t61), (7, .pointer (some ⟨bR11, 0, none⟩)), (10, .int .i64 (if t5 < t1 then t5 else t1)), (14, .int .i64 y79), (111, .bool true)]) (by kernel_rfl) ?_
                          refine QP.dropAt 1 ?_
                          refine QP.dropAt 0 ?_
                          refine QP.pick [2, 7, 10, 14, 111] ?_
                          exact QP.meet ⟨_, Option.some.inj h, rfl, rfl, rfl⟩
                        · replace hc := (Bool.eq_false_iff.1 hc)
                          rw [if_neg hc] at h
                          have hc101 := hc
                          clear hc
                          refine WL.rest 12 [2, 7, 10, 14, 111] (L' := [(2, .int .i64 t61), (7, .pointer (some ⟨bR11, 0, none⟩)), (10, .int .i64 (if t5 < t1 then t5 else t1)), (14, .int .i64 y79), (111, .bool (!t85.2.2.1))]) (by kernel_rfl) ?_
                          refine QP.dropAt 1 ?_
                          refine QP.dropAt 0 ?_
                          refine QP.pick [2, 7, 10, 14, 111] ?_
                          exact QP.meet ⟨_, Option.some.inj h, rfl, rfl, rfl⟩
                    · rintro _ _ _ ⟨s89, rfl, rfl, rfl, rfl⟩
                      clear h
                      replace h := hk90
                      refine WP.cond (b := s89) (by kernel_rfl) (fun hc => ?_) (fun hc => ?_)
                      · replace hc := hc
                        rw [if_pos hc] at h
                        have hc102 := hc
                        clear hc
                        refine WP.seqP [6] (L' := [(6, .bool false)]) (by kernel_rfl) ?_
                        refine WP.dropAt 1 ?_
                        refine WP.dropAt 0 ?_
                        refine WP.ret ?_
                        refine QP.blockR ?_
                        refine QP.thenR ?_
                        refine QP.thenR ?_
                        refine QP.blockR ?_
                        refine QP.thenR ?_
                        refine QP.thenR ?_
                        obtain rfl := Option.some.inj h
                        obtain rfl := Option.some.inj (show some _ = some _ from hk78)
                        exact QP.returned [6] [.bool false] _ (by kernel_rfl) (by kernel_rfl) (by kernel_rfl) (fun W hI => ⟨_, _, _, rfl, ⟨rfl, rfl, rfl⟩, hI⟩)
                      · replace hc := (Bool.eq_false_iff.1 hc)
                        rw [if_neg hc] at h
                        have hc102 := hc
                        clear hc
                        refine WP.skip ?_
                        refine QP.blockN ?_
                        refine QP.next ?_
                        refine WP.pick [2, 7, 10, 14] ?_
                        refine WP.regionP [2, 7, 10, 14] (L' := [(2, .int .i64 t61), (7, .pointer (some ⟨bR11, 0, none⟩)), (10, .int .i64 (if t5 < t1 then t5 else t1)), (14, .int .i64 (IntKind.i64.wrap (y79 + 1)))]) (by kernel_rfl) ?_
                        refine QP.front (i := 1) rfl ?_
                        refine QP.front (i := 1) rfl ?_
                        refine QP.pick [2, 7, 10, 14] ?_
                        exact QP.meet ⟨kn82, Nat.lt_succ_self _, (IntKind.i64.wrap (y79 + 1)), t85.2.2.2, h, AR87p0, cR87p0, CR87p0, rfl, rfl, rfl, HR87p0⟩
                · replace hc := of_decide_eq_false hc
                  rw [if_neg hc] at h
                  have hc83 := hc
                  clear hc
                  refine WP.exit ?_
                  refine QP.thenE ?_
                  refine QP.thenE ?_
                  refine QP.blockE ?_
                  refine QP.pick [7] ?_
                  exact QP.meet ⟨_, Option.some.inj h, Ay80_f1, cy80_f1, Cy80_f1, rfl, rfl, rfl, Hy80_f1⟩
            · rintro _ _ _ ⟨s77, rfl, As77_f1, cs77_f1, Cs77_f1, rfl, rfl, rfl, Hs77_f1⟩
              clear h
              replace h := hk78
              dsimp only at h
              refine QP.next ?_
              refine WP.pick [7] ?_
              rw [Option.bind_eq_some_iff] at h
              obtain ⟨os103, h, hk104⟩ := h
              refine WP.cut (fun L' G' Γ' => ∃ s103 : Bool, s103 = os103 ∧ L' = [(6, .bool s103)] ∧ G = G' ∧ Γ = Γ') ?_ ?_
              · clear hk104
                refine WP.region ?_
                refine WL.pure 0 1 [112] (L' := [(112, .pointer (some ⟨bR11, 0, none⟩))]) (by kernel_rfl) (by decide) ?_
                refine WL.front (i := 1) rfl ?_
                refine WL.front (i := 1) rfl ?_
                rw [Option.bind_eq_some_iff] at h
                obtain ⟨t105, ht106, h⟩ := h
                refine WL.op (op := .call { callee := (.value (.func 46)), args := #[(.tmp 112)], argTypes := #[67] }) (ty := 3) (d := some 113) (g := none) (by kernel_rfl) (by kernel_rfl) (by kernel_rfl) (Does.call (f := 46) (args := [.pointer (some ⟨bR11, 0, none⟩)]) (by kernel_rfl) (fun W hI => (bag_Bag_Len_calls s77 bR11 As77_f1 cs77_f1 Cs77_f1 Hs77_f1 t105 ht106 hI))) ?_
                rintro _ _ _ ⟨rfl, rfl, rfl⟩
                refine WL.pure 2 4 [115] (L' := [(115, .bool (t105 == 0))]) (by kernel_rfl) (by decide) ?_
                refine WL.split 115 (b := (t105 == 0)) (by kernel_rfl) (fun hc => ?_) (fun hc => ?_)
                · replace hc := eq_of_beq hc
                  rw [if_pos hc] at h
                  have hc109 := hc
                  clear hc
                  rw [Option.bind_eq_some_iff] at h
                  obtain ⟨t110, ht111, h⟩ := h
                  refine WL.op (op := .call { callee := (.value (.func 47)), args := #[], argTypes := #[] }) (ty := 4) (d := some 116) (g := some (3, true)) (by kernel_rfl) (by kernel_rfl) (by kernel_rfl) (Does.call (f := 47) (args := []) (by kernel_rfl) (fun W hI => (grapevinelaw22_awake_calls k   t110 ht111 hI))) ?_
                  rintro _ _ _ ⟨rfl, rfl, rfl⟩
                  refine WL.rest 5 [6] (L' := [(6, .bool t110)]) (by kernel_rfl) ?_
                  refine QP.dropAt 1 ?_
                  refine QP.dropAt 0 ?_
                  refine QP.pick [6] ?_
                  exact QP.meet ⟨_, Option.some.inj h, rfl, rfl, rfl⟩
                · replace hc := ne_of_beq_false hc
                  rw [if_neg hc] at h
                  have hc109 := hc
                  clear hc
                  refine WL.rest 4 [6] (L' := [(6, .bool false)]) (by kernel_rfl) ?_
                  refine QP.dropAt 1 ?_
                  refine QP.dropAt 0 ?_
                  refine QP.pick [6] ?_
                  exact QP.meet ⟨_, Option.some.inj h, rfl, rfl, rfl⟩
              · rintro _ _ _ ⟨s103, rfl, rfl, rfl, rfl⟩
                clear h
                replace h := hk104
                refine WP.ret ?_
                obtain rfl := Option.some.inj h
                exact QP.returned [6] [.bool s103] _ (by kernel_rfl) (by kernel_rfl) (by kernel_rfl) (fun W hI => ⟨_, _, _, rfl, ⟨rfl, rfl, rfl⟩, hI⟩)
/-- The plain law. -/
def BagRows_Pure : Prop := ∀ (a0 : Int) (a1 : Int) (a2 : Int), (Lit.int .i64 a0).wf = true → (Lit.int .i64 a1).wf = true → (Lit.int .i64 a2).wf = true → ∃ k, grapevinelaw22_BagRows k a0 a1 a2 = some true
end Go.Proofs.Ytmphcmgbognmnaa.Gf
