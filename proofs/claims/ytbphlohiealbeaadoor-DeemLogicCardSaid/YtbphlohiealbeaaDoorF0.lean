/- Walks of Go functions: what each tells, as a plain Lean function, and that the Go code comes to it. Written by gg.py of this repo. -/
import Derived.Test.YtbphlohiealbeaaDoorT
namespace Go.Proofs.YtbphlohiealbeaaDoor.Gf
open Go Go.Gg
set_option maxRecDepth 100000
set_option linter.unusedVariables false
set_option linter.unusedSimpArgs false

/-! ### grapevine/grapevinelaw0.GreatTexts: function 10 -/
def grapevinelaw0_GreatTexts_l0 (l0 : List ByteArray) (a1 : Int) (a2 : Int) : Nat → Int → Option (Sum Bool Unit)
  | 0, _ => none
  | k + 1, y3 => ((if y3 < (l0.length : Int) then some (decide ((l0.length : Int) ≤ a1)) else some false).bind fun s6 => (if s6 = true then (if 0 ≤ y3 ∧ y3 < (l0.length : Int) then (if ((l0.getD y3.toNat (⟨#[]⟩ : ByteArray)).size : Int) > a2 then some (Sum.inl true) else grapevinelaw0_GreatTexts_l0 l0 a1 a2 k (IntKind.i64.wrap (y3 + 1))) else none) else some (Sum.inr ())))
def grapevinelaw0_GreatTexts (k : Nat) (l0 : List ByteArray) (a1 : Int) (a2 : Int) : Option Bool := ((grapevinelaw0_GreatTexts_l0 l0 a1 a2 k 0).bind fun os1 => match os1 with | Sum.inl r => some r | Sum.inr s1 => some (decide ((l0.length : Int) > a1)))
set_option maxHeartbeats 4000000 in
theorem grapevinelaw0_GreatTexts_calls {B : World} {G : GMap} {Γ : List Chunk} {W : World} (k : Nat) (l0 : List ByteArray) (a1 : Int) (a2 : Int) (Al0 : Option Addr) (cl0 : Nat) (Hl0 : Rd kStr G Al0 cl0 l0) (r : Bool) (h : grapevinelaw0_GreatTexts k l0 a1 a2 = some r) (hI : Inv B G (Γ) W) :
    Calls Tryd.prog 10 [.slice Al0 l0.length cl0, .int .i64 a1, .int .i64 a2].toArray W (Ret B (fun v G' Γ' => v = .bool r ∧ G = G' ∧ Γ = Γ')) := by
  refine calls_WP (Γ := Γ) (G := G) (B := B) Tryd.func10 rfl (by kernel_rfl) ?_ hI
  clear hI
  unfold grapevinelaw0_GreatTexts at h
  refine WP.seqP [0, 1, 2] (L' := [(0, .slice Al0 l0.length cl0), (1, .int .i64 a1), (2, .int .i64 a2)]) (by kernel_rfl) ?_
  refine WP.seq ?_
  refine WP.seqP [0, 1, 2, 7] (L' := [(0, .slice Al0 l0.length cl0), (1, .int .i64 a1), (2, .int .i64 a2), (7, .int .i64 0)]) (by kernel_rfl) ?_
  rw [Option.bind_eq_some_iff] at h
  obtain ⟨os1, h, hk2⟩ := h
  refine WP.cutQ (fun L' G' Γ' => ∃ s1 : Unit, Sum.inr s1 = os1 ∧ L' = [(0, .slice Al0 l0.length cl0), (1, .int .i64 a1)] ∧ G = G' ∧ Γ = Γ') ?_ ?_
  · skip
    refine WP.block ?_
    refine WP.pick [0, 1, 2, 7] ?_
    refine WP.loopF (fun kn4 L' G' Γ' => ∃ (y3 : Int), grapevinelaw0_GreatTexts_l0 l0 a1 a2 kn4 y3 = some os1 ∧ L' = [(0, .slice Al0 l0.length cl0), (1, .int .i64 a1), (2, .int .i64 a2), (7, .int .i64 y3)] ∧ G = G' ∧ Γ = Γ') ?_ k ⟨0, h, rfl, rfl, rfl⟩
    clear h
    rintro kn5 _ _ _ ⟨y3, h, rfl, rfl, rfl⟩
    cases kn5 with
    | zero => exact absurd h (by simp [grapevinelaw0_GreatTexts_l0])
    | succ kn5 =>
      simp only [grapevinelaw0_GreatTexts_l0] at h
      refine WP.seq ?_
      rw [Option.bind_eq_some_iff] at h
      obtain ⟨os6, h, hk7⟩ := h
      refine WP.cut (fun L' G' Γ' => ∃ s6 : Bool, s6 = os6 ∧ L' = [(0, .slice Al0 l0.length cl0), (1, .int .i64 a1), (2, .int .i64 a2), (7, .int .i64 y3), (17, .bool s6)] ∧ G = G' ∧ Γ = Γ') ?_ ?_
      · clear hk7
        refine WP.region ?_
        refine WL.pure 0 5 [0, 1, 2, 7, 12] (L' := [(0, .slice Al0 l0.length cl0), (1, .int .i64 a1), (2, .int .i64 a2), (7, .int .i64 y3), (12, .bool (decide (y3 < (l0.length : Int))))]) (by kernel_rfl) (by decide) ?_
        refine WL.split 12 (b := decide (y3 < (l0.length : Int))) (by kernel_rfl) (fun hc => ?_) (fun hc => ?_)
        · replace hc := of_decide_eq_true hc
          rw [if_pos hc] at h
          have hc8 := hc
          clear hc
          refine WL.rest 5 [0, 1, 2, 7, 17] (L' := [(0, .slice Al0 l0.length cl0), (1, .int .i64 a1), (2, .int .i64 a2), (7, .int .i64 y3), (17, .bool (decide ((l0.length : Int) ≤ a1)))]) (by kernel_rfl) ?_
          refine QP.pick [0, 1, 2, 7, 17] ?_
          exact QP.meet ⟨_, Option.some.inj h, rfl, rfl, rfl⟩
        · replace hc := of_decide_eq_false hc
          rw [if_neg hc] at h
          have hc8 := hc
          clear hc
          refine WL.rest 5 [0, 1, 2, 7, 17] (L' := [(0, .slice Al0 l0.length cl0), (1, .int .i64 a1), (2, .int .i64 a2), (7, .int .i64 y3), (17, .bool false)]) (by kernel_rfl) ?_
          refine QP.pick [0, 1, 2, 7, 17] ?_
          exact QP.meet ⟨_, Option.some.inj h, rfl, rfl, rfl⟩
      · rintro _ _ _ ⟨s6, rfl, rfl, rfl, rfl⟩
        clear h
        replace h := hk7
        refine WP.cond (b := s6) (by kernel_rfl) (fun hc => ?_) (fun hc => ?_)
        · replace hc := hc
          rw [if_pos hc] at h
          have hc9 := hc
          clear hc
          refine WP.skip ?_
          refine QP.next ?_
          refine WP.pick [0, 1, 2, 7] ?_
          refine WP.seq ?_
          refine WP.block ?_
          refine WP.seqR ?_
          refine WL.pure 0 2 [0, 1, 2, 7, 20, 21] (L' := [(0, .slice Al0 l0.length cl0), (1, .int .i64 a1), (2, .int .i64 a2), (7, .int .i64 y3), (20, .slice Al0 l0.length cl0), (21, .int .i64 y3)]) (by kernel_rfl) (by decide) ?_
          by_cases hb10 : 0 ≤ y3 ∧ y3 < (l0.length : Int)
          case neg => rw [if_neg hb10] at h; cases h
          rw [if_pos hb10] at h
          refine WL.tell (op := .indexAddr 22 (.tmp 20) (.tmp 21)) (ty := 0) (d := some 22) (g := none) (by kernel_rfl) (by kernel_rfl) (by kernel_rfl) (Tells.indexAddr (A := Al0) (n := l0.length) (c := cl0) (k := .i64) (j := y3) (by kernel_rfl) (by kernel_rfl) (Hl0.isSome hb10.1 hb10.2) hb10.1 hb10.2 sl22) ?_
          refine WL.tellE (op := .load 9 (.tmp 22)) (ty := 9) (d := some 23) (g := none) (by kernel_rfl) (by kernel_rfl) (by kernel_rfl) (Hl0.load (agg := false) hb10.1 hb10.2 (⟨#[]⟩ : ByteArray) ag9 (fun _ => rfl) (by kernel_rfl)) ?_
          rintro _ rfl
          refine WL.restQ 4 [0, 1, 2, 7, 26] (L' := [(0, .slice Al0 l0.length cl0), (1, .int .i64 a1), (2, .int .i64 a2), (7, .int .i64 y3), (26, .bool (decide (((l0.getD y3.toNat (⟨#[]⟩ : ByteArray)).size : Int) > a2)))]) (by kernel_rfl) ?_
          refine WP.cond (b := decide (((l0.getD y3.toNat (⟨#[]⟩ : ByteArray)).size : Int) > a2)) (by kernel_rfl) (fun hc => ?_) (fun hc => ?_)
          · replace hc := of_decide_eq_true hc
            rw [if_pos hc] at h
            have hc11 := hc
            clear hc
            refine WP.seqP [6] (L' := [(6, .bool true)]) (by kernel_rfl) ?_
            refine WP.ret ?_
            refine QP.blockR ?_
            refine QP.thenR ?_
            refine QP.thenR ?_
            refine QP.blockR ?_
            refine QP.thenR ?_
            refine QP.thenR ?_
            obtain rfl := Option.some.inj h
            obtain rfl := Option.some.inj (show some _ = some _ from hk2)
            exact QP.returned [6] [.bool true] _ (by kernel_rfl) (by kernel_rfl) (by kernel_rfl) (fun W hI => ⟨_, _, _, rfl, ⟨rfl, rfl, rfl⟩, hI⟩)
          · replace hc := of_decide_eq_false hc
            rw [if_neg hc] at h
            have hc11 := hc
            clear hc
            refine WP.skip ?_
            refine QP.blockN ?_
            refine QP.next ?_
            refine WP.pick [0, 1, 2, 7] ?_
            refine WP.regionP [0, 1, 2, 7] (L' := [(0, .slice Al0 l0.length cl0), (1, .int .i64 a1), (2, .int .i64 a2), (7, .int .i64 (IntKind.i64.wrap (y3 + 1)))]) (by kernel_rfl) ?_
            refine QP.pick [0, 1, 2, 7] ?_
            exact QP.meet ⟨kn5, Nat.lt_succ_self _, (IntKind.i64.wrap (y3 + 1)), h, rfl, rfl, rfl⟩
        · replace hc := (Bool.eq_false_iff.1 hc)
          rw [if_neg hc] at h
          have hc9 := hc
          clear hc
          refine WP.exit ?_
          refine QP.thenE ?_
          refine QP.thenE ?_
          refine QP.blockE ?_
          refine QP.pick [0, 1] ?_
          exact QP.meet ⟨_, Option.some.inj h, rfl, rfl, rfl⟩
  · rintro _ _ _ ⟨s1, rfl, rfl, rfl, rfl⟩
    clear h
    replace h := hk2
    dsimp only at h
    refine QP.next ?_
    refine WP.pick [0, 1] ?_
    refine WP.seqP [6] (L' := [(6, .bool (decide ((l0.length : Int) > a1)))]) (by kernel_rfl) ?_
    refine WP.ret ?_
    obtain rfl := Option.some.inj h
    exact QP.returned [6] [.bool (decide ((l0.length : Int) > a1))] _ (by kernel_rfl) (by kernel_rfl) (by kernel_rfl) (fun W hI => ⟨_, _, _, rfl, ⟨rfl, rfl, rfl⟩, hI⟩)

/-! ### grapevine/grapevinelaw0.parts: function 25 -/
def grapevinelaw0_parts_l0 (l0 : List T25) (a1 : Int) (a2 : Int) (rec_ : (List T25) → Int → Int → Option Int) : Nat → Int → Int → Option (Sum Int Int)
  | 0, _, _ => none
  | k + 1, y4, y5 => ((if y5 < (l0.length : Int) then some (decide (y4 ≤ a1)) else some false).bind fun s8 => (if s8 = true then (if 0 ≤ y5 ∧ y5 < (l0.length : Int) then ((grapevinelaw0_GreatTexts k ((l0.getD y5.toNat z25).f2) 30 100).bind fun t15 => (if t15 = true then some (Sum.inl (IntKind.i64.wrap (a1 + 1))) else (if 0 ≤ y5 ∧ y5 < (l0.length : Int) then ((rec_ ((l0.getD y5.toNat z25).f3) (IntKind.i64.wrap ((IntKind.i64.wrap (a1 - y4)) - 1)) (IntKind.i64.wrap (a2 - 1))).bind fun t23 => grapevinelaw0_parts_l0 l0 a1 a2 rec_ k (IntKind.i64.wrap ((IntKind.i64.wrap (y4 + 1)) + t23)) (IntKind.i64.wrap (y5 + 1))) else none))) else none) else some (Sum.inr y4)))
def grapevinelaw0_parts : Nat → (List T25) → Int → Int → Option Int
  | 0, _, _, _ => none
  | k + 1, l0, a1, a2 => (if a2 < 0 then some (IntKind.i64.wrap (a1 + 1)) else ((grapevinelaw0_parts_l0 l0 a1 a2 (grapevinelaw0_parts k) k 0 0).bind fun os2 => match os2 with | Sum.inl r => some r | Sum.inr s2 => some s2))
set_option maxHeartbeats 4000000 in
theorem grapevinelaw0_parts_calls_k (k : Nat) : ∀ {B : World} {G : GMap} {Γ : List Chunk} {W : World} (l0 : List T25) (a1 : Int) (a2 : Int) (Al0 : Option Addr) (cl0 : Nat) (Hl0 : Rd k25 G Al0 cl0 l0) (r : Int) (h : grapevinelaw0_parts k l0 a1 a2 = some r) (hI : Inv B G (Γ) W),
    Calls Tryd.prog 25 [.slice Al0 l0.length cl0, .int .i64 a1, .int .i64 a2].toArray W (Ret B (fun v G' Γ' => v = .int .i64 r ∧ G = G' ∧ Γ = Γ')) := by
  induction k with
  | zero => intro B G Γ W l0 a1 a2 Al0 cl0 Hl0 r h hI; exact absurd h (by simp [grapevinelaw0_parts])
  | succ kf ih =>
    intro B G Γ W l0 a1 a2 Al0 cl0 Hl0 r h hI
    refine calls_WP (Γ := Γ) (G := G) (B := B) Tryd.func25 rfl (by kernel_rfl) ?_ hI
    clear hI
    simp only [grapevinelaw0_parts] at h
    refine WP.seqP [0, 1, 2] (L' := [(0, .slice Al0 l0.length cl0), (1, .int .i64 a1), (2, .int .i64 a2)]) (by kernel_rfl) ?_
    refine WP.seqP [0, 1, 2, 7] (L' := [(0, .slice Al0 l0.length cl0), (1, .int .i64 a1), (2, .int .i64 a2), (7, .int .i64 0)]) (by kernel_rfl) ?_
    refine WP.seq ?_
    refine WP.seqP [0, 1, 2, 7, 10] (L' := [(0, .slice Al0 l0.length cl0), (1, .int .i64 a1), (2, .int .i64 a2), (7, .int .i64 0), (10, .bool (decide (a2 < 0)))]) (by kernel_rfl) ?_
    refine WP.cond (b := decide (a2 < 0)) (by kernel_rfl) (fun hc => ?_) (fun hc => ?_)
    · replace hc := of_decide_eq_true hc
      rw [if_pos hc] at h
      have hc1 := hc
      clear hc
      refine WP.seqP [6] (L' := [(6, .int .i64 (IntKind.i64.wrap (a1 + 1)))]) (by kernel_rfl) ?_
      refine WP.ret ?_
      refine QP.thenR ?_
      obtain rfl := Option.some.inj h
      exact QP.returned [6] [.int .i64 (IntKind.i64.wrap (a1 + 1))] _ (by kernel_rfl) (by kernel_rfl) (by kernel_rfl) (fun W hI => ⟨_, _, _, rfl, ⟨rfl, rfl, rfl⟩, hI⟩)
    · replace hc := of_decide_eq_false hc
      rw [if_neg hc] at h
      have hc1 := hc
      clear hc
      refine WP.skip ?_
      refine QP.next ?_
      refine WP.pick [0, 1, 2, 7] ?_
      refine WP.seq ?_
      refine WP.seqP [0, 1, 2, 7, 8] (L' := [(0, .slice Al0 l0.length cl0), (1, .int .i64 a1), (2, .int .i64 a2), (7, .int .i64 0), (8, .int .i64 0)]) (by kernel_rfl) ?_
      rw [Option.bind_eq_some_iff] at h
      obtain ⟨os2, h, hk3⟩ := h
      refine WP.cutQ (fun L' G' Γ' => ∃ s2 : Int, Sum.inr s2 = os2 ∧ L' = [(7, .int .i64 s2)] ∧ G = G' ∧ Γ = Γ') ?_ ?_
      · skip
        refine WP.block ?_
        refine WP.pick [0, 1, 2, 7, 8] ?_
        refine WP.loopF (fun kn6 L' G' Γ' => ∃ (y4 : Int), ∃ (y5 : Int), grapevinelaw0_parts_l0 l0 a1 a2 (grapevinelaw0_parts kf) kn6 y4 y5 = some os2 ∧ L' = [(0, .slice Al0 l0.length cl0), (1, .int .i64 a1), (2, .int .i64 a2), (7, .int .i64 y4), (8, .int .i64 y5)] ∧ G = G' ∧ Γ = Γ') ?_ kf ⟨0, 0, h, rfl, rfl, rfl⟩
        clear h
        rintro kn7 _ _ _ ⟨y4, y5, h, rfl, rfl, rfl⟩
        cases kn7 with
        | zero => exact absurd h (by simp [grapevinelaw0_parts_l0])
        | succ kn7 =>
          simp only [grapevinelaw0_parts_l0] at h
          refine WP.seq ?_
          rw [Option.bind_eq_some_iff] at h
          obtain ⟨os8, h, hk9⟩ := h
          refine WP.cut (fun L' G' Γ' => ∃ s8 : Bool, s8 = os8 ∧ L' = [(0, .slice Al0 l0.length cl0), (1, .int .i64 a1), (2, .int .i64 a2), (7, .int .i64 y4), (8, .int .i64 y5), (21, .bool s8)] ∧ G = G' ∧ Γ = Γ') ?_ ?_
          · clear hk9
            refine WP.region ?_
            refine WL.pure 0 5 [0, 1, 2, 7, 8, 17] (L' := [(0, .slice Al0 l0.length cl0), (1, .int .i64 a1), (2, .int .i64 a2), (7, .int .i64 y4), (8, .int .i64 y5), (17, .bool (decide (y5 < (l0.length : Int))))]) (by kernel_rfl) (by decide) ?_
            refine WL.split 17 (b := decide (y5 < (l0.length : Int))) (by kernel_rfl) (fun hc => ?_) (fun hc => ?_)
            · replace hc := of_decide_eq_true hc
              rw [if_pos hc] at h
              have hc10 := hc
              clear hc
              refine WL.rest 5 [0, 1, 2, 7, 8, 21] (L' := [(0, .slice Al0 l0.length cl0), (1, .int .i64 a1), (2, .int .i64 a2), (7, .int .i64 y4), (8, .int .i64 y5), (21, .bool (decide (y4 ≤ a1)))]) (by kernel_rfl) ?_
              refine QP.pick [0, 1, 2, 7, 8, 21] ?_
              exact QP.meet ⟨_, Option.some.inj h, rfl, rfl, rfl⟩
            · replace hc := of_decide_eq_false hc
              rw [if_neg hc] at h
              have hc10 := hc
              clear hc
              refine WL.rest 5 [0, 1, 2, 7, 8, 21] (L' := [(0, .slice Al0 l0.length cl0), (1, .int .i64 a1), (2, .int .i64 a2), (7, .int .i64 y4), (8, .int .i64 y5), (21, .bool false)]) (by kernel_rfl) ?_
              refine QP.pick [0, 1, 2, 7, 8, 21] ?_
              exact QP.meet ⟨_, Option.some.inj h, rfl, rfl, rfl⟩
          · rintro _ _ _ ⟨s8, rfl, rfl, rfl, rfl⟩
            clear h
            replace h := hk9
            refine WP.cond (b := s8) (by kernel_rfl) (fun hc => ?_) (fun hc => ?_)
            · replace hc := hc
              rw [if_pos hc] at h
              have hc11 := hc
              clear hc
              refine WP.skip ?_
              refine QP.next ?_
              refine WP.pick [0, 1, 2, 7, 8] ?_
              refine WP.seq ?_
              refine WP.block ?_
              refine WP.seq ?_
              refine WP.seqR ?_
              refine WL.pure 0 2 [0, 1, 2, 7, 8, 24, 25] (L' := [(0, .slice Al0 l0.length cl0), (1, .int .i64 a1), (2, .int .i64 a2), (7, .int .i64 y4), (8, .int .i64 y5), (24, .slice Al0 l0.length cl0), (25, .int .i64 y5)]) (by kernel_rfl) (by decide) ?_
              by_cases hb12 : 0 ≤ y5 ∧ y5 < (l0.length : Int)
              case neg => rw [if_neg hb12] at h; cases h
              rw [if_pos hb12] at h
              refine WL.tell (op := .indexAddr 23 (.tmp 24) (.tmp 25)) (ty := 0) (d := some 26) (g := none) (by kernel_rfl) (by kernel_rfl) (by kernel_rfl) (Tells.indexAddr (A := Al0) (n := l0.length) (c := cl0) (k := .i64) (j := y5) (by kernel_rfl) (by kernel_rfl) (Hl0.isSome hb12.1 hb12.2) hb12.1 hb12.2 sl23) ?_
              refine WL.tell (op := .fieldAddr 25 (.tmp 26) 2) (ty := 0) (d := some 27) (g := none) (by kernel_rfl) (by kernel_rfl) (by kernel_rfl) (Tells.fieldElem (m := y5.toNat * 4) (A := Al0) (by kernel_rfl) (Hl0.isSome hb12.1 hb12.2) fi25_2) ?_
              refine WL.tellE (op := .load 22 (.tmp 27)) (ty := 22) (d := some 28) (g := none) (by kernel_rfl) (by kernel_rfl) (by kernel_rfl) (Hl0.loadF (agg := false) (off := 2) hb12.1 hb12.2 z25 ag22 (fun _ => rfl) (by decide) (by kernel_rfl)) ?_
              rintro _ hrel
              obtain ⟨_, _, rfl, rfl, ⟨_, _, rfl, rfl, ⟨_, _, rfl, ⟨Ae13, ce13, rfl, He13⟩, ⟨Ae14, ce14, rfl, He14⟩⟩⟩⟩ := k25_out hrel
              replace He13 : Rd kStr G Ae13 ce13 ((l0.getD y5.toNat z25).f2) := He13
              replace He14 : Rd k25 G Ae14 ce14 ((l0.getD y5.toNat z25).f3) := He14
              rw [Option.bind_eq_some_iff] at h
              obtain ⟨t15, ht16, h⟩ := h
              refine WL.op (op := .call { callee := (.value (.func 10)), args := #[(.tmp 28), (.const (.int .i64 30)), (.const (.int .i64 100))], argTypes := #[22, 3, 3] }) (ty := 4) (d := some 29) (g := none) (by kernel_rfl) (by kernel_rfl) (by kernel_rfl) (Does.call (f := 10) (args := [.slice Ae13 ((l0.getD y5.toNat z25).f2).length ce13, .int .i64 30, .int .i64 100]) (by kernel_rfl) (fun W hI => (grapevinelaw0_GreatTexts_calls kn7 ((l0.getD y5.toNat z25).f2) 30 100 Ae13 ce13 He13 t15 ht16 hI))) ?_
              rintro _ _ _ ⟨rfl, rfl, rfl⟩
              refine WL.restQ 6 [0, 1, 2, 7, 8, 29] (L' := [(0, .slice Al0 l0.length cl0), (1, .int .i64 a1), (2, .int .i64 a2), (7, .int .i64 y4), (8, .int .i64 y5), (29, .bool t15)]) (by kernel_rfl) ?_
              refine WP.cond (b := t15) (by kernel_rfl) (fun hc => ?_) (fun hc => ?_)
              · replace hc := hc
                rw [if_pos hc] at h
                have hc19 := hc
                clear hc
                refine WP.seqP [6] (L' := [(6, .int .i64 (IntKind.i64.wrap (a1 + 1)))]) (by kernel_rfl) ?_
                refine WP.ret ?_
                refine QP.thenR ?_
                refine QP.blockR ?_
                refine QP.thenR ?_
                refine QP.thenR ?_
                refine QP.blockR ?_
                refine QP.thenR ?_
                refine QP.thenR ?_
                obtain rfl := Option.some.inj h
                obtain rfl := Option.some.inj (show some _ = some _ from hk3)
                exact QP.returned [6] [.int .i64 (IntKind.i64.wrap (a1 + 1))] _ (by kernel_rfl) (by kernel_rfl) (by kernel_rfl) (fun W hI => ⟨_, _, _, rfl, ⟨rfl, rfl, rfl⟩, hI⟩)
              · replace hc := (Bool.eq_false_iff.1 hc)
                rw [if_neg hc] at h
                have hc19 := hc
                clear hc
                refine WP.skip ?_
                refine QP.next ?_
                refine WP.pick [0, 1, 2, 7, 8] ?_
                refine WP.region ?_
                refine WL.pure 0 4 [0, 1, 2, 7, 8, 33, 34, 35] (L' := [(0, .slice Al0 l0.length cl0), (1, .int .i64 a1), (2, .int .i64 a2), (7, .int .i64 y4), (8, .int .i64 y5), (33, .int .i64 (IntKind.i64.wrap (y4 + 1))), (34, .slice Al0 l0.length cl0), (35, .int .i64 y5)]) (by kernel_rfl) (by decide) ?_
                by_cases hb20 : 0 ≤ y5 ∧ y5 < (l0.length : Int)
                case neg => rw [if_neg hb20] at h; cases h
                rw [if_pos hb20] at h
                refine WL.tell (op := .indexAddr 23 (.tmp 34) (.tmp 35)) (ty := 0) (d := some 36) (g := none) (by kernel_rfl) (by kernel_rfl) (by kernel_rfl) (Tells.indexAddr (A := Al0) (n := l0.length) (c := cl0) (k := .i64) (j := y5) (by kernel_rfl) (by kernel_rfl) (Hl0.isSome hb20.1 hb20.2) hb20.1 hb20.2 sl23) ?_
                refine WL.tell (op := .fieldAddr 25 (.tmp 36) 3) (ty := 0) (d := some 37) (g := none) (by kernel_rfl) (by kernel_rfl) (by kernel_rfl) (Tells.fieldElem (m := y5.toNat * 4) (A := Al0) (by kernel_rfl) (Hl0.isSome hb20.1 hb20.2) fi25_3) ?_
                refine WL.tellE (op := .load 23 (.tmp 37)) (ty := 23) (d := some 38) (g := none) (by kernel_rfl) (by kernel_rfl) (by kernel_rfl) (Hl0.loadF (agg := false) (off := 3) hb20.1 hb20.2 z25 ag23 (fun _ => rfl) (by decide) (by kernel_rfl)) ?_
                rintro _ hrel
                obtain ⟨_, _, rfl, rfl, ⟨_, _, rfl, rfl, ⟨_, _, rfl, ⟨Ae21, ce21, rfl, He21⟩, ⟨Ae22, ce22, rfl, He22⟩⟩⟩⟩ := k25_out hrel
                replace He21 : Rd kStr G Ae21 ce21 ((l0.getD y5.toNat z25).f2) := He21
                replace He22 : Rd k25 G Ae22 ce22 ((l0.getD y5.toNat z25).f3) := He22
                refine WL.pure 7 13 [0, 1, 2, 7, 8, 33, 38, 42, 44] (L' := [(0, .slice Al0 l0.length cl0), (1, .int .i64 a1), (2, .int .i64 a2), (7, .int .i64 y4), (8, .int .i64 y5), (33, .int .i64 (IntKind.i64.wrap (y4 + 1))), (38, .slice Ae22 ((l0.getD y5.toNat z25).f3).length ce22), (42, .int .i64 (IntKind.i64.wrap ((IntKind.i64.wrap (a1 - y4)) - 1))), (44, .int .i64 (IntKind.i64.wrap (a2 - 1)))]) (by kernel_rfl) (by decide) ?_
                rw [Option.bind_eq_some_iff] at h
                obtain ⟨t23, ht24, h⟩ := h
                refine WL.op (op := .call { callee := (.value (.func 25)), args := #[(.tmp 38), (.tmp 42), (.tmp 44)], argTypes := #[23, 3, 3] }) (ty := 3) (d := some 45) (g := none) (by kernel_rfl) (by kernel_rfl) (by kernel_rfl) (Does.call (f := 25) (args := [.slice Ae22 ((l0.getD y5.toNat z25).f3).length ce22, .int .i64 (IntKind.i64.wrap ((IntKind.i64.wrap (a1 - y4)) - 1)), .int .i64 (IntKind.i64.wrap (a2 - 1))]) (by kernel_rfl) (fun W hI => (ih ((l0.getD y5.toNat z25).f3) (IntKind.i64.wrap ((IntKind.i64.wrap (a1 - y4)) - 1)) (IntKind.i64.wrap (a2 - 1)) Ae22 ce22 He22 t23 ht24 hI))) ?_
                rintro _ _ _ ⟨rfl, rfl, rfl⟩
                refine WL.rest 14 [0, 1, 2, 7, 8] (L' := [(0, .slice Al0 l0.length cl0), (1, .int .i64 a1), (2, .int .i64 a2), (7, .int .i64 (IntKind.i64.wrap ((IntKind.i64.wrap (y4 + 1)) + t23))), (8, .int .i64 y5)]) (by kernel_rfl) ?_
                refine QP.blockN ?_
                refine QP.next ?_
                refine WP.pick [0, 1, 2, 7, 8] ?_
                refine WP.regionP [0, 1, 2, 7, 8] (L' := [(0, .slice Al0 l0.length cl0), (1, .int .i64 a1), (2, .int .i64 a2), (7, .int .i64 (IntKind.i64.wrap ((IntKind.i64.wrap (y4 + 1)) + t23))), (8, .int .i64 (IntKind.i64.wrap (y5 + 1)))]) (by kernel_rfl) ?_
                refine QP.pick [0, 1, 2, 7, 8] ?_
                exact QP.meet ⟨kn7, Nat.lt_succ_self _, (IntKind.i64.wrap ((IntKind.i64.wrap (y4 + 1)) + t23)), (IntKind.i64.wrap (y5 + 1)), h, rfl, rfl, rfl⟩
            · replace hc := (Bool.eq_false_iff.1 hc)
              rw [if_neg hc] at h
              have hc11 := hc
              clear hc
              refine WP.exit ?_
              refine QP.thenE ?_
              refine QP.thenE ?_
              refine QP.blockE ?_
              refine QP.pick [7] ?_
              exact QP.meet ⟨_, Option.some.inj h, rfl, rfl, rfl⟩
      · rintro _ _ _ ⟨s2, rfl, rfl, rfl, rfl⟩
        clear h
        replace h := hk3
        dsimp only at h
        refine QP.next ?_
        refine WP.pick [7] ?_
        refine WP.seqP [6] (L' := [(6, .int .i64 s2)]) (by kernel_rfl) ?_
        refine WP.ret ?_
        obtain rfl := Option.some.inj h
        exact QP.returned [6] [.int .i64 s2] _ (by kernel_rfl) (by kernel_rfl) (by kernel_rfl) (fun W hI => ⟨_, _, _, rfl, ⟨rfl, rfl, rfl⟩, hI⟩)
theorem grapevinelaw0_parts_calls {B : World} {G : GMap} {Γ : List Chunk} {W : World} (k : Nat) (l0 : List T25) (a1 : Int) (a2 : Int) (Al0 : Option Addr) (cl0 : Nat) (Hl0 : Rd k25 G Al0 cl0 l0) (r : Int) (h : grapevinelaw0_parts k l0 a1 a2 = some r) (hI : Inv B G (Γ) W) :
    Calls Tryd.prog 25 [.slice Al0 l0.length cl0, .int .i64 a1, .int .i64 a2].toArray W (Ret B (fun v G' Γ' => v = .int .i64 r ∧ G = G' ∧ Γ = Γ')) := grapevinelaw0_parts_calls_k k l0 a1 a2 Al0 cl0 Hl0 r h hI

/-! ### grapevine/grapevinelaw0.GreatAsk: function 9 -/
def grapevinelaw0_GreatAsk (k : Nat) (a0 : T25) : Option Bool := ((grapevinelaw0_parts k ([a0] : List T25) 60 12).bind fun t5 => some (decide (t5 > 60)))
set_option maxHeartbeats 4000000 in
theorem grapevinelaw0_GreatAsk_calls {B : World} {G : GMap} {Γ : List Chunk} {W : World} (k : Nat) (a0 : T25) (Aa0_f2 : Option Addr) (ca0_f2 : Nat) (Ha0_f2 : Rd kStr G Aa0_f2 ca0_f2 a0.f2) (Aa0_f3 : Option Addr) (ca0_f3 : Nat) (Ha0_f3 : Rd k25 G Aa0_f3 ca0_f3 a0.f3) (r : Bool) (h : grapevinelaw0_GreatAsk k a0 = some r) (hI : Inv B G (Γ) W) :
    Calls Tryd.prog 9 [.agg #[.int .i64 a0.f0, .int .i64 a0.f1, .slice Aa0_f2 a0.f2.length ca0_f2, .slice Aa0_f3 a0.f3.length ca0_f3]].toArray W (Ret B (fun v G' Γ' => v = .bool r ∧ G = G' ∧ Γ = Γ')) := by
  refine calls_WP (Γ := Γ) (G := G) (B := B) Tryd.func9 rfl (by kernel_rfl) ?_ hI
  clear hI
  unfold grapevinelaw0_GreatAsk at h
  refine WP.seqR ?_
  refine WL.op (op := .box 25 (.tmp 0)) (ty := 0) (d := some 1) (g := none) (by kernel_rfl) (by kernel_rfl) (by kernel_rfl) (Does.new (o := .cells #[.int .i64 a0.f0, .int .i64 a0.f1, .slice Aa0_f2 a0.f2.length ca0_f2, .slice Aa0_f3 a0.f3.length ca0_f3] 25 (0, 0)) (v := fun r => .pointer (some ⟨r, 0, none⟩)) (fun r => by kernel_rfl)) ?_
  rintro _ _ _ ⟨b1, rfl, rfl, rfl⟩
  refine WL.restQ 1 [1] (L' := [(1, .pointer (some ⟨b1, 0, none⟩))]) (by kernel_rfl) ?_
  refine WP.seqR ?_
  refine WL.tell (op := .load 25 (.tmp 1)) (ty := 25) (d := some 3) (g := none) (by kernel_rfl) (by kernel_rfl) (by kernel_rfl) (Tells.load_box (i := 0) (b := b1) (o := 0) (agg := true) (by rfl) ag25 (by kernel_rfl) (fun h => by cases h) (Nat.le_of_ble_eq_true rfl) (v := .agg #[.int .i64 a0.f0, .int .i64 a0.f1, .slice Aa0_f2 a0.f2.length ca0_f2, .slice Aa0_f3 a0.f3.length ca0_f3]) (by kernel_rfl)) ?_
  refine WL.op (op := .buildSlice 23 1 #[(0, (.tmp 3))]) (ty := 23) (d := some 4) (g := none) (by kernel_rfl) (by kernel_rfl) (by kernel_rfl) (Does.new (o := .cells #[.int .i64 a0.f0, .int .i64 a0.f1, .slice Aa0_f2 a0.f2.length ca0_f2, .slice Aa0_f3 a0.f3.length ca0_f3] 25 (0, 0)) (v := fun r => .slice (some ⟨r, 0, none⟩) 1 1) (fun r => by kernel_rfl)) ?_
  rintro _ _ _ ⟨b2, rfl, rfl, rfl⟩
  have Ho4 : Ow k25 G (some ⟨b2, 0, none⟩) 1 ([a0] : List T25) [(b2, .cells #[.int .i64 a0.f0, .int .i64 a0.f1, .slice Aa0_f2 a0.f2.length ca0_f2, .slice Aa0_f3 a0.f3.length ca0_f3] 25 (0, 0))] := Ow.lit (kd := k25) (G := G) (b := b2) (T := 25) (xs := ([a0] : List T25)) (cs := [.int .i64 a0.f0, .int .i64 a0.f1, .slice Aa0_f2 a0.f2.length ca0_f2, .slice Aa0_f3 a0.f3.length ca0_f3]) (.cons (x := a0) (cs := [.int .i64 a0.f0, .int .i64 a0.f1, .slice Aa0_f2 a0.f2.length ca0_f2, .slice Aa0_f3 a0.f3.length ca0_f3]) (k25_in ⟨[.int .i64 a0.f0], _, rfl, rfl, ⟨[.int .i64 a0.f1], _, rfl, rfl, ⟨[.slice Aa0_f2 a0.f2.length ca0_f2], _, rfl, ⟨Aa0_f2, ca0_f2, rfl, Ha0_f2⟩, ⟨Aa0_f3, ca0_f3, rfl, Ha0_f3⟩⟩⟩⟩) .nil)
  rw [Option.bind_eq_some_iff] at h
  obtain ⟨t5, ht6, h⟩ := h
  refine WL.op (op := .call { callee := (.value (.func 25)), args := #[(.tmp 4), (.const (.int .i64 60)), (.const (.int .i64 12))], argTypes := #[23, 3, 3] }) (ty := 3) (d := some 5) (g := none) (by kernel_rfl) (by kernel_rfl) (by kernel_rfl) (Does.call (Φ := fun v' G' Γ' => v' = .int .i64 t5 ∧ G = G' ∧ [(b2, .cells #[.int .i64 a0.f0, .int .i64 a0.f1, .slice Aa0_f2 a0.f2.length ca0_f2, .slice Aa0_f3 a0.f3.length ca0_f3] 25 (0, 0))] :: [(b1, .cells #[.int .i64 a0.f0, .int .i64 a0.f1, .slice Aa0_f2 a0.f2.length ca0_f2, .slice Aa0_f3 a0.f3.length ca0_f3] 25 (0, 0))] :: Γ = Γ') (f := 25) (args := [.slice (some ⟨b2, 0, none⟩) ([a0] : List T25).length 1, .int .i64 60, .int .i64 12]) (by kernel_rfl) (fun W hI => (Calls.lendN (Φ := fun v' N => v' = .int .i64 t5 ∧ N = []) (H := []) (i := 0) rfl hI (fun _ e l9 nl9 hI => by subst e; exact (((grapevinelaw0_parts_calls k ([a0] : List T25) 60 12 (some ⟨b2, 0, none⟩) 1 (Ho4.rdN l9 nl9) t5 ht6 hI)).mono fun _ _ hr => by obtain ⟨_, _, _, rfl, hd, hI⟩ := hr; obtain ⟨rfl, rfl, rfl⟩ := hd; exact ⟨_, _, _, rfl, ⟨[], ⟨rfl, rfl⟩, rfl, rfl⟩, hI⟩))).mono fun _ _ hr => by obtain ⟨_, _, _, rfl, ⟨_, hd, rfl, rfl⟩, hI⟩ := hr; obtain ⟨rfl, rfl⟩ := hd; exact ⟨_, _, _, rfl, ⟨rfl, rfl, rfl⟩, hI⟩)) ?_
  rintro _ _ _ ⟨rfl, rfl, rfl⟩
  refine WL.restQ 3 [2] (L' := [(2, .bool (decide (t5 > 60)))]) (by kernel_rfl) ?_
  refine WP.dropAt 1 ?_
  refine WP.dropAt 0 ?_
  refine WP.ret ?_
  obtain rfl := Option.some.inj h
  exact QP.returned [2] [.bool (decide (t5 > 60))] _ (by kernel_rfl) (by kernel_rfl) (by kernel_rfl) (fun W hI => ⟨_, _, _, rfl, ⟨rfl, rfl, rfl⟩, hI⟩)

/-! ### grapevine/ask.Deep: function 32 -/
def ask_Deep_l0 (a0 : T25) (rec_ : T25 → Option Int) : Nat → Int → Int → Option Int
  | 0, _, _ => none
  | k + 1, y4, y5 => (if y5 < (a0.f3.length : Int) then (if 0 ≤ y5 ∧ y5 < (a0.f3.length : Int) then ((rec_ (⟨(a0.f3.getD y5.toNat z25).f0, (a0.f3.getD y5.toNat z25).f1, (a0.f3.getD y5.toNat z25).f2, (a0.f3.getD y5.toNat z25).f3⟩ : T25)).bind fun t13 => ask_Deep_l0 a0 rec_ k (if t13 > y4 then t13 else y4) (IntKind.i64.wrap (y5 + 1))) else none) else some y4)
def ask_Deep : Nat → T25 → Option Int
  | 0, _ => none
  | k + 1, a0 => ((ask_Deep_l0 a0 (ask_Deep k) k 0 0).bind fun s2 => some (IntKind.i64.wrap (s2 + 1)))
set_option maxHeartbeats 4000000 in
theorem ask_Deep_calls_k (k : Nat) : ∀ {B : World} {G : GMap} {Γ : List Chunk} {W : World} (a0 : T25) (Aa0_f2 : Option Addr) (ca0_f2 : Nat) (Ha0_f2 : Rd kStr G Aa0_f2 ca0_f2 a0.f2) (Aa0_f3 : Option Addr) (ca0_f3 : Nat) (Ha0_f3 : Rd k25 G Aa0_f3 ca0_f3 a0.f3) (r : Int) (h : ask_Deep k a0 = some r) (hI : Inv B G (Γ) W),
    Calls Tryd.prog 32 [.agg #[.int .i64 a0.f0, .int .i64 a0.f1, .slice Aa0_f2 a0.f2.length ca0_f2, .slice Aa0_f3 a0.f3.length ca0_f3]].toArray W (Ret B (fun v G' Γ' => v = .int .i64 r ∧ G = G' ∧ Γ = Γ')) := by
  induction k with
  | zero => intro B G Γ W a0 Aa0_f2 ca0_f2 Ha0_f2 Aa0_f3 ca0_f3 Ha0_f3 r h hI; exact absurd h (by simp [ask_Deep])
  | succ kf ih =>
    intro B G Γ W a0 Aa0_f2 ca0_f2 Ha0_f2 Aa0_f3 ca0_f3 Ha0_f3 r h hI
    refine calls_WP (Γ := Γ) (G := G) (B := B) Tryd.func32 rfl (by kernel_rfl) ?_ hI
    clear hI
    simp only [ask_Deep] at h
    refine WP.seqR ?_
    refine WL.op (op := .box 25 (.tmp 0)) (ty := 0) (d := some 1) (g := none) (by kernel_rfl) (by kernel_rfl) (by kernel_rfl) (Does.new (o := .cells #[.int .i64 a0.f0, .int .i64 a0.f1, .slice Aa0_f2 a0.f2.length ca0_f2, .slice Aa0_f3 a0.f3.length ca0_f3] 25 (0, 0)) (v := fun r => .pointer (some ⟨r, 0, none⟩)) (fun r => by kernel_rfl)) ?_
    rintro _ _ _ ⟨b1, rfl, rfl, rfl⟩
    refine WL.restQ 1 [1] (L' := [(1, .pointer (some ⟨b1, 0, none⟩))]) (by kernel_rfl) ?_
    refine WP.seqP [1, 3] (L' := [(1, .pointer (some ⟨b1, 0, none⟩)), (3, .int .i64 0)]) (by kernel_rfl) ?_
    refine WP.seq ?_
    refine WP.seqR ?_
    refine WL.pure 0 1 [3, 6] (L' := [(3, .int .i64 0), (6, .pointer (some ⟨b1, 3, none⟩))]) (by kernel_rfl) (by decide) ?_
    refine WL.tell (op := .load 23 (.tmp 6)) (ty := 23) (d := some 7) (g := none) (by kernel_rfl) (by kernel_rfl) (by kernel_rfl) (Tells.load_box (i := 0) (b := b1) (o := 3) (agg := false) (by rfl) ag23 (by kernel_rfl) (fun _ => rfl) (Nat.le_of_ble_eq_true rfl) (v := .slice Aa0_f3 a0.f3.length ca0_f3) (by kernel_rfl)) ?_
    refine WL.restQ 2 [3, 7, 8, 9] (L' := [(3, .int .i64 0), (7, .slice Aa0_f3 a0.f3.length ca0_f3), (8, .int .i64 (a0.f3.length : Int)), (9, .int .i64 0)]) (by kernel_rfl) ?_
    refine WP.dropAt 0 ?_
    rw [Option.bind_eq_some_iff] at h
    obtain ⟨os2, h, hk3⟩ := h
    refine WP.cutQ (fun L' G' Γ' => ∃ s2 : Int, s2 = os2 ∧ L' = [(3, .int .i64 s2)] ∧ G = G' ∧ Γ = Γ') ?_ ?_
    · clear hk3
      refine WP.block ?_
      refine WP.pick [3, 7, 8, 9] ?_
      refine WP.loopF (fun kn6 L' G' Γ' => ∃ (y4 : Int), ∃ (y5 : Int), ask_Deep_l0 a0 (ask_Deep kf) kn6 y4 y5 = some os2 ∧ L' = [(3, .int .i64 y4), (7, .slice Aa0_f3 a0.f3.length ca0_f3), (8, .int .i64 (a0.f3.length : Int)), (9, .int .i64 y5)] ∧ G = G' ∧ Γ = Γ') ?_ kf ⟨0, 0, h, rfl, rfl, rfl⟩
      clear h
      rintro kn7 _ _ _ ⟨y4, y5, h, rfl, rfl, rfl⟩
      cases kn7 with
      | zero => exact absurd h (by simp [ask_Deep_l0])
      | succ kn7 =>
        simp only [ask_Deep_l0] at h
        refine WP.seqP [3, 7, 8, 9, 10] (L' := [(3, .int .i64 y4), (7, .slice Aa0_f3 a0.f3.length ca0_f3), (8, .int .i64 (a0.f3.length : Int)), (9, .int .i64 y5), (10, .bool (decide (y5 < (a0.f3.length : Int))))]) (by kernel_rfl) ?_
        refine WP.seq ?_
        refine WP.cond (b := decide (y5 < (a0.f3.length : Int))) (by kernel_rfl) (fun hc => ?_) (fun hc => ?_)
        · replace hc := of_decide_eq_true hc
          rw [if_pos hc] at h
          have hc8 := hc
          clear hc
          refine WP.skip ?_
          refine QP.next ?_
          refine WP.pick [3, 7, 8, 9] ?_
          refine WP.seq ?_
          refine WP.block ?_
          refine WP.seqR ?_
          by_cases hb9 : 0 ≤ y5 ∧ y5 < (a0.f3.length : Int)
          case neg => rw [if_neg hb9] at h; cases h
          rw [if_pos hb9] at h
          refine WL.tell (op := .indexAddr 23 (.tmp 7) (.tmp 9)) (ty := 0) (d := some 11) (g := none) (by kernel_rfl) (by kernel_rfl) (by kernel_rfl) (Tells.indexAddr (A := Aa0_f3) (n := a0.f3.length) (c := ca0_f3) (k := .i64) (j := y5) (by kernel_rfl) (by kernel_rfl) (Ha0_f3.isSome hb9.1 hb9.2) hb9.1 hb9.2 sl23) ?_
          refine WL.tellE (op := .load 25 (.tmp 11)) (ty := 25) (d := some 12) (g := none) (by kernel_rfl) (by kernel_rfl) (by kernel_rfl) (Ha0_f3.load (agg := true) hb9.1 hb9.2 z25 ag25 (fun h => by cases h) (by kernel_rfl)) ?_
          rintro _ hrel
          obtain ⟨_, _, rfl, rfl, ⟨_, _, rfl, rfl, ⟨_, _, rfl, ⟨Ae10, ce10, rfl, He10⟩, ⟨Ae11, ce11, rfl, He11⟩⟩⟩⟩ := k25_out hrel
          replace He10 : Rd kStr G Ae10 ce10 ((a0.f3.getD y5.toNat z25).f2) := He10
          replace He11 : Rd k25 G Ae11 ce11 ((a0.f3.getD y5.toNat z25).f3) := He11
          refine WL.op (op := .alloc 25) (ty := 0) (d := some 5) (g := none) (by kernel_rfl) (by kernel_rfl) (by kernel_rfl) (Does.new (o := .cells #[.int .i64 0, .int .i64 0, .slice none 0 0, .slice none 0 0] 25 (0, 0)) (v := fun r => .pointer (some ⟨r, 0, none⟩)) (fun r => by kernel_rfl)) ?_
          rintro _ _ _ ⟨b12, rfl, rfl, rfl⟩
          refine WL.op (op := .store 25 (.tmp 5) (.tmp 12)) (ty := 0) (d := none) (g := none) (by kernel_rfl) (by kernel_rfl) (by kernel_rfl) (Does.store_box (i := 0) (b := b12) (o := 0) (v := .agg #[.int .i64 ((a0.f3.getD y5.toNat z25).f0), .int .i64 ((a0.f3.getD y5.toNat z25).f1), .slice Ae10 ((a0.f3.getD y5.toNat z25).f2).length ce10, .slice Ae11 ((a0.f3.getD y5.toNat z25).f3).length ce11]) (by rfl) sz25 (by kernel_rfl) (by kernel_rfl) (by kernel_rfl) (Free.zero _) (Nat.le_of_ble_eq_true rfl) (cells' := #[.int .i64 ((a0.f3.getD y5.toNat z25).f0), .int .i64 ((a0.f3.getD y5.toNat z25).f1), .slice Ae10 ((a0.f3.getD y5.toNat z25).f2).length ce10, .slice Ae11 ((a0.f3.getD y5.toNat z25).f3).length ce11]) (by kernel_rfl)) ?_
          rintro _ _ _ ⟨rfl, rfl, rfl⟩
          refine WL.restQ 4 [3, 5, 7, 8, 9] (L' := [(3, .int .i64 y4), (5, .pointer (some ⟨b12, 0, none⟩)), (7, .slice Aa0_f3 a0.f3.length ca0_f3), (8, .int .i64 (a0.f3.length : Int)), (9, .int .i64 y5)]) (by kernel_rfl) ?_
          refine WP.region ?_
          refine WL.pure 0 1 [3, 5, 7, 8, 9, 13] (L' := [(3, .int .i64 y4), (5, .pointer (some ⟨b12, 0, none⟩)), (7, .slice Aa0_f3 a0.f3.length ca0_f3), (8, .int .i64 (a0.f3.length : Int)), (9, .int .i64 y5), (13, .int .i64 y4)]) (by kernel_rfl) (by decide) ?_
          refine WL.tell (op := .load 25 (.tmp 5)) (ty := 25) (d := some 14) (g := none) (by kernel_rfl) (by kernel_rfl) (by kernel_rfl) (Tells.load_box (i := 0) (b := b12) (o := 0) (agg := true) (by rfl) ag25 (by kernel_rfl) (fun h => by cases h) (Nat.le_of_ble_eq_true rfl) (v := .agg #[.int .i64 ((a0.f3.getD y5.toNat z25).f0), .int .i64 ((a0.f3.getD y5.toNat z25).f1), .slice Ae10 ((a0.f3.getD y5.toNat z25).f2).length ce10, .slice Ae11 ((a0.f3.getD y5.toNat z25).f3).length ce11]) (by kernel_rfl)) ?_
          rw [Option.bind_eq_some_iff] at h
          obtain ⟨t13, ht14, h⟩ := h
          refine WL.op (op := .call { callee := (.value (.func 32)), args := #[(.tmp 14)], argTypes := #[25] }) (ty := 3) (d := some 15) (g := none) (by kernel_rfl) (by kernel_rfl) (by kernel_rfl) (Does.call (f := 32) (args := [.agg #[.int .i64 ((a0.f3.getD y5.toNat z25).f0), .int .i64 ((a0.f3.getD y5.toNat z25).f1), .slice Ae10 ((a0.f3.getD y5.toNat z25).f2).length ce10, .slice Ae11 ((a0.f3.getD y5.toNat z25).f3).length ce11]]) (by kernel_rfl) (fun W hI => (ih (⟨(a0.f3.getD y5.toNat z25).f0, (a0.f3.getD y5.toNat z25).f1, (a0.f3.getD y5.toNat z25).f2, (a0.f3.getD y5.toNat z25).f3⟩ : T25) Ae10 ce10 He10 Ae11 ce11 He11 t13 ht14 hI))) ?_
          rintro _ _ _ ⟨rfl, rfl, rfl⟩
          refine WL.rest 3 [3, 7, 8, 9] (L' := [(3, .int .i64 (if t13 > y4 then t13 else y4)), (7, .slice Aa0_f3 a0.f3.length ca0_f3), (8, .int .i64 (a0.f3.length : Int)), (9, .int .i64 y5)]) (by kernel_rfl) ?_
          refine QP.blockN ?_
          refine QP.next ?_
          refine WP.pick [3, 7, 8, 9] ?_
          refine WP.regionP [3, 7, 8, 9] (L' := [(3, .int .i64 (if t13 > y4 then t13 else y4)), (7, .slice Aa0_f3 a0.f3.length ca0_f3), (8, .int .i64 (a0.f3.length : Int)), (9, .int .i64 (IntKind.i64.wrap (y5 + 1)))]) (by kernel_rfl) ?_
          refine QP.dropAt 0 ?_
          refine QP.pick [3, 7, 8, 9] ?_
          exact QP.meet ⟨kn7, Nat.lt_succ_self _, (if t13 > y4 then t13 else y4), (IntKind.i64.wrap (y5 + 1)), h, rfl, rfl, rfl⟩
        · replace hc := of_decide_eq_false hc
          rw [if_neg hc] at h
          have hc8 := hc
          clear hc
          refine WP.exit ?_
          refine QP.thenE ?_
          refine QP.thenE ?_
          refine QP.blockE ?_
          refine QP.pick [3] ?_
          exact QP.meet ⟨_, Option.some.inj h, rfl, rfl, rfl⟩
    · rintro _ _ _ ⟨s2, rfl, rfl, rfl, rfl⟩
      clear h
      replace h := hk3
      refine QP.next ?_
      refine WP.pick [3] ?_
      refine WP.seqP [2] (L' := [(2, .int .i64 (IntKind.i64.wrap (s2 + 1)))]) (by kernel_rfl) ?_
      refine WP.ret ?_
      obtain rfl := Option.some.inj h
      exact QP.returned [2] [.int .i64 (IntKind.i64.wrap (s2 + 1))] _ (by kernel_rfl) (by kernel_rfl) (by kernel_rfl) (fun W hI => ⟨_, _, _, rfl, ⟨rfl, rfl, rfl⟩, hI⟩)
theorem ask_Deep_calls {B : World} {G : GMap} {Γ : List Chunk} {W : World} (k : Nat) (a0 : T25) (Aa0_f2 : Option Addr) (ca0_f2 : Nat) (Ha0_f2 : Rd kStr G Aa0_f2 ca0_f2 a0.f2) (Aa0_f3 : Option Addr) (ca0_f3 : Nat) (Ha0_f3 : Rd k25 G Aa0_f3 ca0_f3 a0.f3) (r : Int) (h : ask_Deep k a0 = some r) (hI : Inv B G (Γ) W) :
    Calls Tryd.prog 32 [.agg #[.int .i64 a0.f0, .int .i64 a0.f1, .slice Aa0_f2 a0.f2.length ca0_f2, .slice Aa0_f3 a0.f3.length ca0_f3]].toArray W (Ret B (fun v G' Γ' => v = .int .i64 r ∧ G = G' ∧ Γ = Γ')) := ask_Deep_calls_k k a0 Aa0_f2 ca0_f2 Ha0_f2 Aa0_f3 ca0_f3 Ha0_f3 r h hI

/-! ### grapevine/ask.Terms: function 33 -/
def ask_Terms_l0 (a0 : T25) (rec_ : T25 → Option Int) : Nat → Int → Int → Option Int
  | 0, _, _ => none
  | k + 1, y5, y6 => (if y6 < (a0.f3.length : Int) then (if 0 ≤ y6 ∧ y6 < (a0.f3.length : Int) then ((rec_ (⟨(a0.f3.getD y6.toNat z25).f0, (a0.f3.getD y6.toNat z25).f1, (a0.f3.getD y6.toNat z25).f2, (a0.f3.getD y6.toNat z25).f3⟩ : T25)).bind fun t14 => ask_Terms_l0 a0 rec_ k (IntKind.i64.wrap (y5 + t14)) (IntKind.i64.wrap (y6 + 1))) else none) else some y5)
def ask_Terms : Nat → T25 → Option Int
  | 0, _ => none
  | k + 1, a0 => (if (a0.f3.length : Int) = 0 then some (if 1 > (a0.f2.length : Int) then 1 else (a0.f2.length : Int)) else ((ask_Terms_l0 a0 (ask_Terms k) k 0 0).bind fun s3 => some s3))
set_option maxHeartbeats 4000000 in
theorem ask_Terms_calls_k (k : Nat) : ∀ {B : World} {G : GMap} {Γ : List Chunk} {W : World} (a0 : T25) (Aa0_f2 : Option Addr) (ca0_f2 : Nat) (Ha0_f2 : Rd kStr G Aa0_f2 ca0_f2 a0.f2) (Aa0_f3 : Option Addr) (ca0_f3 : Nat) (Ha0_f3 : Rd k25 G Aa0_f3 ca0_f3 a0.f3) (r : Int) (h : ask_Terms k a0 = some r) (hI : Inv B G (Γ) W),
    Calls Tryd.prog 33 [.agg #[.int .i64 a0.f0, .int .i64 a0.f1, .slice Aa0_f2 a0.f2.length ca0_f2, .slice Aa0_f3 a0.f3.length ca0_f3]].toArray W (Ret B (fun v G' Γ' => v = .int .i64 r ∧ G = G' ∧ Γ = Γ')) := by
  induction k with
  | zero => intro B G Γ W a0 Aa0_f2 ca0_f2 Ha0_f2 Aa0_f3 ca0_f3 Ha0_f3 r h hI; exact absurd h (by simp [ask_Terms])
  | succ kf ih =>
    intro B G Γ W a0 Aa0_f2 ca0_f2 Ha0_f2 Aa0_f3 ca0_f3 Ha0_f3 r h hI
    refine calls_WP (Γ := Γ) (G := G) (B := B) Tryd.func33 rfl (by kernel_rfl) ?_ hI
    clear hI
    simp only [ask_Terms] at h
    refine WP.seqR ?_
    refine WL.op (op := .box 25 (.tmp 0)) (ty := 0) (d := some 1) (g := none) (by kernel_rfl) (by kernel_rfl) (by kernel_rfl) (Does.new (o := .cells #[.int .i64 a0.f0, .int .i64 a0.f1, .slice Aa0_f2 a0.f2.length ca0_f2, .slice Aa0_f3 a0.f3.length ca0_f3] 25 (0, 0)) (v := fun r => .pointer (some ⟨r, 0, none⟩)) (fun r => by kernel_rfl)) ?_
    rintro _ _ _ ⟨b1, rfl, rfl, rfl⟩
    refine WL.restQ 1 [1] (L' := [(1, .pointer (some ⟨b1, 0, none⟩))]) (by kernel_rfl) ?_
    refine WP.seq ?_
    refine WP.seqR ?_
    refine WL.pure 0 1 [1, 6] (L' := [(1, .pointer (some ⟨b1, 0, none⟩)), (6, .pointer (some ⟨b1, 3, none⟩))]) (by kernel_rfl) (by decide) ?_
    refine WL.tell (op := .load 23 (.tmp 6)) (ty := 23) (d := some 7) (g := none) (by kernel_rfl) (by kernel_rfl) (by kernel_rfl) (Tells.load_box (i := 0) (b := b1) (o := 3) (agg := false) (by rfl) ag23 (by kernel_rfl) (fun _ => rfl) (Nat.le_of_ble_eq_true rfl) (v := .slice Aa0_f3 a0.f3.length ca0_f3) (by kernel_rfl)) ?_
    refine WL.restQ 2 [1, 9] (L' := [(1, .pointer (some ⟨b1, 0, none⟩)), (9, .bool ((a0.f3.length : Int) == 0))]) (by kernel_rfl) ?_
    refine WP.cond (b := ((a0.f3.length : Int) == 0)) (by kernel_rfl) (fun hc => ?_) (fun hc => ?_)
    · replace hc := eq_of_beq hc
      rw [if_pos hc] at h
      have hc2 := hc
      clear hc
      refine WP.seqR ?_
      refine WL.pure 0 1 [10] (L' := [(10, .pointer (some ⟨b1, 2, none⟩))]) (by kernel_rfl) (by decide) ?_
      refine WL.tell (op := .load 22 (.tmp 10)) (ty := 22) (d := some 11) (g := none) (by kernel_rfl) (by kernel_rfl) (by kernel_rfl) (Tells.load_box (i := 0) (b := b1) (o := 2) (agg := false) (by rfl) ag22 (by kernel_rfl) (fun _ => rfl) (Nat.le_of_ble_eq_true rfl) (v := .slice Aa0_f2 a0.f2.length ca0_f2) (by kernel_rfl)) ?_
      refine WL.restQ 2 [2] (L' := [(2, .int .i64 (if 1 > (a0.f2.length : Int) then 1 else (a0.f2.length : Int)))]) (by kernel_rfl) ?_
      refine WP.dropAt 0 ?_
      refine WP.ret ?_
      refine QP.thenR ?_
      obtain rfl := Option.some.inj h
      exact QP.returned [2] [.int .i64 (if 1 > (a0.f2.length : Int) then 1 else (a0.f2.length : Int))] _ (by kernel_rfl) (by kernel_rfl) (by kernel_rfl) (fun W hI => ⟨_, _, _, rfl, ⟨rfl, rfl, rfl⟩, hI⟩)
    · replace hc := ne_of_beq_false hc
      rw [if_neg hc] at h
      have hc2 := hc
      clear hc
      refine WP.skip ?_
      refine QP.next ?_
      refine WP.pick [1] ?_
      refine WP.seqP [1, 3] (L' := [(1, .pointer (some ⟨b1, 0, none⟩)), (3, .int .i64 0)]) (by kernel_rfl) ?_
      refine WP.seq ?_
      refine WP.seqR ?_
      refine WL.pure 0 1 [3, 14] (L' := [(3, .int .i64 0), (14, .pointer (some ⟨b1, 3, none⟩))]) (by kernel_rfl) (by decide) ?_
      refine WL.tell (op := .load 23 (.tmp 14)) (ty := 23) (d := some 15) (g := none) (by kernel_rfl) (by kernel_rfl) (by kernel_rfl) (Tells.load_box (i := 0) (b := b1) (o := 3) (agg := false) (by rfl) ag23 (by kernel_rfl) (fun _ => rfl) (Nat.le_of_ble_eq_true rfl) (v := .slice Aa0_f3 a0.f3.length ca0_f3) (by kernel_rfl)) ?_
      refine WL.restQ 2 [3, 15, 16, 17] (L' := [(3, .int .i64 0), (15, .slice Aa0_f3 a0.f3.length ca0_f3), (16, .int .i64 (a0.f3.length : Int)), (17, .int .i64 0)]) (by kernel_rfl) ?_
      refine WP.dropAt 0 ?_
      rw [Option.bind_eq_some_iff] at h
      obtain ⟨os3, h, hk4⟩ := h
      refine WP.cutQ (fun L' G' Γ' => ∃ s3 : Int, s3 = os3 ∧ L' = [(3, .int .i64 s3)] ∧ G = G' ∧ Γ = Γ') ?_ ?_
      · clear hk4
        refine WP.block ?_
        refine WP.pick [3, 15, 16, 17] ?_
        refine WP.loopF (fun kn7 L' G' Γ' => ∃ (y5 : Int), ∃ (y6 : Int), ask_Terms_l0 a0 (ask_Terms kf) kn7 y5 y6 = some os3 ∧ L' = [(3, .int .i64 y5), (15, .slice Aa0_f3 a0.f3.length ca0_f3), (16, .int .i64 (a0.f3.length : Int)), (17, .int .i64 y6)] ∧ G = G' ∧ Γ = Γ') ?_ kf ⟨0, 0, h, rfl, rfl, rfl⟩
        clear h
        rintro kn8 _ _ _ ⟨y5, y6, h, rfl, rfl, rfl⟩
        cases kn8 with
        | zero => exact absurd h (by simp [ask_Terms_l0])
        | succ kn8 =>
          simp only [ask_Terms_l0] at h
          refine WP.seqP [3, 15, 16, 17, 18] (L' := [(3, .int .i64 y5), (15, .slice Aa0_f3 a0.f3.length ca0_f3), (16, .int .i64 (a0.f3.length : Int)), (17, .int .i64 y6), (18, .bool (decide (y6 < (a0.f3.length : Int))))]) (by kernel_rfl) ?_
          refine WP.seq ?_
          refine WP.cond (b := decide (y6 < (a0.f3.length : Int))) (by kernel_rfl) (fun hc => ?_) (fun hc => ?_)
          · replace hc := of_decide_eq_true hc
            rw [if_pos hc] at h
            have hc9 := hc
            clear hc
            refine WP.skip ?_
            refine QP.next ?_
            refine WP.pick [3, 15, 16, 17] ?_
            refine WP.seq ?_
            refine WP.block ?_
            refine WP.seqR ?_
            by_cases hb10 : 0 ≤ y6 ∧ y6 < (a0.f3.length : Int)
            case neg => rw [if_neg hb10] at h; cases h
            rw [if_pos hb10] at h
            refine WL.tell (op := .indexAddr 23 (.tmp 15) (.tmp 17)) (ty := 0) (d := some 19) (g := none) (by kernel_rfl) (by kernel_rfl) (by kernel_rfl) (Tells.indexAddr (A := Aa0_f3) (n := a0.f3.length) (c := ca0_f3) (k := .i64) (j := y6) (by kernel_rfl) (by kernel_rfl) (Ha0_f3.isSome hb10.1 hb10.2) hb10.1 hb10.2 sl23) ?_
            refine WL.tellE (op := .load 25 (.tmp 19)) (ty := 25) (d := some 20) (g := none) (by kernel_rfl) (by kernel_rfl) (by kernel_rfl) (Ha0_f3.load (agg := true) hb10.1 hb10.2 z25 ag25 (fun h => by cases h) (by kernel_rfl)) ?_
            rintro _ hrel
            obtain ⟨_, _, rfl, rfl, ⟨_, _, rfl, rfl, ⟨_, _, rfl, ⟨Ae11, ce11, rfl, He11⟩, ⟨Ae12, ce12, rfl, He12⟩⟩⟩⟩ := k25_out hrel
            replace He11 : Rd kStr G Ae11 ce11 ((a0.f3.getD y6.toNat z25).f2) := He11
            replace He12 : Rd k25 G Ae12 ce12 ((a0.f3.getD y6.toNat z25).f3) := He12
            refine WL.op (op := .alloc 25) (ty := 0) (d := some 5) (g := none) (by kernel_rfl) (by kernel_rfl) (by kernel_rfl) (Does.new (o := .cells #[.int .i64 0, .int .i64 0, .slice none 0 0, .slice none 0 0] 25 (0, 0)) (v := fun r => .pointer (some ⟨r, 0, none⟩)) (fun r => by kernel_rfl)) ?_
            rintro _ _ _ ⟨b13, rfl, rfl, rfl⟩
            refine WL.op (op := .store 25 (.tmp 5) (.tmp 20)) (ty := 0) (d := none) (g := none) (by kernel_rfl) (by kernel_rfl) (by kernel_rfl) (Does.store_box (i := 0) (b := b13) (o := 0) (v := .agg #[.int .i64 ((a0.f3.getD y6.toNat z25).f0), .int .i64 ((a0.f3.getD y6.toNat z25).f1), .slice Ae11 ((a0.f3.getD y6.toNat z25).f2).length ce11, .slice Ae12 ((a0.f3.getD y6.toNat z25).f3).length ce12]) (by rfl) sz25 (by kernel_rfl) (by kernel_rfl) (by kernel_rfl) (Free.zero _) (Nat.le_of_ble_eq_true rfl) (cells' := #[.int .i64 ((a0.f3.getD y6.toNat z25).f0), .int .i64 ((a0.f3.getD y6.toNat z25).f1), .slice Ae11 ((a0.f3.getD y6.toNat z25).f2).length ce11, .slice Ae12 ((a0.f3.getD y6.toNat z25).f3).length ce12]) (by kernel_rfl)) ?_
            rintro _ _ _ ⟨rfl, rfl, rfl⟩
            refine WL.restQ 4 [3, 5, 15, 16, 17] (L' := [(3, .int .i64 y5), (5, .pointer (some ⟨b13, 0, none⟩)), (15, .slice Aa0_f3 a0.f3.length ca0_f3), (16, .int .i64 (a0.f3.length : Int)), (17, .int .i64 y6)]) (by kernel_rfl) ?_
            refine WP.region ?_
            refine WL.pure 0 1 [3, 5, 15, 16, 17, 21] (L' := [(3, .int .i64 y5), (5, .pointer (some ⟨b13, 0, none⟩)), (15, .slice Aa0_f3 a0.f3.length ca0_f3), (16, .int .i64 (a0.f3.length : Int)), (17, .int .i64 y6), (21, .int .i64 y5)]) (by kernel_rfl) (by decide) ?_
            refine WL.tell (op := .load 25 (.tmp 5)) (ty := 25) (d := some 22) (g := none) (by kernel_rfl) (by kernel_rfl) (by kernel_rfl) (Tells.load_box (i := 0) (b := b13) (o := 0) (agg := true) (by rfl) ag25 (by kernel_rfl) (fun h => by cases h) (Nat.le_of_ble_eq_true rfl) (v := .agg #[.int .i64 ((a0.f3.getD y6.toNat z25).f0), .int .i64 ((a0.f3.getD y6.toNat z25).f1), .slice Ae11 ((a0.f3.getD y6.toNat z25).f2).length ce11, .slice Ae12 ((a0.f3.getD y6.toNat z25).f3).length ce12]) (by kernel_rfl)) ?_
            rw [Option.bind_eq_some_iff] at h
            obtain ⟨t14, ht15, h⟩ := h
            refine WL.op (op := .call { callee := (.value (.func 33)), args := #[(.tmp 22)], argTypes := #[25] }) (ty := 3) (d := some 23) (g := none) (by kernel_rfl) (by kernel_rfl) (by kernel_rfl) (Does.call (f := 33) (args := [.agg #[.int .i64 ((a0.f3.getD y6.toNat z25).f0), .int .i64 ((a0.f3.getD y6.toNat z25).f1), .slice Ae11 ((a0.f3.getD y6.toNat z25).f2).length ce11, .slice Ae12 ((a0.f3.getD y6.toNat z25).f3).length ce12]]) (by kernel_rfl) (fun W hI => (ih (⟨(a0.f3.getD y6.toNat z25).f0, (a0.f3.getD y6.toNat z25).f1, (a0.f3.getD y6.toNat z25).f2, (a0.f3.getD y6.toNat z25).f3⟩ : T25) Ae11 ce11 He11 Ae12 ce12 He12 t14 ht15 hI))) ?_
            rintro _ _ _ ⟨rfl, rfl, rfl⟩
            refine WL.rest 3 [3, 15, 16, 17] (L' := [(3, .int .i64 (IntKind.i64.wrap (y5 + t14))), (15, .slice Aa0_f3 a0.f3.length ca0_f3), (16, .int .i64 (a0.f3.length : Int)), (17, .int .i64 y6)]) (by kernel_rfl) ?_
            refine QP.blockN ?_
            refine QP.next ?_
            refine WP.pick [3, 15, 16, 17] ?_
            refine WP.regionP [3, 15, 16, 17] (L' := [(3, .int .i64 (IntKind.i64.wrap (y5 + t14))), (15, .slice Aa0_f3 a0.f3.length ca0_f3), (16, .int .i64 (a0.f3.length : Int)), (17, .int .i64 (IntKind.i64.wrap (y6 + 1)))]) (by kernel_rfl) ?_
            refine QP.dropAt 0 ?_
            refine QP.pick [3, 15, 16, 17] ?_
            exact QP.meet ⟨kn8, Nat.lt_succ_self _, (IntKind.i64.wrap (y5 + t14)), (IntKind.i64.wrap (y6 + 1)), h, rfl, rfl, rfl⟩
          · replace hc := of_decide_eq_false hc
            rw [if_neg hc] at h
            have hc9 := hc
            clear hc
            refine WP.exit ?_
            refine QP.thenE ?_
            refine QP.thenE ?_
            refine QP.blockE ?_
            refine QP.pick [3] ?_
            exact QP.meet ⟨_, Option.some.inj h, rfl, rfl, rfl⟩
      · rintro _ _ _ ⟨s3, rfl, rfl, rfl, rfl⟩
        clear h
        replace h := hk4
        refine QP.next ?_
        refine WP.pick [3] ?_
        refine WP.seqP [2] (L' := [(2, .int .i64 s3)]) (by kernel_rfl) ?_
        refine WP.ret ?_
        obtain rfl := Option.some.inj h
        exact QP.returned [2] [.int .i64 s3] _ (by kernel_rfl) (by kernel_rfl) (by kernel_rfl) (fun W hI => ⟨_, _, _, rfl, ⟨rfl, rfl, rfl⟩, hI⟩)
theorem ask_Terms_calls {B : World} {G : GMap} {Γ : List Chunk} {W : World} (k : Nat) (a0 : T25) (Aa0_f2 : Option Addr) (ca0_f2 : Nat) (Ha0_f2 : Rd kStr G Aa0_f2 ca0_f2 a0.f2) (Aa0_f3 : Option Addr) (ca0_f3 : Nat) (Ha0_f3 : Rd k25 G Aa0_f3 ca0_f3 a0.f3) (r : Int) (h : ask_Terms k a0 = some r) (hI : Inv B G (Γ) W) :
    Calls Tryd.prog 33 [.agg #[.int .i64 a0.f0, .int .i64 a0.f1, .slice Aa0_f2 a0.f2.length ca0_f2, .slice Aa0_f3 a0.f3.length ca0_f3]].toArray W (Ret B (fun v G' Γ' => v = .int .i64 r ∧ G = G' ∧ Γ = Γ')) := ask_Terms_calls_k k a0 Aa0_f2 ca0_f2 Ha0_f2 Aa0_f3 ca0_f3 Ha0_f3 r h hI

/-! ### grapevine/ask.shaped: function 60 -/
def ask_shaped (a0 : Int) : Option (T83 × Bool) := (if a0 = 1 then (if a0 = 1 then some ((⟨1, 1, 0, 0, 0⟩ : T83), true) else (if a0 = 3 then some ((⟨1, 16, 0, 0, 0⟩ : T83), true) else (if a0 = 4 then some ((⟨0, 0, 0, 0, 7⟩ : T83), true) else (if a0 = 5 then (if a0 = 5 then some ((⟨0, 0, 0, 0, 1099511627776⟩ : T83), true) else (if a0 = 9 then some ((⟨0, 0, 1, 1, 0⟩ : T83), true) else (if a0 = 7 then (if a0 = 7 then some ((⟨0, 0, 2, 1048576, 0⟩ : T83), true) else some ((⟨0, 0, 0, 0, 0⟩ : T83), false)) else (if a0 = 8 then some ((⟨0, 0, 2, 1048576, 0⟩ : T83), true) else some ((⟨0, 0, 0, 0, 0⟩ : T83), false))))) else (if a0 = 6 then some ((⟨0, 0, 0, 0, 1099511627776⟩ : T83), true) else (if a0 = 9 then some ((⟨0, 0, 1, 1, 0⟩ : T83), true) else (if a0 = 7 then (if a0 = 7 then some ((⟨0, 0, 2, 1048576, 0⟩ : T83), true) else some ((⟨0, 0, 0, 0, 0⟩ : T83), false)) else (if a0 = 8 then some ((⟨0, 0, 2, 1048576, 0⟩ : T83), true) else some ((⟨0, 0, 0, 0, 0⟩ : T83), false))))))))) else (if a0 = 2 then some ((⟨1, 1, 0, 0, 0⟩ : T83), true) else (if a0 = 3 then some ((⟨1, 16, 0, 0, 0⟩ : T83), true) else (if a0 = 4 then some ((⟨0, 0, 0, 0, 7⟩ : T83), true) else (if a0 = 5 then (if a0 = 5 then some ((⟨0, 0, 0, 0, 1099511627776⟩ : T83), true) else (if a0 = 9 then some ((⟨0, 0, 1, 1, 0⟩ : T83), true) else (if a0 = 7 then (if a0 = 7 then some ((⟨0, 0, 2, 1048576, 0⟩ : T83), true) else some ((⟨0, 0, 0, 0, 0⟩ : T83), false)) else (if a0 = 8 then some ((⟨0, 0, 2, 1048576, 0⟩ : T83), true) else some ((⟨0, 0, 0, 0, 0⟩ : T83), false))))) else (if a0 = 6 then some ((⟨0, 0, 0, 0, 1099511627776⟩ : T83), true) else (if a0 = 9 then some ((⟨0, 0, 1, 1, 0⟩ : T83), true) else (if a0 = 7 then (if a0 = 7 then some ((⟨0, 0, 2, 1048576, 0⟩ : T83), true) else some ((⟨0, 0, 0, 0, 0⟩ : T83), false)) else (if a0 = 8 then some ((⟨0, 0, 2, 1048576, 0⟩ : T83), true) else some ((⟨0, 0, 0, 0, 0⟩ : T83), false))))))))))
set_option maxHeartbeats 4000000 in
theorem ask_shaped_calls {B : World} {G : GMap} {Γ : List Chunk} {W : World} (a0 : Int) (r : T83 × Bool) (h : ask_shaped a0 = some r) (hI : Inv B G (Γ) W) :
    Calls Tryd.prog 60 [.int .i64 a0].toArray W (Ret B (fun v G' Γ' => v = .tuple #[.agg #[.int .i64 r.1.f0, .int .i64 r.1.f1, .int .i64 r.1.f2, .int .i64 r.1.f3, .int .i64 r.1.f4], .bool r.2] ∧ G = G' ∧ Γ = Γ')) := by
  refine calls_WP (Γ := Γ) (G := G) (B := B) Tryd.func60 rfl (by kernel_rfl) ?_ hI
  clear hI
  unfold ask_shaped at h
  refine WP.seqR ?_
  refine WL.op (op := .alloc 83) (ty := 0) (d := some 2) (g := none) (by kernel_rfl) (by kernel_rfl) (by kernel_rfl) (Does.new (o := .cells #[.int .i64 0, .int .i64 0, .int .i64 0, .int .i64 0, .int .i64 0] 83 (0, 0)) (v := fun r => .pointer (some ⟨r, 0, none⟩)) (fun r => by kernel_rfl)) ?_
  rintro _ _ _ ⟨b1, rfl, rfl, rfl⟩
  refine WL.restQ 1 [0, 2] (L' := [(0, .int .i64 a0), (2, .pointer (some ⟨b1, 0, none⟩))]) (by kernel_rfl) ?_
  refine WP.seq ?_
  refine WP.seqP [2, 4] (L' := [(2, .pointer (some ⟨b1, 0, none⟩)), (4, .int .i64 a0)]) (by kernel_rfl) ?_
  refine WP.block ?_
  refine WP.seq ?_
  refine WP.seqP [2, 4, 5] (L' := [(2, .pointer (some ⟨b1, 0, none⟩)), (4, .int .i64 a0), (5, .bool (a0 == 1))]) (by kernel_rfl) ?_
  refine WP.cond (b := (a0 == 1)) (by kernel_rfl) (fun hc => ?_) (fun hc => ?_)
  · replace hc := eq_of_beq hc
    rw [if_pos hc] at h
    have hc2 := hc
    clear hc
    refine WP.skip ?_
    refine QP.next ?_
    refine WP.pick [2, 4, 5] ?_
    refine WP.cond (b := (a0 == 1)) (by kernel_rfl) (fun hc => ?_) (fun hc => ?_)
    · replace hc := eq_of_beq hc
      rw [if_pos hc] at h
      have hc3 := hc
      clear hc
      refine WP.seqR ?_
      refine WL.pure 0 1 [2, 8] (L' := [(2, .pointer (some ⟨b1, 0, none⟩)), (8, .agg #[.int .i64 1, .int .i64 1, .int .i64 0, .int .i64 0, .int .i64 0])]) (by kernel_rfl) (by decide) ?_
      refine WL.op (op := .store 83 (.tmp 2) (.tmp 8)) (ty := 0) (d := none) (g := none) (by kernel_rfl) (by kernel_rfl) (by kernel_rfl) (Does.store_box (i := 0) (b := b1) (o := 0) (v := .agg #[.int .i64 1, .int .i64 1, .int .i64 0, .int .i64 0, .int .i64 0]) (by rfl) sz83 (by kernel_rfl) (by kernel_rfl) (by kernel_rfl) (Free.zero _) (Nat.le_of_ble_eq_true rfl) (cells' := #[.int .i64 1, .int .i64 1, .int .i64 0, .int .i64 0, .int .i64 0]) (by kernel_rfl)) ?_
      rintro _ _ _ ⟨rfl, rfl, rfl⟩
      refine WL.restQ 2 [2, 3] (L' := [(2, .pointer (some ⟨b1, 0, none⟩)), (3, .bool true)]) (by kernel_rfl) ?_
      refine WP.ret ?_
      refine QP.blockR ?_
      refine QP.thenR ?_
      obtain rfl := Option.some.inj h
      exact QP.returnedM (rs := [.cell 2 83, .tmp 3]) (by kernel_rfl) (ResAll.cons (Res1.box (p := 2) (i := 0) (o := 0) (agg := true) (by rfl) ag83 (by kernel_rfl) (fun h => by cases h) (Nat.le_of_ble_eq_true rfl) (v := .agg #[.int .i64 1, .int .i64 1, .int .i64 0, .int .i64 0, .int .i64 0]) (by kernel_rfl)) (ResAll.cons (Res1.tmp (t := 3) (v := .bool true) (by kernel_rfl)) ResAll.nil)) (by kernel_rfl) (fun W hI => ⟨_, _, _, rfl, ⟨rfl, rfl, rfl⟩, (hI.less 0 rfl)⟩)
    · replace hc := ne_of_beq_false hc
      rw [if_neg hc] at h
      have hc3 := hc
      clear hc
      refine WP.seqP [2, 4, 9] (L' := [(2, .pointer (some ⟨b1, 0, none⟩)), (4, .int .i64 a0), (9, .bool (a0 == 3))]) (by kernel_rfl) ?_
      refine WP.cond (b := (a0 == 3)) (by kernel_rfl) (fun hc => ?_) (fun hc => ?_)
      · replace hc := eq_of_beq hc
        rw [if_pos hc] at h
        have hc4 := hc
        clear hc
        refine WP.seqR ?_
        refine WL.pure 0 1 [2, 11] (L' := [(2, .pointer (some ⟨b1, 0, none⟩)), (11, .agg #[.int .i64 1, .int .i64 16, .int .i64 0, .int .i64 0, .int .i64 0])]) (by kernel_rfl) (by decide) ?_
        refine WL.op (op := .store 83 (.tmp 2) (.tmp 11)) (ty := 0) (d := none) (g := none) (by kernel_rfl) (by kernel_rfl) (by kernel_rfl) (Does.store_box (i := 0) (b := b1) (o := 0) (v := .agg #[.int .i64 1, .int .i64 16, .int .i64 0, .int .i64 0, .int .i64 0]) (by rfl) sz83 (by kernel_rfl) (by kernel_rfl) (by kernel_rfl) (Free.zero _) (Nat.le_of_ble_eq_true rfl) (cells' := #[.int .i64 1, .int .i64 16, .int .i64 0, .int .i64 0, .int .i64 0]) (by kernel_rfl)) ?_
        rintro _ _ _ ⟨rfl, rfl, rfl⟩
        refine WL.restQ 2 [2, 3] (L' := [(2, .pointer (some ⟨b1, 0, none⟩)), (3, .bool true)]) (by kernel_rfl) ?_
        refine WP.ret ?_
        refine QP.blockR ?_
        refine QP.thenR ?_
        obtain rfl := Option.some.inj h
        exact QP.returnedM (rs := [.cell 2 83, .tmp 3]) (by kernel_rfl) (ResAll.cons (Res1.box (p := 2) (i := 0) (o := 0) (agg := true) (by rfl) ag83 (by kernel_rfl) (fun h => by cases h) (Nat.le_of_ble_eq_true rfl) (v := .agg #[.int .i64 1, .int .i64 16, .int .i64 0, .int .i64 0, .int .i64 0]) (by kernel_rfl)) (ResAll.cons (Res1.tmp (t := 3) (v := .bool true) (by kernel_rfl)) ResAll.nil)) (by kernel_rfl) (fun W hI => ⟨_, _, _, rfl, ⟨rfl, rfl, rfl⟩, (hI.less 0 rfl)⟩)
      · replace hc := ne_of_beq_false hc
        rw [if_neg hc] at h
        have hc4 := hc
        clear hc
        refine WP.seqP [2, 4, 12] (L' := [(2, .pointer (some ⟨b1, 0, none⟩)), (4, .int .i64 a0), (12, .bool (a0 == 4))]) (by kernel_rfl) ?_
        refine WP.cond (b := (a0 == 4)) (by kernel_rfl) (fun hc => ?_) (fun hc => ?_)
        · replace hc := eq_of_beq hc
          rw [if_pos hc] at h
          have hc5 := hc
          clear hc
          refine WP.seqR ?_
          refine WL.pure 0 1 [2, 14] (L' := [(2, .pointer (some ⟨b1, 0, none⟩)), (14, .agg #[.int .i64 0, .int .i64 0, .int .i64 0, .int .i64 0, .int .i64 7])]) (by kernel_rfl) (by decide) ?_
          refine WL.op (op := .store 83 (.tmp 2) (.tmp 14)) (ty := 0) (d := none) (g := none) (by kernel_rfl) (by kernel_rfl) (by kernel_rfl) (Does.store_box (i := 0) (b := b1) (o := 0) (v := .agg #[.int .i64 0, .int .i64 0, .int .i64 0, .int .i64 0, .int .i64 7]) (by rfl) sz83 (by kernel_rfl) (by kernel_rfl) (by kernel_rfl) (Free.zero _) (Nat.le_of_ble_eq_true rfl) (cells' := #[.int .i64 0, .int .i64 0, .int .i64 0, .int .i64 0, .int .i64 7]) (by kernel_rfl)) ?_
          rintro _ _ _ ⟨rfl, rfl, rfl⟩
          refine WL.restQ 2 [2, 3] (L' := [(2, .pointer (some ⟨b1, 0, none⟩)), (3, .bool true)]) (by kernel_rfl) ?_
          refine WP.ret ?_
          refine QP.blockR ?_
          refine QP.thenR ?_
          obtain rfl := Option.some.inj h
          exact QP.returnedM (rs := [.cell 2 83, .tmp 3]) (by kernel_rfl) (ResAll.cons (Res1.box (p := 2) (i := 0) (o := 0) (agg := true) (by rfl) ag83 (by kernel_rfl) (fun h => by cases h) (Nat.le_of_ble_eq_true rfl) (v := .agg #[.int .i64 0, .int .i64 0, .int .i64 0, .int .i64 0, .int .i64 7]) (by kernel_rfl)) (ResAll.cons (Res1.tmp (t := 3) (v := .bool true) (by kernel_rfl)) ResAll.nil)) (by kernel_rfl) (fun W hI => ⟨_, _, _, rfl, ⟨rfl, rfl, rfl⟩, (hI.less 0 rfl)⟩)
        · replace hc := ne_of_beq_false hc
          rw [if_neg hc] at h
          have hc5 := hc
          clear hc
          refine WP.seq ?_
          refine WP.seqP [2, 4, 15] (L' := [(2, .pointer (some ⟨b1, 0, none⟩)), (4, .int .i64 a0), (15, .bool (a0 == 5))]) (by kernel_rfl) ?_
          refine WP.cond (b := (a0 == 5)) (by kernel_rfl) (fun hc => ?_) (fun hc => ?_)
          · replace hc := eq_of_beq hc
            rw [if_pos hc] at h
            have hc6 := hc
            clear hc
            refine WP.skip ?_
            refine QP.next ?_
            refine WP.pick [2, 4, 15] ?_
            refine WP.cond (b := (a0 == 5)) (by kernel_rfl) (fun hc => ?_) (fun hc => ?_)
            · replace hc := eq_of_beq hc
              rw [if_pos hc] at h
              have hc7 := hc
              clear hc
              refine WP.seqR ?_
              refine WL.pure 0 1 [2, 18] (L' := [(2, .pointer (some ⟨b1, 0, none⟩)), (18, .agg #[.int .i64 0, .int .i64 0, .int .i64 0, .int .i64 0, .int .i64 1099511627776])]) (by kernel_rfl) (by decide) ?_
              refine WL.op (op := .store 83 (.tmp 2) (.tmp 18)) (ty := 0) (d := none) (g := none) (by kernel_rfl) (by kernel_rfl) (by kernel_rfl) (Does.store_box (i := 0) (b := b1) (o := 0) (v := .agg #[.int .i64 0, .int .i64 0, .int .i64 0, .int .i64 0, .int .i64 1099511627776]) (by rfl) sz83 (by kernel_rfl) (by kernel_rfl) (by kernel_rfl) (Free.zero _) (Nat.le_of_ble_eq_true rfl) (cells' := #[.int .i64 0, .int .i64 0, .int .i64 0, .int .i64 0, .int .i64 1099511627776]) (by kernel_rfl)) ?_
              rintro _ _ _ ⟨rfl, rfl, rfl⟩
              refine WL.restQ 2 [2, 3] (L' := [(2, .pointer (some ⟨b1, 0, none⟩)), (3, .bool true)]) (by kernel_rfl) ?_
              refine WP.ret ?_
              refine QP.blockR ?_
              refine QP.thenR ?_
              obtain rfl := Option.some.inj h
              exact QP.returnedM (rs := [.cell 2 83, .tmp 3]) (by kernel_rfl) (ResAll.cons (Res1.box (p := 2) (i := 0) (o := 0) (agg := true) (by rfl) ag83 (by kernel_rfl) (fun h => by cases h) (Nat.le_of_ble_eq_true rfl) (v := .agg #[.int .i64 0, .int .i64 0, .int .i64 0, .int .i64 0, .int .i64 1099511627776]) (by kernel_rfl)) (ResAll.cons (Res1.tmp (t := 3) (v := .bool true) (by kernel_rfl)) ResAll.nil)) (by kernel_rfl) (fun W hI => ⟨_, _, _, rfl, ⟨rfl, rfl, rfl⟩, (hI.less 0 rfl)⟩)
            · replace hc := ne_of_beq_false hc
              rw [if_neg hc] at h
              have hc7 := hc
              clear hc
              refine WP.seqP [2, 4, 19] (L' := [(2, .pointer (some ⟨b1, 0, none⟩)), (4, .int .i64 a0), (19, .bool (a0 == 9))]) (by kernel_rfl) ?_
              refine WP.cond (b := (a0 == 9)) (by kernel_rfl) (fun hc => ?_) (fun hc => ?_)
              · replace hc := eq_of_beq hc
                rw [if_pos hc] at h
                have hc8 := hc
                clear hc
                refine WP.seqR ?_
                refine WL.pure 0 1 [2, 21] (L' := [(2, .pointer (some ⟨b1, 0, none⟩)), (21, .agg #[.int .i64 0, .int .i64 0, .int .i64 1, .int .i64 1, .int .i64 0])]) (by kernel_rfl) (by decide) ?_
                refine WL.op (op := .store 83 (.tmp 2) (.tmp 21)) (ty := 0) (d := none) (g := none) (by kernel_rfl) (by kernel_rfl) (by kernel_rfl) (Does.store_box (i := 0) (b := b1) (o := 0) (v := .agg #[.int .i64 0, .int .i64 0, .int .i64 1, .int .i64 1, .int .i64 0]) (by rfl) sz83 (by kernel_rfl) (by kernel_rfl) (by kernel_rfl) (Free.zero _) (Nat.le_of_ble_eq_true rfl) (cells' := #[.int .i64 0, .int .i64 0, .int .i64 1, .int .i64 1, .int .i64 0]) (by kernel_rfl)) ?_
                rintro _ _ _ ⟨rfl, rfl, rfl⟩
                refine WL.restQ 2 [2, 3] (L' := [(2, .pointer (some ⟨b1, 0, none⟩)), (3, .bool true)]) (by kernel_rfl) ?_
                refine WP.ret ?_
                refine QP.blockR ?_
                refine QP.thenR ?_
                obtain rfl := Option.some.inj h
                exact QP.returnedM (rs := [.cell 2 83, .tmp 3]) (by kernel_rfl) (ResAll.cons (Res1.box (p := 2) (i := 0) (o := 0) (agg := true) (by rfl) ag83 (by kernel_rfl) (fun h => by cases h) (Nat.le_of_ble_eq_true rfl) (v := .agg #[.int .i64 0, .int .i64 0, .int .i64 1, .int .i64 1, .int .i64 0]) (by kernel_rfl)) (ResAll.cons (Res1.tmp (t := 3) (v := .bool true) (by kernel_rfl)) ResAll.nil)) (by kernel_rfl) (fun W hI => ⟨_, _, _, rfl, ⟨rfl, rfl, rfl⟩, (hI.less 0 rfl)⟩)
              · replace hc := ne_of_beq_false hc
                rw [if_neg hc] at h
                have hc8 := hc
                clear hc
                refine WP.seq ?_
                refine WP.seqP [2, 4, 22] (L' := [(2, .pointer (some ⟨b1, 0, none⟩)), (4, .int .i64 a0), (22, .bool (a0 == 7))]) (by kernel_rfl) ?_
                refine WP.cond (b := (a0 == 7)) (by kernel_rfl) (fun hc => ?_) (fun hc => ?_)
                · replace hc := eq_of_beq hc
                  rw [if_pos hc] at h
                  have hc9 := hc
                  clear hc
                  refine WP.skip ?_
                  refine QP.next ?_
                  refine WP.pick [2, 22] ?_
                  refine WP.cond (b := (a0 == 7)) (by kernel_rfl) (fun hc => ?_) (fun hc => ?_)
                  · replace hc := eq_of_beq hc
                    rw [if_pos hc] at h
                    have hc10 := hc
                    clear hc
                    refine WP.seqR ?_
                    refine WL.pure 0 1 [2, 25] (L' := [(2, .pointer (some ⟨b1, 0, none⟩)), (25, .agg #[.int .i64 0, .int .i64 0, .int .i64 2, .int .i64 1048576, .int .i64 0])]) (by kernel_rfl) (by decide) ?_
                    refine WL.op (op := .store 83 (.tmp 2) (.tmp 25)) (ty := 0) (d := none) (g := none) (by kernel_rfl) (by kernel_rfl) (by kernel_rfl) (Does.store_box (i := 0) (b := b1) (o := 0) (v := .agg #[.int .i64 0, .int .i64 0, .int .i64 2, .int .i64 1048576, .int .i64 0]) (by rfl) sz83 (by kernel_rfl) (by kernel_rfl) (by kernel_rfl) (Free.zero _) (Nat.le_of_ble_eq_true rfl) (cells' := #[.int .i64 0, .int .i64 0, .int .i64 2, .int .i64 1048576, .int .i64 0]) (by kernel_rfl)) ?_
                    rintro _ _ _ ⟨rfl, rfl, rfl⟩
                    refine WL.restQ 2 [2, 3] (L' := [(2, .pointer (some ⟨b1, 0, none⟩)), (3, .bool true)]) (by kernel_rfl) ?_
                    refine WP.ret ?_
                    refine QP.blockR ?_
                    refine QP.thenR ?_
                    obtain rfl := Option.some.inj h
                    exact QP.returnedM (rs := [.cell 2 83, .tmp 3]) (by kernel_rfl) (ResAll.cons (Res1.box (p := 2) (i := 0) (o := 0) (agg := true) (by rfl) ag83 (by kernel_rfl) (fun h => by cases h) (Nat.le_of_ble_eq_true rfl) (v := .agg #[.int .i64 0, .int .i64 0, .int .i64 2, .int .i64 1048576, .int .i64 0]) (by kernel_rfl)) (ResAll.cons (Res1.tmp (t := 3) (v := .bool true) (by kernel_rfl)) ResAll.nil)) (by kernel_rfl) (fun W hI => ⟨_, _, _, rfl, ⟨rfl, rfl, rfl⟩, (hI.less 0 rfl)⟩)
                  · replace hc := ne_of_beq_false hc
                    rw [if_neg hc] at h
                    have hc10 := hc
                    clear hc
                    refine WP.skip ?_
                    refine QP.blockN ?_
                    refine QP.next ?_
                    refine WP.pick [2] ?_
                    refine WP.seqR ?_
                    refine WL.pure 0 1 [2, 26] (L' := [(2, .pointer (some ⟨b1, 0, none⟩)), (26, .agg #[.int .i64 0, .int .i64 0, .int .i64 0, .int .i64 0, .int .i64 0])]) (by kernel_rfl) (by decide) ?_
                    refine WL.op (op := .store 83 (.tmp 2) (.tmp 26)) (ty := 0) (d := none) (g := none) (by kernel_rfl) (by kernel_rfl) (by kernel_rfl) (Does.store_box (i := 0) (b := b1) (o := 0) (v := .agg #[.int .i64 0, .int .i64 0, .int .i64 0, .int .i64 0, .int .i64 0]) (by rfl) sz83 (by kernel_rfl) (by kernel_rfl) (by kernel_rfl) (Free.zero _) (Nat.le_of_ble_eq_true rfl) (cells' := #[.int .i64 0, .int .i64 0, .int .i64 0, .int .i64 0, .int .i64 0]) (by kernel_rfl)) ?_
                    rintro _ _ _ ⟨rfl, rfl, rfl⟩
                    refine WL.restQ 2 [2, 3] (L' := [(2, .pointer (some ⟨b1, 0, none⟩)), (3, .bool false)]) (by kernel_rfl) ?_
                    refine WP.ret ?_
                    obtain rfl := Option.some.inj h
                    exact QP.returnedM (rs := [.cell 2 83, .tmp 3]) (by kernel_rfl) (ResAll.cons (Res1.box (p := 2) (i := 0) (o := 0) (agg := true) (by rfl) ag83 (by kernel_rfl) (fun h => by cases h) (Nat.le_of_ble_eq_true rfl) (v := .agg #[.int .i64 0, .int .i64 0, .int .i64 0, .int .i64 0, .int .i64 0]) (by kernel_rfl)) (ResAll.cons (Res1.tmp (t := 3) (v := .bool false) (by kernel_rfl)) ResAll.nil)) (by kernel_rfl) (fun W hI => ⟨_, _, _, rfl, ⟨rfl, rfl, rfl⟩, (hI.less 0 rfl)⟩)
                · replace hc := ne_of_beq_false hc
                  rw [if_neg hc] at h
                  have hc9 := hc
                  clear hc
                  refine WP.regionP [2, 22] (L' := [(2, .pointer (some ⟨b1, 0, none⟩)), (22, .bool (a0 == 8))]) (by kernel_rfl) ?_
                  refine QP.next ?_
                  refine WP.pick [2, 22] ?_
                  refine WP.cond (b := (a0 == 8)) (by kernel_rfl) (fun hc => ?_) (fun hc => ?_)
                  · replace hc := eq_of_beq hc
                    rw [if_pos hc] at h
                    have hc11 := hc
                    clear hc
                    refine WP.seqR ?_
                    refine WL.pure 0 1 [2, 25] (L' := [(2, .pointer (some ⟨b1, 0, none⟩)), (25, .agg #[.int .i64 0, .int .i64 0, .int .i64 2, .int .i64 1048576, .int .i64 0])]) (by kernel_rfl) (by decide) ?_
                    refine WL.op (op := .store 83 (.tmp 2) (.tmp 25)) (ty := 0) (d := none) (g := none) (by kernel_rfl) (by kernel_rfl) (by kernel_rfl) (Does.store_box (i := 0) (b := b1) (o := 0) (v := .agg #[.int .i64 0, .int .i64 0, .int .i64 2, .int .i64 1048576, .int .i64 0]) (by rfl) sz83 (by kernel_rfl) (by kernel_rfl) (by kernel_rfl) (Free.zero _) (Nat.le_of_ble_eq_true rfl) (cells' := #[.int .i64 0, .int .i64 0, .int .i64 2, .int .i64 1048576, .int .i64 0]) (by kernel_rfl)) ?_
                    rintro _ _ _ ⟨rfl, rfl, rfl⟩
                    refine WL.restQ 2 [2, 3] (L' := [(2, .pointer (some ⟨b1, 0, none⟩)), (3, .bool true)]) (by kernel_rfl) ?_
                    refine WP.ret ?_
                    refine QP.blockR ?_
                    refine QP.thenR ?_
                    obtain rfl := Option.some.inj h
                    exact QP.returnedM (rs := [.cell 2 83, .tmp 3]) (by kernel_rfl) (ResAll.cons (Res1.box (p := 2) (i := 0) (o := 0) (agg := true) (by rfl) ag83 (by kernel_rfl) (fun h => by cases h) (Nat.le_of_ble_eq_true rfl) (v := .agg #[.int .i64 0, .int .i64 0, .int .i64 2, .int .i64 1048576, .int .i64 0]) (by kernel_rfl)) (ResAll.cons (Res1.tmp (t := 3) (v := .bool true) (by kernel_rfl)) ResAll.nil)) (by kernel_rfl) (fun W hI => ⟨_, _, _, rfl, ⟨rfl, rfl, rfl⟩, (hI.less 0 rfl)⟩)
                  · replace hc := ne_of_beq_false hc
                    rw [if_neg hc] at h
                    have hc11 := hc
                    clear hc
                    refine WP.skip ?_
                    refine QP.blockN ?_
                    refine QP.next ?_
                    refine WP.pick [2] ?_
                    refine WP.seqR ?_
                    refine WL.pure 0 1 [2, 26] (L' := [(2, .pointer (some ⟨b1, 0, none⟩)), (26, .agg #[.int .i64 0, .int .i64 0, .int .i64 0, .int .i64 0, .int .i64 0])]) (by kernel_rfl) (by decide) ?_
                    refine WL.op (op := .store 83 (.tmp 2) (.tmp 26)) (ty := 0) (d := none) (g := none) (by kernel_rfl) (by kernel_rfl) (by kernel_rfl) (Does.store_box (i := 0) (b := b1) (o := 0) (v := .agg #[.int .i64 0, .int .i64 0, .int .i64 0, .int .i64 0, .int .i64 0]) (by rfl) sz83 (by kernel_rfl) (by kernel_rfl) (by kernel_rfl) (Free.zero _) (Nat.le_of_ble_eq_true rfl) (cells' := #[.int .i64 0, .int .i64 0, .int .i64 0, .int .i64 0, .int .i64 0]) (by kernel_rfl)) ?_
                    rintro _ _ _ ⟨rfl, rfl, rfl⟩
                    refine WL.restQ 2 [2, 3] (L' := [(2, .pointer (some ⟨b1, 0, none⟩)), (3, .bool false)]) (by kernel_rfl) ?_
                    refine WP.ret ?_
                    obtain rfl := Option.some.inj h
                    exact QP.returnedM (rs := [.cell 2 83, .tmp 3]) (by kernel_rfl) (ResAll.cons (Res1.box (p := 2) (i := 0) (o := 0) (agg := true) (by rfl) ag83 (by kernel_rfl) (fun h => by cases h) (Nat.le_of_ble_eq_true rfl) (v := .agg #[.int .i64 0, .int .i64 0, .int .i64 0, .int .i64 0, .int .i64 0]) (by kernel_rfl)) (ResAll.cons (Res1.tmp (t := 3) (v := .bool false) (by kernel_rfl)) ResAll.nil)) (by kernel_rfl) (fun W hI => ⟨_, _, _, rfl, ⟨rfl, rfl, rfl⟩, (hI.less 0 rfl)⟩)
          · replace hc := ne_of_beq_false hc
            rw [if_neg hc] at h
            have hc6 := hc
            clear hc
            refine WP.regionP [2, 4, 15] (L' := [(2, .pointer (some ⟨b1, 0, none⟩)), (4, .int .i64 a0), (15, .bool (a0 == 6))]) (by kernel_rfl) ?_
            refine QP.next ?_
            refine WP.pick [2, 4, 15] ?_
            refine WP.cond (b := (a0 == 6)) (by kernel_rfl) (fun hc => ?_) (fun hc => ?_)
            · replace hc := eq_of_beq hc
              rw [if_pos hc] at h
              have hc12 := hc
              clear hc
              refine WP.seqR ?_
              refine WL.pure 0 1 [2, 18] (L' := [(2, .pointer (some ⟨b1, 0, none⟩)), (18, .agg #[.int .i64 0, .int .i64 0, .int .i64 0, .int .i64 0, .int .i64 1099511627776])]) (by kernel_rfl) (by decide) ?_
              refine WL.op (op := .store 83 (.tmp 2) (.tmp 18)) (ty := 0) (d := none) (g := none) (by kernel_rfl) (by kernel_rfl) (by kernel_rfl) (Does.store_box (i := 0) (b := b1) (o := 0) (v := .agg #[.int .i64 0, .int .i64 0, .int .i64 0, .int .i64 0, .int .i64 1099511627776]) (by rfl) sz83 (by kernel_rfl) (by kernel_rfl) (by kernel_rfl) (Free.zero _) (Nat.le_of_ble_eq_true rfl) (cells' := #[.int .i64 0, .int .i64 0, .int .i64 0, .int .i64 0, .int .i64 1099511627776]) (by kernel_rfl)) ?_
              rintro _ _ _ ⟨rfl, rfl, rfl⟩
              refine WL.restQ 2 [2, 3] (L' := [(2, .pointer (some ⟨b1, 0, none⟩)), (3, .bool true)]) (by kernel_rfl) ?_
              refine WP.ret ?_
              refine QP.blockR ?_
              refine QP.thenR ?_
              obtain rfl := Option.some.inj h
              exact QP.returnedM (rs := [.cell 2 83, .tmp 3]) (by kernel_rfl) (ResAll.cons (Res1.box (p := 2) (i := 0) (o := 0) (agg := true) (by rfl) ag83 (by kernel_rfl) (fun h => by cases h) (Nat.le_of_ble_eq_true rfl) (v := .agg #[.int .i64 0, .int .i64 0, .int .i64 0, .int .i64 0, .int .i64 1099511627776]) (by kernel_rfl)) (ResAll.cons (Res1.tmp (t := 3) (v := .bool true) (by kernel_rfl)) ResAll.nil)) (by kernel_rfl) (fun W hI => ⟨_, _, _, rfl, ⟨rfl, rfl, rfl⟩, (hI.less 0 rfl)⟩)
            · replace hc := ne_of_beq_false hc
              rw [if_neg hc] at h
              have hc12 := hc
              clear hc
              refine WP.seqP [2, 4, 19] (L' := [(2, .pointer (some ⟨b1, 0, none⟩)), (4, .int .i64 a0), (19, .bool (a0 == 9))]) (by kernel_rfl) ?_
              refine WP.cond (b := (a0 == 9)) (by kernel_rfl) (fun hc => ?_) (fun hc => ?_)
              · replace hc := eq_of_beq hc
                rw [if_pos hc] at h
                have hc13 := hc
                clear hc
                refine WP.seqR ?_
                refine WL.pure 0 1 [2, 21] (L' := [(2, .pointer (some ⟨b1, 0, none⟩)), (21, .agg #[.int .i64 0, .int .i64 0, .int .i64 1, .int .i64 1, .int .i64 0])]) (by kernel_rfl) (by decide) ?_
                refine WL.op (op := .store 83 (.tmp 2) (.tmp 21)) (ty := 0) (d := none) (g := none) (by kernel_rfl) (by kernel_rfl) (by kernel_rfl) (Does.store_box (i := 0) (b := b1) (o := 0) (v := .agg #[.int .i64 0, .int .i64 0, .int .i64 1, .int .i64 1, .int .i64 0]) (by rfl) sz83 (by kernel_rfl) (by kernel_rfl) (by kernel_rfl) (Free.zero _) (Nat.le_of_ble_eq_true rfl) (cells' := #[.int .i64 0, .int .i64 0, .int .i64 1, .int .i64 1, .int .i64 0]) (by kernel_rfl)) ?_
                rintro _ _ _ ⟨rfl, rfl, rfl⟩
                refine WL.restQ 2 [2, 3] (L' := [(2, .pointer (some ⟨b1, 0, none⟩)), (3, .bool true)]) (by kernel_rfl) ?_
                refine WP.ret ?_
                refine QP.blockR ?_
                refine QP.thenR ?_
                obtain rfl := Option.some.inj h
                exact QP.returnedM (rs := [.cell 2 83, .tmp 3]) (by kernel_rfl) (ResAll.cons (Res1.box (p := 2) (i := 0) (o := 0) (agg := true) (by rfl) ag83 (by kernel_rfl) (fun h => by cases h) (Nat.le_of_ble_eq_true rfl) (v := .agg #[.int .i64 0, .int .i64 0, .int .i64 1, .int .i64 1, .int .i64 0]) (by kernel_rfl)) (ResAll.cons (Res1.tmp (t := 3) (v := .bool true) (by kernel_rfl)) ResAll.nil)) (by kernel_rfl) (fun W hI => ⟨_, _, _, rfl, ⟨rfl, rfl, rfl⟩, (hI.less 0 rfl)⟩)
              · replace hc := ne_of_beq_false hc
                rw [if_neg hc] at h
                have hc13 := hc
                clear hc
                refine WP.seq ?_
                refine WP.seqP [2, 4, 22] (L' := [(2, .pointer (some ⟨b1, 0, none⟩)), (4, .int .i64 a0), (22, .bool (a0 == 7))]) (by kernel_rfl) ?_
                refine WP.cond (b := (a0 == 7)) (by kernel_rfl) (fun hc => ?_) (fun hc => ?_)
                · replace hc := eq_of_beq hc
                  rw [if_pos hc] at h
                  have hc14 := hc
                  clear hc
                  refine WP.skip ?_
                  refine QP.next ?_
                  refine WP.pick [2, 22] ?_
                  refine WP.cond (b := (a0 == 7)) (by kernel_rfl) (fun hc => ?_) (fun hc => ?_)
                  · replace hc := eq_of_beq hc
                    rw [if_pos hc] at h
                    have hc15 := hc
                    clear hc
                    refine WP.seqR ?_
                    refine WL.pure 0 1 [2, 25] (L' := [(2, .pointer (some ⟨b1, 0, none⟩)), (25, .agg #[.int .i64 0, .int .i64 0, .int .i64 2, .int .i64 1048576, .int .i64 0])]) (by kernel_rfl) (by decide) ?_
                    refine WL.op (op := .store 83 (.tmp 2) (.tmp 25)) (ty := 0) (d := none) (g := none) (by kernel_rfl) (by kernel_rfl) (by kernel_rfl) (Does.store_box (i := 0) (b := b1) (o := 0) (v := .agg #[.int .i64 0, .int .i64 0, .int .i64 2, .int .i64 1048576, .int .i64 0]) (by rfl) sz83 (by kernel_rfl) (by kernel_rfl) (by kernel_rfl) (Free.zero _) (Nat.le_of_ble_eq_true rfl) (cells' := #[.int .i64 0, .int .i64 0, .int .i64 2, .int .i64 1048576, .int .i64 0]) (by kernel_rfl)) ?_
                    rintro _ _ _ ⟨rfl, rfl, rfl⟩
                    refine WL.restQ 2 [2, 3] (L' := [(2, .pointer (some ⟨b1, 0, none⟩)), (3, .bool true)]) (by kernel_rfl) ?_
                    refine WP.ret ?_
                    refine QP.blockR ?_
                    refine QP.thenR ?_
                    obtain rfl := Option.some.inj h
                    exact QP.returnedM (rs := [.cell 2 83, .tmp 3]) (by kernel_rfl) (ResAll.cons (Res1.box (p := 2) (i := 0) (o := 0) (agg := true) (by rfl) ag83 (by kernel_rfl) (fun h => by cases h) (Nat.le_of_ble_eq_true rfl) (v := .agg #[.int .i64 0, .int .i64 0, .int .i64 2, .int .i64 1048576, .int .i64 0]) (by kernel_rfl)) (ResAll.cons (Res1.tmp (t := 3) (v := .bool true) (by kernel_rfl)) ResAll.nil)) (by kernel_rfl) (fun W hI => ⟨_, _, _, rfl, ⟨rfl, rfl, rfl⟩, (hI.less 0 rfl)⟩)
                  · replace hc := ne_of_beq_false hc
                    rw [if_neg hc] at h
                    have hc15 := hc
                    clear hc
                    refine WP.skip ?_
                    refine QP.blockN ?_
                    refine QP.next ?_
                    refine WP.pick [2] ?_
                    refine WP.seqR ?_
                    refine WL.pure 0 1 [2, 26] (L' := [(2, .pointer (some ⟨b1, 0, none⟩)), (26, .agg #[.int .i64 0, .int .i64 0, .int .i64 0, .int .i64 0, .int .i64 0])]) (by kernel_rfl) (by decide) ?_
                    refine WL.op (op := .store 83 (.tmp 2) (.tmp 26)) (ty := 0) (d := none) (g := none) (by kernel_rfl) (by kernel_rfl) (by kernel_rfl) (Does.store_box (i := 0) (b := b1) (o := 0) (v := .agg #[.int .i64 0, .int .i64 0, .int .i64 0, .int .i64 0, .int .i64 0]) (by rfl) sz83 (by kernel_rfl) (by kernel_rfl) (by kernel_rfl) (Free.zero _) (Nat.le_of_ble_eq_true rfl) (cells' := #[.int .i64 0, .int .i64 0, .int .i64 0, .int .i64 0, .int .i64 0]) (by kernel_rfl)) ?_
                    rintro _ _ _ ⟨rfl, rfl, rfl⟩
                    refine WL.restQ 2 [2, 3] (L' := [(2, .pointer (some ⟨b1, 0, none⟩)), (3, .bool false)]) (by kernel_rfl) ?_
                    refine WP.ret ?_
                    obtain rfl := Option.some.inj h
                    exact QP.returnedM (rs := [.cell 2 83, .tmp 3]) (by kernel_rfl) (ResAll.cons (Res1.box (p := 2) (i := 0) (o := 0) (agg := true) (by rfl) ag83 (by kernel_rfl) (fun h => by cases h) (Nat.le_of_ble_eq_true rfl) (v := .agg #[.int .i64 0, .int .i64 0, .int .i64 0, .int .i64 0, .int .i64 0]) (by kernel_rfl)) (ResAll.cons (Res1.tmp (t := 3) (v := .bool false) (by kernel_rfl)) ResAll.nil)) (by kernel_rfl) (fun W hI => ⟨_, _, _, rfl, ⟨rfl, rfl, rfl⟩, (hI.less 0 rfl)⟩)
                · replace hc := ne_of_beq_false hc
                  rw [if_neg hc] at h
                  have hc14 := hc
                  clear hc
                  refine WP.regionP [2, 22] (L' := [(2, .pointer (some ⟨b1, 0, none⟩)), (22, .bool (a0 == 8))]) (by kernel_rfl) ?_
                  refine QP.next ?_
                  refine WP.pick [2, 22] ?_
                  refine WP.cond (b := (a0 == 8)) (by kernel_rfl) (fun hc => ?_) (fun hc => ?_)
                  · replace hc := eq_of_beq hc
                    rw [if_pos hc] at h
                    have hc16 := hc
                    clear hc
                    refine WP.seqR ?_
                    refine WL.pure 0 1 [2, 25] (L' := [(2, .pointer (some ⟨b1, 0, none⟩)), (25, .agg #[.int .i64 0, .int .i64 0, .int .i64 2, .int .i64 1048576, .int .i64 0])]) (by kernel_rfl) (by decide) ?_
                    refine WL.op (op := .store 83 (.tmp 2) (.tmp 25)) (ty := 0) (d := none) (g := none) (by kernel_rfl) (by kernel_rfl) (by kernel_rfl) (Does.store_box (i := 0) (b := b1) (o := 0) (v := .agg #[.int .i64 0, .int .i64 0, .int .i64 2, .int .i64 1048576, .int .i64 0]) (by rfl) sz83 (by kernel_rfl) (by kernel_rfl) (by kernel_rfl) (Free.zero _) (Nat.le_of_ble_eq_true rfl) (cells' := #[.int .i64 0, .int .i64 0, .int .i64 2, .int .i64 1048576, .int .i64 0]) (by kernel_rfl)) ?_
                    rintro _ _ _ ⟨rfl, rfl, rfl⟩
                    refine WL.restQ 2 [2, 3] (L' := [(2, .pointer (some ⟨b1, 0, none⟩)), (3, .bool true)]) (by kernel_rfl) ?_
                    refine WP.ret ?_
                    refine QP.blockR ?_
                    refine QP.thenR ?_
                    obtain rfl := Option.some.inj h
                    exact QP.returnedM (rs := [.cell 2 83, .tmp 3]) (by kernel_rfl) (ResAll.cons (Res1.box (p := 2) (i := 0) (o := 0) (agg := true) (by rfl) ag83 (by kernel_rfl) (fun h => by cases h) (Nat.le_of_ble_eq_true rfl) (v := .agg #[.int .i64 0, .int .i64 0, .int .i64 2, .int .i64 1048576, .int .i64 0]) (by kernel_rfl)) (ResAll.cons (Res1.tmp (t := 3) (v := .bool true) (by kernel_rfl)) ResAll.nil)) (by kernel_rfl) (fun W hI => ⟨_, _, _, rfl, ⟨rfl, rfl, rfl⟩, (hI.less 0 rfl)⟩)
                  · replace hc := ne_of_beq_false hc
                    rw [if_neg hc] at h
                    have hc16 := hc
                    clear hc
                    refine WP.skip ?_
                    refine QP.blockN ?_
                    refine QP.next ?_
                    refine WP.pick [2] ?_
                    refine WP.seqR ?_
                    refine WL.pure 0 1 [2, 26] (L' := [(2, .pointer (some ⟨b1, 0, none⟩)), (26, .agg #[.int .i64 0, .int .i64 0, .int .i64 0, .int .i64 0, .int .i64 0])]) (by kernel_rfl) (by decide) ?_
                    refine WL.op (op := .store 83 (.tmp 2) (.tmp 26)) (ty := 0) (d := none) (g := none) (by kernel_rfl) (by kernel_rfl) (by kernel_rfl) (Does.store_box (i := 0) (b := b1) (o := 0) (v := .agg #[.int .i64 0, .int .i64 0, .int .i64 0, .int .i64 0, .int .i64 0]) (by rfl) sz83 (by kernel_rfl) (by kernel_rfl) (by kernel_rfl) (Free.zero _) (Nat.le_of_ble_eq_true rfl) (cells' := #[.int .i64 0, .int .i64 0, .int .i64 0, .int .i64 0, .int .i64 0]) (by kernel_rfl)) ?_
                    rintro _ _ _ ⟨rfl, rfl, rfl⟩
                    refine WL.restQ 2 [2, 3] (L' := [(2, .pointer (some ⟨b1, 0, none⟩)), (3, .bool false)]) (by kernel_rfl) ?_
                    refine WP.ret ?_
                    obtain rfl := Option.some.inj h
                    exact QP.returnedM (rs := [.cell 2 83, .tmp 3]) (by kernel_rfl) (ResAll.cons (Res1.box (p := 2) (i := 0) (o := 0) (agg := true) (by rfl) ag83 (by kernel_rfl) (fun h => by cases h) (Nat.le_of_ble_eq_true rfl) (v := .agg #[.int .i64 0, .int .i64 0, .int .i64 0, .int .i64 0, .int .i64 0]) (by kernel_rfl)) (ResAll.cons (Res1.tmp (t := 3) (v := .bool false) (by kernel_rfl)) ResAll.nil)) (by kernel_rfl) (fun W hI => ⟨_, _, _, rfl, ⟨rfl, rfl, rfl⟩, (hI.less 0 rfl)⟩)
  · replace hc := ne_of_beq_false hc
    rw [if_neg hc] at h
    have hc2 := hc
    clear hc
    refine WP.regionP [2, 4, 5] (L' := [(2, .pointer (some ⟨b1, 0, none⟩)), (4, .int .i64 a0), (5, .bool (a0 == 2))]) (by kernel_rfl) ?_
    refine QP.next ?_
    refine WP.pick [2, 4, 5] ?_
    refine WP.cond (b := (a0 == 2)) (by kernel_rfl) (fun hc => ?_) (fun hc => ?_)
    · replace hc := eq_of_beq hc
      rw [if_pos hc] at h
      have hc17 := hc
      clear hc
      refine WP.seqR ?_
      refine WL.pure 0 1 [2, 8] (L' := [(2, .pointer (some ⟨b1, 0, none⟩)), (8, .agg #[.int .i64 1, .int .i64 1, .int .i64 0, .int .i64 0, .int .i64 0])]) (by kernel_rfl) (by decide) ?_
      refine WL.op (op := .store 83 (.tmp 2) (.tmp 8)) (ty := 0) (d := none) (g := none) (by kernel_rfl) (by kernel_rfl) (by kernel_rfl) (Does.store_box (i := 0) (b := b1) (o := 0) (v := .agg #[.int .i64 1, .int .i64 1, .int .i64 0, .int .i64 0, .int .i64 0]) (by rfl) sz83 (by kernel_rfl) (by kernel_rfl) (by kernel_rfl) (Free.zero _) (Nat.le_of_ble_eq_true rfl) (cells' := #[.int .i64 1, .int .i64 1, .int .i64 0, .int .i64 0, .int .i64 0]) (by kernel_rfl)) ?_
      rintro _ _ _ ⟨rfl, rfl, rfl⟩
      refine WL.restQ 2 [2, 3] (L' := [(2, .pointer (some ⟨b1, 0, none⟩)), (3, .bool true)]) (by kernel_rfl) ?_
      refine WP.ret ?_
      refine QP.blockR ?_
      refine QP.thenR ?_
      obtain rfl := Option.some.inj h
      exact QP.returnedM (rs := [.cell 2 83, .tmp 3]) (by kernel_rfl) (ResAll.cons (Res1.box (p := 2) (i := 0) (o := 0) (agg := true) (by rfl) ag83 (by kernel_rfl) (fun h => by cases h) (Nat.le_of_ble_eq_true rfl) (v := .agg #[.int .i64 1, .int .i64 1, .int .i64 0, .int .i64 0, .int .i64 0]) (by kernel_rfl)) (ResAll.cons (Res1.tmp (t := 3) (v := .bool true) (by kernel_rfl)) ResAll.nil)) (by kernel_rfl) (fun W hI => ⟨_, _, _, rfl, ⟨rfl, rfl, rfl⟩, (hI.less 0 rfl)⟩)
    · replace hc := ne_of_beq_false hc
      rw [if_neg hc] at h
      have hc17 := hc
      clear hc
      refine WP.seqP [2, 4, 9] (L' := [(2, .pointer (some ⟨b1, 0, none⟩)), (4, .int .i64 a0), (9, .bool (a0 == 3))]) (by kernel_rfl) ?_
      refine WP.cond (b := (a0 == 3)) (by kernel_rfl) (fun hc => ?_) (fun hc => ?_)
      · replace hc := eq_of_beq hc
        rw [if_pos hc] at h
        have hc18 := hc
        clear hc
        refine WP.seqR ?_
        refine WL.pure 0 1 [2, 11] (L' := [(2, .pointer (some ⟨b1, 0, none⟩)), (11, .agg #[.int .i64 1, .int .i64 16, .int .i64 0, .int .i64 0, .int .i64 0])]) (by kernel_rfl) (by decide) ?_
        refine WL.op (op := .store 83 (.tmp 2) (.tmp 11)) (ty := 0) (d := none) (g := none) (by kernel_rfl) (by kernel_rfl) (by kernel_rfl) (Does.store_box (i := 0) (b := b1) (o := 0) (v := .agg #[.int .i64 1, .int .i64 16, .int .i64 0, .int .i64 0, .int .i64 0]) (by rfl) sz83 (by kernel_rfl) (by kernel_rfl) (by kernel_rfl) (Free.zero _) (Nat.le_of_ble_eq_true rfl) (cells' := #[.int .i64 1, .int .i64 16, .int .i64 0, .int .i64 0, .int .i64 0]) (by kernel_rfl)) ?_
        rintro _ _ _ ⟨rfl, rfl, rfl⟩
        refine WL.restQ 2 [2, 3] (L' := [(2, .pointer (some ⟨b1, 0, none⟩)), (3, .bool true)]) (by kernel_rfl) ?_
        refine WP.ret ?_
        refine QP.blockR ?_
        refine QP.thenR ?_
        obtain rfl := Option.some.inj h
        exact QP.returnedM (rs := [.cell 2 83, .tmp 3]) (by kernel_rfl) (ResAll.cons (Res1.box (p := 2) (i := 0) (o := 0) (agg := true) (by rfl) ag83 (by kernel_rfl) (fun h => by cases h) (Nat.le_of_ble_eq_true rfl) (v := .agg #[.int .i64 1, .int .i64 16, .int .i64 0, .int .i64 0, .int .i64 0]) (by kernel_rfl)) (ResAll.cons (Res1.tmp (t := 3) (v := .bool true) (by kernel_rfl)) ResAll.nil)) (by kernel_rfl) (fun W hI => ⟨_, _, _, rfl, ⟨rfl, rfl, rfl⟩, (hI.less 0 rfl)⟩)
      · replace hc := ne_of_beq_false hc
        rw [if_neg hc] at h
        have hc18 := hc
        clear hc
        refine WP.seqP [2, 4, 12] (L' := [(2, .pointer (some ⟨b1, 0, none⟩)), (4, .int .i64 a0), (12, .bool (a0 == 4))]) (by kernel_rfl) ?_
        refine WP.cond (b := (a0 == 4)) (by kernel_rfl) (fun hc => ?_) (fun hc => ?_)
        · replace hc := eq_of_beq hc
          rw [if_pos hc] at h
          have hc19 := hc
          clear hc
          refine WP.seqR ?_
          refine WL.pure 0 1 [2, 14] (L' := [(2, .pointer (some ⟨b1, 0, none⟩)), (14, .agg #[.int .i64 0, .int .i64 0, .int .i64 0, .int .i64 0, .int .i64 7])]) (by kernel_rfl) (by decide) ?_
          refine WL.op (op := .store 83 (.tmp 2) (.tmp 14)) (ty := 0) (d := none) (g := none) (by kernel_rfl) (by kernel_rfl) (by kernel_rfl) (Does.store_box (i := 0) (b := b1) (o := 0) (v := .agg #[.int .i64 0, .int .i64 0, .int .i64 0, .int .i64 0, .int .i64 7]) (by rfl) sz83 (by kernel_rfl) (by kernel_rfl) (by kernel_rfl) (Free.zero _) (Nat.le_of_ble_eq_true rfl) (cells' := #[.int .i64 0, .int .i64 0, .int .i64 0, .int .i64 0, .int .i64 7]) (by kernel_rfl)) ?_
          rintro _ _ _ ⟨rfl, rfl, rfl⟩
          refine WL.restQ 2 [2, 3] (L' := [(2, .pointer (some ⟨b1, 0, none⟩)), (3, .bool true)]) (by kernel_rfl) ?_
          refine WP.ret ?_
          refine QP.blockR ?_
          refine QP.thenR ?_
          obtain rfl := Option.some.inj h
          exact QP.returnedM (rs := [.cell 2 83, .tmp 3]) (by kernel_rfl) (ResAll.cons (Res1.box (p := 2) (i := 0) (o := 0) (agg := true) (by rfl) ag83 (by kernel_rfl) (fun h => by cases h) (Nat.le_of_ble_eq_true rfl) (v := .agg #[.int .i64 0, .int .i64 0, .int .i64 0, .int .i64 0, .int .i64 7]) (by kernel_rfl)) (ResAll.cons (Res1.tmp (t := 3) (v := .bool true) (by kernel_rfl)) ResAll.nil)) (by kernel_rfl) (fun W hI => ⟨_, _, _, rfl, ⟨rfl, rfl, rfl⟩, (hI.less 0 rfl)⟩)
        · replace hc := ne_of_beq_false hc
          rw [if_neg hc] at h
          have hc19 := hc
          clear hc
          refine WP.seq ?_
          refine WP.seqP [2, 4, 15] (L' := [(2, .pointer (some ⟨b1, 0, none⟩)), (4, .int .i64 a0), (15, .bool (a0 == 5))]) (by kernel_rfl) ?_
          refine WP.cond (b := (a0 == 5)) (by kernel_rfl) (fun hc => ?_) (fun hc => ?_)
          · replace hc := eq_of_beq hc
            rw [if_pos hc] at h
            have hc20 := hc
            clear hc
            refine WP.skip ?_
            refine QP.next ?_
            refine WP.pick [2, 4, 15] ?_
            refine WP.cond (b := (a0 == 5)) (by kernel_rfl) (fun hc => ?_) (fun hc => ?_)
            · replace hc := eq_of_beq hc
              rw [if_pos hc] at h
              have hc21 := hc
              clear hc
              refine WP.seqR ?_
              refine WL.pure 0 1 [2, 18] (L' := [(2, .pointer (some ⟨b1, 0, none⟩)), (18, .agg #[.int .i64 0, .int .i64 0, .int .i64 0, .int .i64 0, .int .i64 1099511627776])]) (by kernel_rfl) (by decide) ?_
              refine WL.op (op := .store 83 (.tmp 2) (.tmp 18)) (ty := 0) (d := none) (g := none) (by kernel_rfl) (by kernel_rfl) (by kernel_rfl) (Does.store_box (i := 0) (b := b1) (o := 0) (v := .agg #[.int .i64 0, .int .i64 0, .int .i64 0, .int .i64 0, .int .i64 1099511627776]) (by rfl) sz83 (by kernel_rfl) (by kernel_rfl) (by kernel_rfl) (Free.zero _) (Nat.le_of_ble_eq_true rfl) (cells' := #[.int .i64 0, .int .i64 0, .int .i64 0, .int .i64 0, .int .i64 1099511627776]) (by kernel_rfl)) ?_
              rintro _ _ _ ⟨rfl, rfl, rfl⟩
              refine WL.restQ 2 [2, 3] (L' := [(2, .pointer (some ⟨b1, 0, none⟩)), (3, .bool true)]) (by kernel_rfl) ?_
              refine WP.ret ?_
              refine QP.blockR ?_
              refine QP.thenR ?_
              obtain rfl := Option.some.inj h
              exact QP.returnedM (rs := [.cell 2 83, .tmp 3]) (by kernel_rfl) (ResAll.cons (Res1.box (p := 2) (i := 0) (o := 0) (agg := true) (by rfl) ag83 (by kernel_rfl) (fun h => by cases h) (Nat.le_of_ble_eq_true rfl) (v := .agg #[.int .i64 0, .int .i64 0, .int .i64 0, .int .i64 0, .int .i64 1099511627776]) (by kernel_rfl)) (ResAll.cons (Res1.tmp (t := 3) (v := .bool true) (by kernel_rfl)) ResAll.nil)) (by kernel_rfl) (fun W hI => ⟨_, _, _, rfl, ⟨rfl, rfl, rfl⟩, (hI.less 0 rfl)⟩)
            · replace hc := ne_of_beq_false hc
              rw [if_neg hc] at h
              have hc21 := hc
              clear hc
              refine WP.seqP [2, 4, 19] (L' := [(2, .pointer (some ⟨b1, 0, none⟩)), (4, .int .i64 a0), (19, .bool (a0 == 9))]) (by kernel_rfl) ?_
              refine WP.cond (b := (a0 == 9)) (by kernel_rfl) (fun hc => ?_) (fun hc => ?_)
              · replace hc := eq_of_beq hc
                rw [if_pos hc] at h
                have hc22 := hc
                clear hc
                refine WP.seqR ?_
                refine WL.pure 0 1 [2, 21] (L' := [(2, .pointer (some ⟨b1, 0, none⟩)), (21, .agg #[.int .i64 0, .int .i64 0, .int .i64 1, .int .i64 1, .int .i64 0])]) (by kernel_rfl) (by decide) ?_
                refine WL.op (op := .store 83 (.tmp 2) (.tmp 21)) (ty := 0) (d := none) (g := none) (by kernel_rfl) (by kernel_rfl) (by kernel_rfl) (Does.store_box (i := 0) (b := b1) (o := 0) (v := .agg #[.int .i64 0, .int .i64 0, .int .i64 1, .int .i64 1, .int .i64 0]) (by rfl) sz83 (by kernel_rfl) (by kernel_rfl) (by kernel_rfl) (Free.zero _) (Nat.le_of_ble_eq_true rfl) (cells' := #[.int .i64 0, .int .i64 0, .int .i64 1, .int .i64 1, .int .i64 0]) (by kernel_rfl)) ?_
                rintro _ _ _ ⟨rfl, rfl, rfl⟩
                refine WL.restQ 2 [2, 3] (L' := [(2, .pointer (some ⟨b1, 0, none⟩)), (3, .bool true)]) (by kernel_rfl) ?_
                refine WP.ret ?_
                refine QP.blockR ?_
                refine QP.thenR ?_
                obtain rfl := Option.some.inj h
                exact QP.returnedM (rs := [.cell 2 83, .tmp 3]) (by kernel_rfl) (ResAll.cons (Res1.box (p := 2) (i := 0) (o := 0) (agg := true) (by rfl) ag83 (by kernel_rfl) (fun h => by cases h) (Nat.le_of_ble_eq_true rfl) (v := .agg #[.int .i64 0, .int .i64 0, .int .i64 1, .int .i64 1, .int .i64 0]) (by kernel_rfl)) (ResAll.cons (Res1.tmp (t := 3) (v := .bool true) (by kernel_rfl)) ResAll.nil)) (by kernel_rfl) (fun W hI => ⟨_, _, _, rfl, ⟨rfl, rfl, rfl⟩, (hI.less 0 rfl)⟩)
              · replace hc := ne_of_beq_false hc
                rw [if_neg hc] at h
                have hc22 := hc
                clear hc
                refine WP.seq ?_
                refine WP.seqP [2, 4, 22] (L' := [(2, .pointer (some ⟨b1, 0, none⟩)), (4, .int .i64 a0), (22, .bool (a0 == 7))]) (by kernel_rfl) ?_
                refine WP.cond (b := (a0 == 7)) (by kernel_rfl) (fun hc => ?_) (fun hc => ?_)
                · replace hc := eq_of_beq hc
                  rw [if_pos hc] at h
                  have hc23 := hc
                  clear hc
                  refine WP.skip ?_
                  refine QP.next ?_
                  refine WP.pick [2, 22] ?_
                  refine WP.cond (b := (a0 == 7)) (by kernel_rfl) (fun hc => ?_) (fun hc => ?_)
                  · replace hc := eq_of_beq hc
                    rw [if_pos hc] at h
                    have hc24 := hc
                    clear hc
                    refine WP.seqR ?_
                    refine WL.pure 0 1 [2, 25] (L' := [(2, .pointer (some ⟨b1, 0, none⟩)), (25, .agg #[.int .i64 0, .int .i64 0, .int .i64 2, .int .i64 1048576, .int .i64 0])]) (by kernel_rfl) (by decide) ?_
                    refine WL.op (op := .store 83 (.tmp 2) (.tmp 25)) (ty := 0) (d := none) (g := none) (by kernel_rfl) (by kernel_rfl) (by kernel_rfl) (Does.store_box (i := 0) (b := b1) (o := 0) (v := .agg #[.int .i64 0, .int .i64 0, .int .i64 2, .int .i64 1048576, .int .i64 0]) (by rfl) sz83 (by kernel_rfl) (by kernel_rfl) (by kernel_rfl) (Free.zero _) (Nat.le_of_ble_eq_true rfl) (cells' := #[.int .i64 0, .int .i64 0, .int .i64 2, .int .i64 1048576, .int .i64 0]) (by kernel_rfl)) ?_
                    rintro _ _ _ ⟨rfl, rfl, rfl⟩
                    refine WL.restQ 2 [2, 3] (L' := [(2, .pointer (some ⟨b1, 0, none⟩)), (3, .bool true)]) (by kernel_rfl) ?_
                    refine WP.ret ?_
                    refine QP.blockR ?_
                    refine QP.thenR ?_
                    obtain rfl := Option.some.inj h
                    exact QP.returnedM (rs := [.cell 2 83, .tmp 3]) (by kernel_rfl) (ResAll.cons (Res1.box (p := 2) (i := 0) (o := 0) (agg := true) (by rfl) ag83 (by kernel_rfl) (fun h => by cases h) (Nat.le_of_ble_eq_true rfl) (v := .agg #[.int .i64 0, .int .i64 0, .int .i64 2, .int .i64 1048576, .int .i64 0]) (by kernel_rfl)) (ResAll.cons (Res1.tmp (t := 3) (v := .bool true) (by kernel_rfl)) ResAll.nil)) (by kernel_rfl) (fun W hI => ⟨_, _, _, rfl, ⟨rfl, rfl, rfl⟩, (hI.less 0 rfl)⟩)
                  · replace hc := ne_of_beq_false hc
                    rw [if_neg hc] at h
                    have hc24 := hc
                    clear hc
                    refine WP.skip ?_
                    refine QP.blockN ?_
                    refine QP.next ?_
                    refine WP.pick [2] ?_
                    refine WP.seqR ?_
                    refine WL.pure 0 1 [2, 26] (L' := [(2, .pointer (some ⟨b1, 0, none⟩)), (26, .agg #[.int .i64 0, .int .i64 0, .int .i64 0, .int .i64 0, .int .i64 0])]) (by kernel_rfl) (by decide) ?_
                    refine WL.op (op := .store 83 (.tmp 2) (.tmp 26)) (ty := 0) (d := none) (g := none) (by kernel_rfl) (by kernel_rfl) (by kernel_rfl) (Does.store_box (i := 0) (b := b1) (o := 0) (v := .agg #[.int .i64 0, .int .i64 0, .int .i64 0, .int .i64 0, .int .i64 0]) (by rfl) sz83 (by kernel_rfl) (by kernel_rfl) (by kernel_rfl) (Free.zero _) (Nat.le_of_ble_eq_true rfl) (cells' := #[.int .i64 0, .int .i64 0, .int .i64 0, .int .i64 0, .int .i64 0]) (by kernel_rfl)) ?_
                    rintro _ _ _ ⟨rfl, rfl, rfl⟩
                    refine WL.restQ 2 [2, 3] (L' := [(2, .pointer (some ⟨b1, 0, none⟩)), (3, .bool false)]) (by kernel_rfl) ?_
                    refine WP.ret ?_
                    obtain rfl := Option.some.inj h
                    exact QP.returnedM (rs := [.cell 2 83, .tmp 3]) (by kernel_rfl) (ResAll.cons (Res1.box (p := 2) (i := 0) (o := 0) (agg := true) (by rfl) ag83 (by kernel_rfl) (fun h => by cases h) (Nat.le_of_ble_eq_true rfl) (v := .agg #[.int .i64 0, .int .i64 0, .int .i64 0, .int .i64 0, .int .i64 0]) (by kernel_rfl)) (ResAll.cons (Res1.tmp (t := 3) (v := .bool false) (by kernel_rfl)) ResAll.nil)) (by kernel_rfl) (fun W hI => ⟨_, _, _, rfl, ⟨rfl, rfl, rfl⟩, (hI.less 0 rfl)⟩)
                · replace hc := ne_of_beq_false hc
                  rw [if_neg hc] at h
                  have hc23 := hc
                  clear hc
                  refine WP.regionP [2, 22] (L' := [(2, .pointer (some ⟨b1, 0, none⟩)), (22, .bool (a0 == 8))]) (by kernel_rfl) ?_
                  refine QP.next ?_
                  refine WP.pick [2, 22] ?_
                  refine WP.cond (b := (a0 == 8)) (by kernel_rfl) (fun hc => ?_) (fun hc => ?_)
                  · replace hc := eq_of_beq hc
                    rw [if_pos hc] at h
                    have hc25 := hc
                    clear hc
                    refine WP.seqR ?_
                    refine WL.pure 0 1 [2, 25] (L' := [(2, .pointer (some ⟨b1, 0, none⟩)), (25, .agg #[.int .i64 0, .int .i64 0, .int .i64 2, .int .i64 1048576, .int .i64 0])]) (by kernel_rfl) (by decide) ?_
                    refine WL.op (op := .store 83 (.tmp 2) (.tmp 25)) (ty := 0) (d := none) (g := none) (by kernel_rfl) (by kernel_rfl) (by kernel_rfl) (Does.store_box (i := 0) (b := b1) (o := 0) (v := .agg #[.int .i64 0, .int .i64 0, .int .i64 2, .int .i64 1048576, .int .i64 0]) (by rfl) sz83 (by kernel_rfl) (by kernel_rfl) (by kernel_rfl) (Free.zero _) (Nat.le_of_ble_eq_true rfl) (cells' := #[.int .i64 0, .int .i64 0, .int .i64 2, .int .i64 1048576, .int .i64 0]) (by kernel_rfl)) ?_
                    rintro _ _ _ ⟨rfl, rfl, rfl⟩
                    refine WL.restQ 2 [2, 3] (L' := [(2, .pointer (some ⟨b1, 0, none⟩)), (3, .bool true)]) (by kernel_rfl) ?_
                    refine WP.ret ?_
                    refine QP.blockR ?_
                    refine QP.thenR ?_
                    obtain rfl := Option.some.inj h
                    exact QP.returnedM (rs := [.cell 2 83, .tmp 3]) (by kernel_rfl) (ResAll.cons (Res1.box (p := 2) (i := 0) (o := 0) (agg := true) (by rfl) ag83 (by kernel_rfl) (fun h => by cases h) (Nat.le_of_ble_eq_true rfl) (v := .agg #[.int .i64 0, .int .i64 0, .int .i64 2, .int .i64 1048576, .int .i64 0]) (by kernel_rfl)) (ResAll.cons (Res1.tmp (t := 3) (v := .bool true) (by kernel_rfl)) ResAll.nil)) (by kernel_rfl) (fun W hI => ⟨_, _, _, rfl, ⟨rfl, rfl, rfl⟩, (hI.less 0 rfl)⟩)
                  · replace hc := ne_of_beq_false hc
                    rw [if_neg hc] at h
                    have hc25 := hc
                    clear hc
                    refine WP.skip ?_
                    refine QP.blockN ?_
                    refine QP.next ?_
                    refine WP.pick [2] ?_
                    refine WP.seqR ?_
                    refine WL.pure 0 1 [2, 26] (L' := [(2, .pointer (some ⟨b1, 0, none⟩)), (26, .agg #[.int .i64 0, .int .i64 0, .int .i64 0, .int .i64 0, .int .i64 0])]) (by kernel_rfl) (by decide) ?_
                    refine WL.op (op := .store 83 (.tmp 2) (.tmp 26)) (ty := 0) (d := none) (g := none) (by kernel_rfl) (by kernel_rfl) (by kernel_rfl) (Does.store_box (i := 0) (b := b1) (o := 0) (v := .agg #[.int .i64 0, .int .i64 0, .int .i64 0, .int .i64 0, .int .i64 0]) (by rfl) sz83 (by kernel_rfl) (by kernel_rfl) (by kernel_rfl) (Free.zero _) (Nat.le_of_ble_eq_true rfl) (cells' := #[.int .i64 0, .int .i64 0, .int .i64 0, .int .i64 0, .int .i64 0]) (by kernel_rfl)) ?_
                    rintro _ _ _ ⟨rfl, rfl, rfl⟩
                    refine WL.restQ 2 [2, 3] (L' := [(2, .pointer (some ⟨b1, 0, none⟩)), (3, .bool false)]) (by kernel_rfl) ?_
                    refine WP.ret ?_
                    obtain rfl := Option.some.inj h
                    exact QP.returnedM (rs := [.cell 2 83, .tmp 3]) (by kernel_rfl) (ResAll.cons (Res1.box (p := 2) (i := 0) (o := 0) (agg := true) (by rfl) ag83 (by kernel_rfl) (fun h => by cases h) (Nat.le_of_ble_eq_true rfl) (v := .agg #[.int .i64 0, .int .i64 0, .int .i64 0, .int .i64 0, .int .i64 0]) (by kernel_rfl)) (ResAll.cons (Res1.tmp (t := 3) (v := .bool false) (by kernel_rfl)) ResAll.nil)) (by kernel_rfl) (fun W hI => ⟨_, _, _, rfl, ⟨rfl, rfl, rfl⟩, (hI.less 0 rfl)⟩)
          · replace hc := ne_of_beq_false hc
            rw [if_neg hc] at h
            have hc20 := hc
            clear hc
            refine WP.regionP [2, 4, 15] (L' := [(2, .pointer (some ⟨b1, 0, none⟩)), (4, .int .i64 a0), (15, .bool (a0 == 6))]) (by kernel_rfl) ?_
            refine QP.next ?_
            refine WP.pick [2, 4, 15] ?_
            refine WP.cond (b := (a0 == 6)) (by kernel_rfl) (fun hc => ?_) (fun hc => ?_)
            · replace hc := eq_of_beq hc
              rw [if_pos hc] at h
              have hc26 := hc
              clear hc
              refine WP.seqR ?_
              refine WL.pure 0 1 [2, 18] (L' := [(2, .pointer (some ⟨b1, 0, none⟩)), (18, .agg #[.int .i64 0, .int .i64 0, .int .i64 0, .int .i64 0, .int .i64 1099511627776])]) (by kernel_rfl) (by decide) ?_
              refine WL.op (op := .store 83 (.tmp 2) (.tmp 18)) (ty := 0) (d := none) (g := none) (by kernel_rfl) (by kernel_rfl) (by kernel_rfl) (Does.store_box (i := 0) (b := b1) (o := 0) (v := .agg #[.int .i64 0, .int .i64 0, .int .i64 0, .int .i64 0, .int .i64 1099511627776]) (by rfl) sz83 (by kernel_rfl) (by kernel_rfl) (by kernel_rfl) (Free.zero _) (Nat.le_of_ble_eq_true rfl) (cells' := #[.int .i64 0, .int .i64 0, .int .i64 0, .int .i64 0, .int .i64 1099511627776]) (by kernel_rfl)) ?_
              rintro _ _ _ ⟨rfl, rfl, rfl⟩
              refine WL.restQ 2 [2, 3] (L' := [(2, .pointer (some ⟨b1, 0, none⟩)), (3, .bool true)]) (by kernel_rfl) ?_
              refine WP.ret ?_
              refine QP.blockR ?_
              refine QP.thenR ?_
              obtain rfl := Option.some.inj h
              exact QP.returnedM (rs := [.cell 2 83, .tmp 3]) (by kernel_rfl) (ResAll.cons (Res1.box (p := 2) (i := 0) (o := 0) (agg := true) (by rfl) ag83 (by kernel_rfl) (fun h => by cases h) (Nat.le_of_ble_eq_true rfl) (v := .agg #[.int .i64 0, .int .i64 0, .int .i64 0, .int .i64 0, .int .i64 1099511627776]) (by kernel_rfl)) (ResAll.cons (Res1.tmp (t := 3) (v := .bool true) (by kernel_rfl)) ResAll.nil)) (by kernel_rfl) (fun W hI => ⟨_, _, _, rfl, ⟨rfl, rfl, rfl⟩, (hI.less 0 rfl)⟩)
            · replace hc := ne_of_beq_false hc
              rw [if_neg hc] at h
              have hc26 := hc
              clear hc
              refine WP.seqP [2, 4, 19] (L' := [(2, .pointer (some ⟨b1, 0, none⟩)), (4, .int .i64 a0), (19, .bool (a0 == 9))]) (by kernel_rfl) ?_
              refine WP.cond (b := (a0 == 9)) (by kernel_rfl) (fun hc => ?_) (fun hc => ?_)
              · replace hc := eq_of_beq hc
                rw [if_pos hc] at h
                have hc27 := hc
                clear hc
                refine WP.seqR ?_
                refine WL.pure 0 1 [2, 21] (L' := [(2, .pointer (some ⟨b1, 0, none⟩)), (21, .agg #[.int .i64 0, .int .i64 0, .int .i64 1, .int .i64 1, .int .i64 0])]) (by kernel_rfl) (by decide) ?_
                refine WL.op (op := .store 83 (.tmp 2) (.tmp 21)) (ty := 0) (d := none) (g := none) (by kernel_rfl) (by kernel_rfl) (by kernel_rfl) (Does.store_box (i := 0) (b := b1) (o := 0) (v := .agg #[.int .i64 0, .int .i64 0, .int .i64 1, .int .i64 1, .int .i64 0]) (by rfl) sz83 (by kernel_rfl) (by kernel_rfl) (by kernel_rfl) (Free.zero _) (Nat.le_of_ble_eq_true rfl) (cells' := #[.int .i64 0, .int .i64 0, .int .i64 1, .int .i64 1, .int .i64 0]) (by kernel_rfl)) ?_
                rintro _ _ _ ⟨rfl, rfl, rfl⟩
                refine WL.restQ 2 [2, 3] (L' := [(2, .pointer (some ⟨b1, 0, none⟩)), (3, .bool true)]) (by kernel_rfl) ?_
                refine WP.ret ?_
                refine QP.blockR ?_
                refine QP.thenR ?_
                obtain rfl := Option.some.inj h
                exact QP.returnedM (rs := [.cell 2 83, .tmp 3]) (by kernel_rfl) (ResAll.cons (Res1.box (p := 2) (i := 0) (o := 0) (agg := true) (by rfl) ag83 (by kernel_rfl) (fun h => by cases h) (Nat.le_of_ble_eq_true rfl) (v := .agg #[.int .i64 0, .int .i64 0, .int .i64 1, .int .i64 1, .int .i64 0]) (by kernel_rfl)) (ResAll.cons (Res1.tmp (t := 3) (v := .bool true) (by kernel_rfl)) ResAll.nil)) (by kernel_rfl) (fun W hI => ⟨_, _, _, rfl, ⟨rfl, rfl, rfl⟩, (hI.less 0 rfl)⟩)
              · replace hc := ne_of_beq_false hc
                rw [if_neg hc] at h
                have hc27 := hc
                clear hc
                refine WP.seq ?_
                refine WP.seqP [2, 4, 22] (L' := [(2, .pointer (some ⟨b1, 0, none⟩)), (4, .int .i64 a0), (22, .bool (a0 == 7))]) (by kernel_rfl) ?_
                refine WP.cond (b := (a0 == 7)) (by kernel_rfl) (fun hc => ?_) (fun hc => ?_)
                · replace hc := eq_of_beq hc
                  rw [if_pos hc] at h
                  have hc28 := hc
                  clear hc
                  refine WP.skip ?_
                  refine QP.next ?_
                  refine WP.pick [2, 22] ?_
                  refine WP.cond (b := (a0 == 7)) (by kernel_rfl) (fun hc => ?_) (fun hc => ?_)
                  · replace hc := eq_of_beq hc
                    rw [if_pos hc] at h
                    have hc29 := hc
                    clear hc
                    refine WP.seqR ?_
                    refine WL.pure 0 1 [2, 25] (L' := [(2, .pointer (some ⟨b1, 0, none⟩)), (25, .agg #[.int .i64 0, .int .i64 0, .int .i64 2, .int .i64 1048576, .int .i64 0])]) (by kernel_rfl) (by decide) ?_
                    refine WL.op (op := .store 83 (.tmp 2) (.tmp 25)) (ty := 0) (d := none) (g := none) (by kernel_rfl) (by kernel_rfl) (by kernel_rfl) (Does.store_box (i := 0) (b := b1) (o := 0) (v := .agg #[.int .i64 0, .int .i64 0, .int .i64 2, .int .i64 1048576, .int .i64 0]) (by rfl) sz83 (by kernel_rfl) (by kernel_rfl) (by kernel_rfl) (Free.zero _) (Nat.le_of_ble_eq_true rfl) (cells' := #[.int .i64 0, .int .i64 0, .int .i64 2, .int .i64 1048576, .int .i64 0]) (by kernel_rfl)) ?_
                    rintro _ _ _ ⟨rfl, rfl, rfl⟩
                    refine WL.restQ 2 [2, 3] (L' := [(2, .pointer (some ⟨b1, 0, none⟩)), (3, .bool true)]) (by kernel_rfl) ?_
                    refine WP.ret ?_
                    refine QP.blockR ?_
                    refine QP.thenR ?_
                    obtain rfl := Option.some.inj h
                    exact QP.returnedM (rs := [.cell 2 83, .tmp 3]) (by kernel_rfl) (ResAll.cons (Res1.box (p := 2) (i := 0) (o := 0) (agg := true) (by rfl) ag83 (by kernel_rfl) (fun h => by cases h) (Nat.le_of_ble_eq_true rfl) (v := .agg #[.int .i64 0, .int .i64 0, .int .i64 2, .int .i64 1048576, .int .i64 0]) (by kernel_rfl)) (ResAll.cons (Res1.tmp (t := 3) (v := .bool true) (by kernel_rfl)) ResAll.nil)) (by kernel_rfl) (fun W hI => ⟨_, _, _, rfl, ⟨rfl, rfl, rfl⟩, (hI.less 0 rfl)⟩)
                  · replace hc := ne_of_beq_false hc
                    rw [if_neg hc] at h
                    have hc29 := hc
                    clear hc
                    refine WP.skip ?_
                    refine QP.blockN ?_
                    refine QP.next ?_
                    refine WP.pick [2] ?_
                    refine WP.seqR ?_
                    refine WL.pure 0 1 [2, 26] (L' := [(2, .pointer (some ⟨b1, 0, none⟩)), (26, .agg #[.int .i64 0, .int .i64 0, .int .i64 0, .int .i64 0, .int .i64 0])]) (by kernel_rfl) (by decide) ?_
                    refine WL.op (op := .store 83 (.tmp 2) (.tmp 26)) (ty := 0) (d := none) (g := none) (by kernel_rfl) (by kernel_rfl) (by kernel_rfl) (Does.store_box (i := 0) (b := b1) (o := 0) (v := .agg #[.int .i64 0, .int .i64 0, .int .i64 0, .int .i64 0, .int .i64 0]) (by rfl) sz83 (by kernel_rfl) (by kernel_rfl) (by kernel_rfl) (Free.zero _) (Nat.le_of_ble_eq_true rfl) (cells' := #[.int .i64 0, .int .i64 0, .int .i64 0, .int .i64 0, .int .i64 0]) (by kernel_rfl)) ?_
                    rintro _ _ _ ⟨rfl, rfl, rfl⟩
                    refine WL.restQ 2 [2, 3] (L' := [(2, .pointer (some ⟨b1, 0, none⟩)), (3, .bool false)]) (by kernel_rfl) ?_
                    refine WP.ret ?_
                    obtain rfl := Option.some.inj h
                    exact QP.returnedM (rs := [.cell 2 83, .tmp 3]) (by kernel_rfl) (ResAll.cons (Res1.box (p := 2) (i := 0) (o := 0) (agg := true) (by rfl) ag83 (by kernel_rfl) (fun h => by cases h) (Nat.le_of_ble_eq_true rfl) (v := .agg #[.int .i64 0, .int .i64 0, .int .i64 0, .int .i64 0, .int .i64 0]) (by kernel_rfl)) (ResAll.cons (Res1.tmp (t := 3) (v := .bool false) (by kernel_rfl)) ResAll.nil)) (by kernel_rfl) (fun W hI => ⟨_, _, _, rfl, ⟨rfl, rfl, rfl⟩, (hI.less 0 rfl)⟩)
                · replace hc := ne_of_beq_false hc
                  rw [if_neg hc] at h
                  have hc28 := hc
                  clear hc
                  refine WP.regionP [2, 22] (L' := [(2, .pointer (some ⟨b1, 0, none⟩)), (22, .bool (a0 == 8))]) (by kernel_rfl) ?_
                  refine QP.next ?_
                  refine WP.pick [2, 22] ?_
                  refine WP.cond (b := (a0 == 8)) (by kernel_rfl) (fun hc => ?_) (fun hc => ?_)
                  · replace hc := eq_of_beq hc
                    rw [if_pos hc] at h
                    have hc30 := hc
                    clear hc
                    refine WP.seqR ?_
                    refine WL.pure 0 1 [2, 25] (L' := [(2, .pointer (some ⟨b1, 0, none⟩)), (25, .agg #[.int .i64 0, .int .i64 0, .int .i64 2, .int .i64 1048576, .int .i64 0])]) (by kernel_rfl) (by decide) ?_
                    refine WL.op (op := .store 83 (.tmp 2) (.tmp 25)) (ty := 0) (d := none) (g := none) (by kernel_rfl) (by kernel_rfl) (by kernel_rfl) (Does.store_box (i := 0) (b := b1) (o := 0) (v := .agg #[.int .i64 0, .int .i64 0, .int .i64 2, .int .i64 1048576, .int .i64 0]) (by rfl) sz83 (by kernel_rfl) (by kernel_rfl) (by kernel_rfl) (Free.zero _) (Nat.le_of_ble_eq_true rfl) (cells' := #[.int .i64 0, .int .i64 0, .int .i64 2, .int .i64 1048576, .int .i64 0]) (by kernel_rfl)) ?_
                    rintro _ _ _ ⟨rfl, rfl, rfl⟩
                    refine WL.restQ 2 [2, 3] (L' := [(2, .pointer (some ⟨b1, 0, none⟩)), (3, .bool true)]) (by kernel_rfl) ?_
                    refine WP.ret ?_
                    refine QP.blockR ?_
                    refine QP.thenR ?_
                    obtain rfl := Option.some.inj h
                    exact QP.returnedM (rs := [.cell 2 83, .tmp 3]) (by kernel_rfl) (ResAll.cons (Res1.box (p := 2) (i := 0) (o := 0) (agg := true) (by rfl) ag83 (by kernel_rfl) (fun h => by cases h) (Nat.le_of_ble_eq_true rfl) (v := .agg #[.int .i64 0, .int .i64 0, .int .i64 2, .int .i64 1048576, .int .i64 0]) (by kernel_rfl)) (ResAll.cons (Res1.tmp (t := 3) (v := .bool true) (by kernel_rfl)) ResAll.nil)) (by kernel_rfl) (fun W hI => ⟨_, _, _, rfl, ⟨rfl, rfl, rfl⟩, (hI.less 0 rfl)⟩)
                  · replace hc := ne_of_beq_false hc
                    rw [if_neg hc] at h
                    have hc30 := hc
                    clear hc
                    refine WP.skip ?_
                    refine QP.blockN ?_
                    refine QP.next ?_
                    refine WP.pick [2] ?_
                    refine WP.seqR ?_
                    refine WL.pure 0 1 [2, 26] (L' := [(2, .pointer (some ⟨b1, 0, none⟩)), (26, .agg #[.int .i64 0, .int .i64 0, .int .i64 0, .int .i64 0, .int .i64 0])]) (by kernel_rfl) (by decide) ?_
                    refine WL.op (op := .store 83 (.tmp 2) (.tmp 26)) (ty := 0) (d := none) (g := none) (by kernel_rfl) (by kernel_rfl) (by kernel_rfl) (Does.store_box (i := 0) (b := b1) (o := 0) (v := .agg #[.int .i64 0, .int .i64 0, .int .i64 0, .int .i64 0, .int .i64 0]) (by rfl) sz83 (by kernel_rfl) (by kernel_rfl) (by kernel_rfl) (Free.zero _) (Nat.le_of_ble_eq_true rfl) (cells' := #[.int .i64 0, .int .i64 0, .int .i64 0, .int .i64 0, .int .i64 0]) (by kernel_rfl)) ?_
                    rintro _ _ _ ⟨rfl, rfl, rfl⟩
                    refine WL.restQ 2 [2, 3] (L' := [(2, .pointer (some ⟨b1, 0, none⟩)), (3, .bool false)]) (by kernel_rfl) ?_
                    refine WP.ret ?_
                    obtain rfl := Option.some.inj h
                    exact QP.returnedM (rs := [.cell 2 83, .tmp 3]) (by kernel_rfl) (ResAll.cons (Res1.box (p := 2) (i := 0) (o := 0) (agg := true) (by rfl) ag83 (by kernel_rfl) (fun h => by cases h) (Nat.le_of_ble_eq_true rfl) (v := .agg #[.int .i64 0, .int .i64 0, .int .i64 0, .int .i64 0, .int .i64 0]) (by kernel_rfl)) (ResAll.cons (Res1.tmp (t := 3) (v := .bool false) (by kernel_rfl)) ResAll.nil)) (by kernel_rfl) (fun W hI => ⟨_, _, _, rfl, ⟨rfl, rfl, rfl⟩, (hI.less 0 rfl)⟩)

/-! ### unicode/utf8.ValidString: function 65 -/
def utf8_ValidString (a0 : ByteArray) : Option Bool := (if a0.size ≤ 9223372036854775807 then some (Lib.validD a0.data.toList) else none)
set_option maxHeartbeats 4000000 in
theorem utf8_ValidString_calls {B : World} {G : GMap} {Γ : List Chunk} {W : World} (HT : Tabs B G) (a0 : ByteArray) (r : Bool) (h : utf8_ValidString a0 = some r) (hI : Inv B G (Γ) W) :
    Calls Tryd.prog 65 [.string a0].toArray W (Ret B (fun v G' Γ' => v = .bool r ∧ G = G' ∧ Γ = Γ')) := by
  unfold utf8_ValidString at h
  by_cases hs : a0.size ≤ 9223372036854775807
  case neg => rw [if_neg hs] at h; cases h
  rw [if_pos hs] at h
  obtain rfl := Option.some.inj h
  exact Calls.kept (Any.utf8_ValidString Tryd.laysValid a0 W hs (HT.u8 hI)) hI

/-! ### unicode.IsLetter: function 80 -/
def unicode_IsLetter (a0 : Int) : Option Bool := (if -2147483648 ≤ a0 ∧ a0 ≤ 2147483647 then some (Lib.isLetterU a0) else none)
set_option maxHeartbeats 4000000 in
theorem unicode_IsLetter_calls {B : World} {G : GMap} {Γ : List Chunk} {W : World} (HT : Tabs B G) (a0 : Int) (r : Bool) (h : unicode_IsLetter a0 = some r) (hI : Inv B G (Γ) W) :
    Calls Tryd.prog 80 [.int .i32 a0].toArray W (Ret B (fun v G' Γ' => v = .bool r ∧ G = G' ∧ Γ = Γ')) := by
  unfold unicode_IsLetter at h
  by_cases hs : -2147483648 ≤ a0 ∧ a0 ≤ 2147483647
  case neg => rw [if_neg hs] at h; cases h
  rw [if_pos hs] at h
  obtain rfl := Option.some.inj h
  exact Calls.kept (Tryd.unicode_IsLetter_all a0 W hs.1 hs.2 (HT.pr hI) (HT.le hI)) hI

/-! ### unicode.IsDigit: function 81 -/
def unicode_IsDigit (a0 : Int) : Option Bool := (if -2147483648 ≤ a0 ∧ a0 ≤ 2147483647 then some (Lib.isDigitU a0) else none)
set_option maxHeartbeats 4000000 in
theorem unicode_IsDigit_calls {B : World} {G : GMap} {Γ : List Chunk} {W : World} (HT : Tabs B G) (a0 : Int) (r : Bool) (h : unicode_IsDigit a0 = some r) (hI : Inv B G (Γ) W) :
    Calls Tryd.prog 81 [.int .i32 a0].toArray W (Ret B (fun v G' Γ' => v = .bool r ∧ G = G' ∧ Γ = Γ')) := by
  unfold unicode_IsDigit at h
  by_cases hs : -2147483648 ≤ a0 ∧ a0 ≤ 2147483647
  case neg => rw [if_neg hs] at h; cases h
  rw [if_pos hs] at h
  obtain rfl := Option.some.inj h
  exact Calls.kept (Tryd.unicode_IsDigit_all a0 W hs.1 hs.2 (HT.di hI)) hI

/-! ### grapevine/tokens.letter: function 66 -/
def tokens_letter (a0 : Int) : Option Bool := (((unicode_IsLetter a0).bind fun t3 => (if t3 = true then some true else ((unicode_IsDigit a0).bind fun t8 => some t8))).bind fun s1 => some s1)
set_option maxHeartbeats 4000000 in
theorem tokens_letter_calls {B : World} {G : GMap} {Γ : List Chunk} {W : World} (HT : Tabs B G) (a0 : Int) (r : Bool) (h : tokens_letter a0 = some r) (hI : Inv B G (Γ) W) :
    Calls Tryd.prog 66 [.int .i32 a0].toArray W (Ret B (fun v G' Γ' => v = .bool r ∧ G = G' ∧ Γ = Γ')) := by
  refine calls_WP (Γ := Γ) (G := G) (B := B) Tryd.func66 rfl (by kernel_rfl) ?_ hI
  clear hI
  unfold tokens_letter at h
  refine WP.seqP [0] (L' := [(0, .int .i32 a0)]) (by kernel_rfl) ?_
  rw [Option.bind_eq_some_iff] at h
  obtain ⟨os1, h, hk2⟩ := h
  refine WP.cut (fun L' G' Γ' => ∃ s1 : Bool, s1 = os1 ∧ L' = [(2, .bool s1)] ∧ G = G' ∧ Γ = Γ') ?_ ?_
  · clear hk2
    refine WP.region ?_
    refine WL.pure 0 1 [0, 3] (L' := [(0, .int .i32 a0), (3, .int .i32 a0)]) (by kernel_rfl) (by decide) ?_
    rw [Option.bind_eq_some_iff] at h
    obtain ⟨t3, ht4, h⟩ := h
    refine WL.op (op := .call { callee := (.value (.func 80)), args := #[(.tmp 3)], argTypes := #[21] }) (ty := 4) (d := some 4) (g := none) (by kernel_rfl) (by kernel_rfl) (by kernel_rfl) (Does.call (f := 80) (args := [.int .i32 a0]) (by kernel_rfl) (fun W hI => (unicode_IsLetter_calls HT a0  t3 ht4 hI))) ?_
    rintro _ _ _ ⟨rfl, rfl, rfl⟩
    refine WL.pure 2 3 [0, 5] (L' := [(0, .int .i32 a0), (5, .bool t3)]) (by kernel_rfl) (by decide) ?_
    refine WL.split 5 (b := t3) (by kernel_rfl) (fun hc => ?_) (fun hc => ?_)
    · replace hc := hc
      rw [if_pos hc] at h
      have hc7 := hc
      clear hc
      refine WL.rest 3 [2] (L' := [(2, .bool true)]) (by kernel_rfl) ?_
      refine QP.pick [2] ?_
      exact QP.meet ⟨_, Option.some.inj h, rfl, rfl, rfl⟩
    · replace hc := (Bool.eq_false_iff.1 hc)
      rw [if_neg hc] at h
      have hc7 := hc
      clear hc
      refine WL.pure 3 4 [5, 6] (L' := [(5, .bool false), (6, .int .i32 a0)]) (by kernel_rfl) (by decide) ?_
      rw [Option.bind_eq_some_iff] at h
      obtain ⟨t8, ht9, h⟩ := h
      refine WL.op (op := .call { callee := (.value (.func 81)), args := #[(.tmp 6)], argTypes := #[21] }) (ty := 4) (d := some 7) (g := some (2, false)) (by kernel_rfl) (by kernel_rfl) (by kernel_rfl) (Does.call (f := 81) (args := [.int .i32 a0]) (by kernel_rfl) (fun W hI => (unicode_IsDigit_calls HT a0  t8 ht9 hI))) ?_
      rintro _ _ _ ⟨rfl, rfl, rfl⟩
      refine WL.rest 5 [2] (L' := [(2, .bool t8)]) (by kernel_rfl) ?_
      refine QP.pick [2] ?_
      exact QP.meet ⟨_, Option.some.inj h, rfl, rfl, rfl⟩
  · rintro _ _ _ ⟨s1, rfl, rfl, rfl, rfl⟩
    clear h
    replace h := hk2
    refine WP.ret ?_
    obtain rfl := Option.some.inj h
    exact QP.returned [2] [.bool s1] _ (by kernel_rfl) (by kernel_rfl) (by kernel_rfl) (fun W hI => ⟨_, _, _, rfl, ⟨rfl, rfl, rfl⟩, hI⟩)

/-! ### grapevine/tokens.other: function 38 -/
def tokens_other (a0 : Int) : Option Bool := ((tokens_letter a0).bind fun t1 => some (!t1))
set_option maxHeartbeats 4000000 in
theorem tokens_other_calls {B : World} {G : GMap} {Γ : List Chunk} {W : World} (HT : Tabs B G) (a0 : Int) (r : Bool) (h : tokens_other a0 = some r) (hI : Inv B G (Γ) W) :
    Calls Tryd.prog 38 [.int .i32 a0].toArray W (Ret B (fun v G' Γ' => v = .bool r ∧ G = G' ∧ Γ = Γ')) := by
  refine calls_WP (Γ := Γ) (G := G) (B := B) Tryd.func38 rfl (by kernel_rfl) ?_ hI
  clear hI
  unfold tokens_other at h
  refine WP.seqP [0] (L' := [(0, .int .i32 a0)]) (by kernel_rfl) ?_
  refine WP.seqR ?_
  refine WL.pure 0 1 [3] (L' := [(3, .int .i32 a0)]) (by kernel_rfl) (by decide) ?_
  rw [Option.bind_eq_some_iff] at h
  obtain ⟨t1, ht2, h⟩ := h
  refine WL.op (op := .call { callee := (.value (.func 66)), args := #[(.tmp 3)], argTypes := #[21] }) (ty := 4) (d := some 4) (g := none) (by kernel_rfl) (by kernel_rfl) (by kernel_rfl) (Does.call (f := 66) (args := [.int .i32 a0]) (by kernel_rfl) (fun W hI => (tokens_letter_calls HT a0  t1 ht2 hI))) ?_
  rintro _ _ _ ⟨rfl, rfl, rfl⟩
  refine WL.restQ 2 [2] (L' := [(2, .bool (!t1))]) (by kernel_rfl) ?_
  refine WP.ret ?_
  obtain rfl := Option.some.inj h
  exact QP.returned [2] [.bool (!t1)] _ (by kernel_rfl) (by kernel_rfl) (by kernel_rfl) (fun W hI => ⟨_, _, _, rfl, ⟨rfl, rfl, rfl⟩, hI⟩)

/-! ### strings.ContainsFunc: function 97 -/
def strings_ContainsFunc (a0 : ByteArray) : Option Bool := (if RunesOk tokens_other then some (decide (0 ≤ Lib.idxFunc (fun x => (tokens_other (x : Int)).getD false) true a0)) else none)
set_option maxHeartbeats 4000000 in
theorem strings_ContainsFunc_calls {B : World} {G : GMap} {Γ : List Chunk} {W : World} (HT : Tabs B G) (a0 : ByteArray) (r : Bool) (h : strings_ContainsFunc a0 = some r) (hI : Inv B G (Γ) W) :
    Calls Tryd.prog 97 [.string a0, .func (.func 38) #[] #[]].toArray W (Ret B (fun v G' Γ' => v = .bool r ∧ G = G' ∧ Γ = Γ')) := by
  unfold strings_ContainsFunc at h
  by_cases hs : RunesOk tokens_other
  case neg => rw [if_neg hs] at h; cases h
  rw [if_pos hs] at h
  obtain rfl := Option.some.inj h
  refine Calls.kept (Tryd.strings_ContainsFunc_grows 38 #[] (enters_of Tryd.func38 (by kernel_rfl) rfl) (fun x => (tokens_other (x : Int)).getD false) a0 W (predGrows tokens_other hs fun W' hb x b hx => ?_)) hI
  exact (tokens_other_calls (Tabs.start (Tab.below (HT.all hI) hb)) (x : Int) b hx (Inv.start W')).mono fun e w' hr => by obtain ⟨_, _, _, rfl, ⟨rfl, rfl, rfl⟩, hI'⟩ := hr; exact ⟨rfl, hI'.below⟩

/-! ### grapevine/tokens.One: function 83 -/
def tokens_One (a0 : ByteArray) : Option Bool := ((if (!(a0.toList == (⟨#[]⟩ : ByteArray).toList)) = true then ((utf8_ValidString a0).bind fun t4 => (if t4 = true then ((strings_ContainsFunc a0).bind fun t9 => some (!t9)) else some false)) else some false).bind fun s1 => some s1)
set_option maxHeartbeats 4000000 in
theorem tokens_One_calls {B : World} {G : GMap} {Γ : List Chunk} {W : World} (HT : Tabs B G) (a0 : ByteArray) (r : Bool) (h : tokens_One a0 = some r) (hI : Inv B G (Γ) W) :
    Calls Tryd.prog 83 [.string a0].toArray W (Ret B (fun v G' Γ' => v = .bool r ∧ G = G' ∧ Γ = Γ')) := by
  refine calls_WP (Γ := Γ) (G := G) (B := B) Tryd.func83 rfl (by kernel_rfl) ?_ hI
  clear hI
  unfold tokens_One at h
  refine WP.seqP [0] (L' := [(0, .string a0)]) (by kernel_rfl) ?_
  rw [Option.bind_eq_some_iff] at h
  obtain ⟨os1, h, hk2⟩ := h
  refine WP.cut (fun L' G' Γ' => ∃ s1 : Bool, s1 = os1 ∧ L' = [(2, .bool s1)] ∧ G = G' ∧ Γ = Γ') ?_ ?_
  · clear hk2
    refine WP.region ?_
    refine WL.pure 0 3 [0, 5] (L' := [(0, .string a0), (5, .bool (!(a0.toList == (⟨#[]⟩ : ByteArray).toList)))]) (by kernel_rfl) (by decide) ?_
    refine WL.split 5 (b := (!(a0.toList == (⟨#[]⟩ : ByteArray).toList))) (by kernel_rfl) (fun hc => ?_) (fun hc => ?_)
    · replace hc := hc
      rw [if_pos hc] at h
      have hc3 := hc
      clear hc
      refine WL.pure 3 4 [0, 5, 6] (L' := [(0, .string a0), (5, .bool true), (6, .string a0)]) (by kernel_rfl) (by decide) ?_
      rw [Option.bind_eq_some_iff] at h
      obtain ⟨t4, ht5, h⟩ := h
      refine WL.op (op := .call { callee := (.value (.func 65)), args := #[(.tmp 6)], argTypes := #[9] }) (ty := 4) (d := some 7) (g := some (2, true)) (by kernel_rfl) (by kernel_rfl) (by kernel_rfl) (Does.call (f := 65) (args := [.string a0]) (by kernel_rfl) (fun W hI => (utf8_ValidString_calls HT a0  t4 ht5 hI))) ?_
      rintro _ _ _ ⟨rfl, rfl, rfl⟩
      refine WL.pure 5 7 [0, 9] (L' := [(0, .string a0), (9, .bool t4)]) (by kernel_rfl) (by decide) ?_
      refine WL.split 9 (b := t4) (by kernel_rfl) (fun hc => ?_) (fun hc => ?_)
      · replace hc := hc
        rw [if_pos hc] at h
        have hc8 := hc
        clear hc
        refine WL.pure 7 8 [9, 10] (L' := [(9, .bool true), (10, .string a0)]) (by kernel_rfl) (by decide) ?_
        rw [Option.bind_eq_some_iff] at h
        obtain ⟨t9, ht10, h⟩ := h
        refine WL.op (op := .call { callee := (.value (.func 97)), args := #[(.tmp 10), (.func 38)], argTypes := #[9, 65] }) (ty := 4) (d := some 11) (g := some (6, true)) (by kernel_rfl) (by kernel_rfl) (by kernel_rfl) (Does.call (f := 97) (args := [.string a0, .func (.func 38) #[] #[]]) (by kernel_rfl) (fun W hI => (strings_ContainsFunc_calls HT a0  t9 ht10 hI))) ?_
        rintro _ _ _ ⟨rfl, rfl, rfl⟩
        refine WL.rest 9 [2] (L' := [(2, .bool (!t9))]) (by kernel_rfl) ?_
        refine QP.pick [2] ?_
        exact QP.meet ⟨_, Option.some.inj h, rfl, rfl, rfl⟩
      · replace hc := (Bool.eq_false_iff.1 hc)
        rw [if_neg hc] at h
        have hc8 := hc
        clear hc
        refine WL.rest 7 [2] (L' := [(2, .bool false)]) (by kernel_rfl) ?_
        refine QP.pick [2] ?_
        exact QP.meet ⟨_, Option.some.inj h, rfl, rfl, rfl⟩
    · replace hc := (Bool.eq_false_iff.1 hc)
      rw [if_neg hc] at h
      have hc3 := hc
      clear hc
      refine WL.rest 3 [2] (L' := [(2, .bool false)]) (by kernel_rfl) ?_
      refine QP.pick [2] ?_
      exact QP.meet ⟨_, Option.some.inj h, rfl, rfl, rfl⟩
  · rintro _ _ _ ⟨s1, rfl, rfl, rfl, rfl⟩
    clear h
    replace h := hk2
    refine WP.ret ?_
    obtain rfl := Option.some.inj h
    exact QP.returned [2] [.bool s1] _ (by kernel_rfl) (by kernel_rfl) (by kernel_rfl) (fun W hI => ⟨_, _, _, rfl, ⟨rfl, rfl, rfl⟩, hI⟩)

/-! ### grapevine/tokens.Norm: function 39 -/
def tokens_Norm (a0 : ByteArray) : Option ByteArray := (if a0.size ≤ 35184372088832 then some (normD a0) else none)
set_option maxHeartbeats 4000000 in
theorem tokens_Norm_calls {B : World} {G : GMap} {Γ : List Chunk} {W : World} (HT : Tabs B G) (a0 : ByteArray) (r : ByteArray) (h : tokens_Norm a0 = some r) (hI : Inv B G (Γ) W) :
    Calls Tryd.prog 39 [.string a0].toArray W (Ret B (fun v G' Γ' => v = .string r ∧ G = G' ∧ Γ = Γ')) := by
  unfold tokens_Norm at h
  by_cases hs : a0.size ≤ 35184372088832
  case neg => rw [if_neg hs] at h; cases h
  rw [if_pos hs] at h
  obtain rfl := Option.some.inj h
  exact Calls.kept (Tryd.norm_walk a0 W hs (HT.u8 hI) (HT.ca hI)) hI

/-! ### grapevine/ask.odd: function 62 -/
def ask_odd (a0 : ByteArray) : Option Bool := ((if (a0.size : Int) > 40 then some true else ((tokens_One a0).bind fun t4 => (if (!t4) = true then some true else ((tokens_Norm a0).bind fun t9 => some (!(t9.toList == a0.toList)))))).bind fun s1 => some s1)
set_option maxHeartbeats 4000000 in
theorem ask_odd_calls {B : World} {G : GMap} {Γ : List Chunk} {W : World} (HT : Tabs B G) (a0 : ByteArray) (r : Bool) (h : ask_odd a0 = some r) (hI : Inv B G (Γ) W) :
    Calls Tryd.prog 62 [.string a0].toArray W (Ret B (fun v G' Γ' => v = .bool r ∧ G = G' ∧ Γ = Γ')) := by
  refine calls_WP (Γ := Γ) (G := G) (B := B) Tryd.func62 rfl (by kernel_rfl) ?_ hI
  clear hI
  unfold ask_odd at h
  refine WP.seqP [0] (L' := [(0, .string a0)]) (by kernel_rfl) ?_
  rw [Option.bind_eq_some_iff] at h
  obtain ⟨os1, h, hk2⟩ := h
  refine WP.cut (fun L' G' Γ' => ∃ s1 : Bool, s1 = os1 ∧ L' = [(2, .bool s1)] ∧ G = G' ∧ Γ = Γ') ?_ ?_
  · clear hk2
    refine WP.region ?_
    refine WL.pure 0 4 [0, 6] (L' := [(0, .string a0), (6, .bool (decide ((a0.size : Int) > 40)))]) (by kernel_rfl) (by decide) ?_
    refine WL.split 6 (b := decide ((a0.size : Int) > 40)) (by kernel_rfl) (fun hc => ?_) (fun hc => ?_)
    · replace hc := of_decide_eq_true hc
      rw [if_pos hc] at h
      have hc3 := hc
      clear hc
      refine WL.rest 4 [2] (L' := [(2, .bool true)]) (by kernel_rfl) ?_
      refine QP.pick [2] ?_
      exact QP.meet ⟨_, Option.some.inj h, rfl, rfl, rfl⟩
    · replace hc := of_decide_eq_false hc
      rw [if_neg hc] at h
      have hc3 := hc
      clear hc
      refine WL.pure 4 5 [0, 6, 7] (L' := [(0, .string a0), (6, .bool false), (7, .string a0)]) (by kernel_rfl) (by decide) ?_
      rw [Option.bind_eq_some_iff] at h
      obtain ⟨t4, ht5, h⟩ := h
      refine WL.op (op := .call { callee := (.value (.func 83)), args := #[(.tmp 7)], argTypes := #[9] }) (ty := 4) (d := some 8) (g := some (3, false)) (by kernel_rfl) (by kernel_rfl) (by kernel_rfl) (Does.call (f := 83) (args := [.string a0]) (by kernel_rfl) (fun W hI => (tokens_One_calls HT a0  t4 ht5 hI))) ?_
      rintro _ _ _ ⟨rfl, rfl, rfl⟩
      refine WL.pure 6 9 [0, 11] (L' := [(0, .string a0), (11, .bool (!t4))]) (by kernel_rfl) (by decide) ?_
      refine WL.split 11 (b := (!t4)) (by kernel_rfl) (fun hc => ?_) (fun hc => ?_)
      · replace hc := hc
        rw [if_pos hc] at h
        have hc8 := hc
        clear hc
        refine WL.rest 9 [2] (L' := [(2, .bool true)]) (by kernel_rfl) ?_
        refine QP.pick [2] ?_
        exact QP.meet ⟨_, Option.some.inj h, rfl, rfl, rfl⟩
      · replace hc := (Bool.eq_false_iff.1 hc)
        rw [if_neg hc] at h
        have hc8 := hc
        clear hc
        refine WL.pure 9 10 [0, 11, 12] (L' := [(0, .string a0), (11, .bool false), (12, .string a0)]) (by kernel_rfl) (by decide) ?_
        rw [Option.bind_eq_some_iff] at h
        obtain ⟨t9, ht10, h⟩ := h
        refine WL.op (op := .call { callee := (.value (.func 39)), args := #[(.tmp 12)], argTypes := #[9] }) (ty := 9) (d := some 13) (g := some (8, false)) (by kernel_rfl) (by kernel_rfl) (by kernel_rfl) (Does.call (f := 39) (args := [.string a0]) (by kernel_rfl) (fun W hI => (tokens_Norm_calls HT a0  t9 ht10 hI))) ?_
        rintro _ _ _ ⟨rfl, rfl, rfl⟩
        refine WL.rest 11 [2] (L' := [(2, .bool (!(t9.toList == a0.toList)))]) (by kernel_rfl) ?_
        refine QP.pick [2] ?_
        exact QP.meet ⟨_, Option.some.inj h, rfl, rfl, rfl⟩
  · rintro _ _ _ ⟨s1, rfl, rfl, rfl, rfl⟩
    clear h
    replace h := hk2
    refine WP.ret ?_
    obtain rfl := Option.some.inj h
    exact QP.returned [2] [.bool s1] _ (by kernel_rfl) (by kernel_rfl) (by kernel_rfl) (fun W hI => ⟨_, _, _, rfl, ⟨rfl, rfl, rfl⟩, hI⟩)

/-! ### slices.IndexFunc[[]string,string]: function 82 -/
def slices_IndexFunc_l0 (l0 : List ByteArray) : Nat → Int → Option (Sum Int Unit)
  | 0, _ => none
  | k + 1, y3 => (if y3 < (l0.length : Int) then (if 0 ≤ y3 ∧ y3 < (l0.length : Int) then ((ask_odd (l0.getD y3.toNat (⟨#[]⟩ : ByteArray))).bind fun t8 => (if t8 = true then some (Sum.inl y3) else slices_IndexFunc_l0 l0 k (IntKind.i64.wrap (y3 + 1)))) else none) else some (Sum.inr ()))
def slices_IndexFunc (k : Nat) (l0 : List ByteArray) : Option Int := ((slices_IndexFunc_l0 l0 k 0).bind fun os1 => match os1 with | Sum.inl r => some r | Sum.inr s1 => some (-1))
set_option maxHeartbeats 4000000 in
theorem slices_IndexFunc_calls {B : World} {G : GMap} {Γ : List Chunk} {W : World} (HT : Tabs B G) (k : Nat) (l0 : List ByteArray) (Al0 : Option Addr) (cl0 : Nat) (Hl0 : Rd kStr G Al0 cl0 l0) (r : Int) (h : slices_IndexFunc k l0 = some r) (hI : Inv B G (Γ) W) :
    Calls Tryd.prog 82 [.slice Al0 l0.length cl0, .func (.func 62) #[] #[]].toArray W (Ret B (fun v G' Γ' => v = .int .i64 r ∧ G = G' ∧ Γ = Γ')) := by
  refine calls_WP (Γ := Γ) (G := G) (B := B) Tryd.func82 rfl (by kernel_rfl) ?_ hI
  clear hI
  unfold slices_IndexFunc at h
  refine WP.seqP [0, 1] (L' := [(0, .slice Al0 l0.length cl0), (1, .func (.func 62) #[] #[])]) (by kernel_rfl) ?_
  refine WP.seq ?_
  refine WP.seqP [0, 1, 7, 8] (L' := [(0, .slice Al0 l0.length cl0), (1, .func (.func 62) #[] #[]), (7, .int .i64 (l0.length : Int)), (8, .int .i64 0)]) (by kernel_rfl) ?_
  rw [Option.bind_eq_some_iff] at h
  obtain ⟨os1, h, hk2⟩ := h
  refine WP.cutQ (fun L' G' Γ' => ∃ s1 : Unit, Sum.inr s1 = os1 ∧ L' = [] ∧ G = G' ∧ Γ = Γ') ?_ ?_
  · skip
    refine WP.block ?_
    refine WP.pick [0, 1, 7, 8] ?_
    refine WP.loopF (fun kn4 L' G' Γ' => ∃ (y3 : Int), slices_IndexFunc_l0 l0 kn4 y3 = some os1 ∧ L' = [(0, .slice Al0 l0.length cl0), (1, .func (.func 62) #[] #[]), (7, .int .i64 (l0.length : Int)), (8, .int .i64 y3)] ∧ G = G' ∧ Γ = Γ') ?_ k ⟨0, h, rfl, rfl, rfl⟩
    clear h
    rintro kn5 _ _ _ ⟨y3, h, rfl, rfl, rfl⟩
    cases kn5 with
    | zero => exact absurd h (by simp [slices_IndexFunc_l0])
    | succ kn5 =>
      simp only [slices_IndexFunc_l0] at h
      refine WP.seqP [0, 1, 7, 8, 9] (L' := [(0, .slice Al0 l0.length cl0), (1, .func (.func 62) #[] #[]), (7, .int .i64 (l0.length : Int)), (8, .int .i64 y3), (9, .bool (decide (y3 < (l0.length : Int))))]) (by kernel_rfl) ?_
      refine WP.seq ?_
      refine WP.cond (b := decide (y3 < (l0.length : Int))) (by kernel_rfl) (fun hc => ?_) (fun hc => ?_)
      · replace hc := of_decide_eq_true hc
        rw [if_pos hc] at h
        have hc6 := hc
        clear hc
        refine WP.skip ?_
        refine QP.next ?_
        refine WP.pick [0, 1, 7, 8] ?_
        refine WP.seq ?_
        refine WP.block ?_
        refine WP.seqP [0, 1, 5, 7, 8] (L' := [(0, .slice Al0 l0.length cl0), (1, .func (.func 62) #[] #[]), (5, .int .i64 y3), (7, .int .i64 (l0.length : Int)), (8, .int .i64 y3)]) (by kernel_rfl) ?_
        refine WP.seqR ?_
        refine WL.pure 0 3 [0, 1, 5, 7, 8, 11, 12, 13] (L' := [(0, .slice Al0 l0.length cl0), (1, .func (.func 62) #[] #[]), (5, .int .i64 y3), (7, .int .i64 (l0.length : Int)), (8, .int .i64 y3), (11, .func (.func 62) #[] #[]), (12, .slice Al0 l0.length cl0), (13, .int .i64 y3)]) (by kernel_rfl) (by decide) ?_
        by_cases hb7 : 0 ≤ y3 ∧ y3 < (l0.length : Int)
        case neg => rw [if_neg hb7] at h; cases h
        rw [if_pos hb7] at h
        refine WL.tell (op := .indexAddr 22 (.tmp 12) (.tmp 13)) (ty := 0) (d := some 14) (g := none) (by kernel_rfl) (by kernel_rfl) (by kernel_rfl) (Tells.indexAddr (A := Al0) (n := l0.length) (c := cl0) (k := .i64) (j := y3) (by kernel_rfl) (by kernel_rfl) (Hl0.isSome hb7.1 hb7.2) hb7.1 hb7.2 sl22) ?_
        refine WL.tellE (op := .load 9 (.tmp 14)) (ty := 9) (d := some 15) (g := none) (by kernel_rfl) (by kernel_rfl) (by kernel_rfl) (Hl0.load (agg := false) hb7.1 hb7.2 (⟨#[]⟩ : ByteArray) ag9 (fun _ => rfl) (by kernel_rfl)) ?_
        rintro _ rfl
        rw [Option.bind_eq_some_iff] at h
        obtain ⟨t8, ht9, h⟩ := h
        refine WL.op (op := .call { callee := (.value (.tmp 11)), args := #[(.tmp 15)], argTypes := #[9] }) (ty := 4) (d := some 16) (g := none) (by kernel_rfl) (by kernel_rfl) (by kernel_rfl) (Does.call (f := 62) (args := [.string (l0.getD y3.toNat (⟨#[]⟩ : ByteArray))]) (by kernel_rfl) (fun W hI => (ask_odd_calls HT (l0.getD y3.toNat (⟨#[]⟩ : ByteArray))  t8 ht9 hI))) ?_
        rintro _ _ _ ⟨rfl, rfl, rfl⟩
        refine WL.restQ 6 [0, 1, 5, 7, 8, 16] (L' := [(0, .slice Al0 l0.length cl0), (1, .func (.func 62) #[] #[]), (5, .int .i64 y3), (7, .int .i64 (l0.length : Int)), (8, .int .i64 y3), (16, .bool t8)]) (by kernel_rfl) ?_
        refine WP.cond (b := t8) (by kernel_rfl) (fun hc => ?_) (fun hc => ?_)
        · replace hc := hc
          rw [if_pos hc] at h
          have hc12 := hc
          clear hc
          refine WP.seqP [4] (L' := [(4, .int .i64 y3)]) (by kernel_rfl) ?_
          refine WP.ret ?_
          refine QP.blockR ?_
          refine QP.thenR ?_
          refine QP.thenR ?_
          refine QP.blockR ?_
          refine QP.thenR ?_
          refine QP.thenR ?_
          obtain rfl := Option.some.inj h
          obtain rfl := Option.some.inj (show some _ = some _ from hk2)
          exact QP.returned [4] [.int .i64 y3] _ (by kernel_rfl) (by kernel_rfl) (by kernel_rfl) (fun W hI => ⟨_, _, _, rfl, ⟨rfl, rfl, rfl⟩, hI⟩)
        · replace hc := (Bool.eq_false_iff.1 hc)
          rw [if_neg hc] at h
          have hc12 := hc
          clear hc
          refine WP.skip ?_
          refine QP.blockN ?_
          refine QP.next ?_
          refine WP.pick [0, 1, 7, 8] ?_
          refine WP.regionP [0, 1, 7, 8] (L' := [(0, .slice Al0 l0.length cl0), (1, .func (.func 62) #[] #[]), (7, .int .i64 (l0.length : Int)), (8, .int .i64 (IntKind.i64.wrap (y3 + 1)))]) (by kernel_rfl) ?_
          refine QP.pick [0, 1, 7, 8] ?_
          exact QP.meet ⟨kn5, Nat.lt_succ_self _, (IntKind.i64.wrap (y3 + 1)), h, rfl, rfl, rfl⟩
      · replace hc := of_decide_eq_false hc
        rw [if_neg hc] at h
        have hc6 := hc
        clear hc
        refine WP.exit ?_
        refine QP.thenE ?_
        refine QP.thenE ?_
        refine QP.blockE ?_
        refine QP.pick [] ?_
        exact QP.meet ⟨_, Option.some.inj h, rfl, rfl, rfl⟩
  · rintro _ _ _ ⟨s1, rfl, rfl, rfl, rfl⟩
    clear h
    replace h := hk2
    dsimp only at h
    refine QP.next ?_
    refine WP.pick [] ?_
    refine WP.seqP [4] (L' := [(4, .int .i64 (-1))]) (by kernel_rfl) ?_
    refine WP.ret ?_
    obtain rfl := Option.some.inj h
    exact QP.returned [4] [.int .i64 (-1)] _ (by kernel_rfl) (by kernel_rfl) (by kernel_rfl) (fun W hI => ⟨_, _, _, rfl, ⟨rfl, rfl, rfl⟩, hI⟩)

/-! ### slices.ContainsFunc[[]string,string]: function 61 -/
def slices_ContainsFunc (k : Nat) (l0 : List ByteArray) : Option Bool := ((slices_IndexFunc k l0).bind fun t1 => some (decide (t1 ≥ 0)))
set_option maxHeartbeats 4000000 in
theorem slices_ContainsFunc_calls {B : World} {G : GMap} {Γ : List Chunk} {W : World} (HT : Tabs B G) (k : Nat) (l0 : List ByteArray) (Al0 : Option Addr) (cl0 : Nat) (Hl0 : Rd kStr G Al0 cl0 l0) (r : Bool) (h : slices_ContainsFunc k l0 = some r) (hI : Inv B G (Γ) W) :
    Calls Tryd.prog 61 [.slice Al0 l0.length cl0, .func (.func 62) #[] #[]].toArray W (Ret B (fun v G' Γ' => v = .bool r ∧ G = G' ∧ Γ = Γ')) := by
  refine calls_WP (Γ := Γ) (G := G) (B := B) Tryd.func61 rfl (by kernel_rfl) ?_ hI
  clear hI
  unfold slices_ContainsFunc at h
  refine WP.seqP [0, 1] (L' := [(0, .slice Al0 l0.length cl0), (1, .func (.func 62) #[] #[])]) (by kernel_rfl) ?_
  refine WP.seqR ?_
  refine WL.pure 0 2 [5, 6] (L' := [(5, .slice Al0 l0.length cl0), (6, .func (.func 62) #[] #[])]) (by kernel_rfl) (by decide) ?_
  rw [Option.bind_eq_some_iff] at h
  obtain ⟨t1, ht2, h⟩ := h
  refine WL.op (op := .call { callee := (.value (.func 82)), args := #[(.tmp 5), (.tmp 6)], argTypes := #[22, 63] }) (ty := 3) (d := some 7) (g := none) (by kernel_rfl) (by kernel_rfl) (by kernel_rfl) (Does.call (f := 82) (args := [.slice Al0 l0.length cl0, .func (.func 62) #[] #[]]) (by kernel_rfl) (fun W hI => (slices_IndexFunc_calls HT k l0 Al0 cl0 Hl0 t1 ht2 hI))) ?_
  rintro _ _ _ ⟨rfl, rfl, rfl⟩
  refine WL.restQ 3 [4] (L' := [(4, .bool (decide (t1 ≥ 0)))]) (by kernel_rfl) ?_
  refine WP.ret ?_
  obtain rfl := Option.some.inj h
  exact QP.returned [4] [.bool (decide (t1 ≥ 0))] _ (by kernel_rfl) (by kernel_rfl) (by kernel_rfl) (fun W hI => ⟨_, _, _, rfl, ⟨rfl, rfl, rfl⟩, hI⟩)

/-! ### grapevine/ask.good$1: function 63 -/
def ask_good_1 (rec_ : T25 → Option Bool) (a0 : T25) : Option Bool := ((rec_ a0).bind fun t2 => some (!t2))
set_option maxHeartbeats 4000000 in
theorem ask_good_1_calls {B : World} {G : GMap} {Γ : List Chunk} {W : World} (HT : Tabs B G) (rec_ : T25 → Option Bool) (Hrec : ∀ {B : World} {G : GMap} {Γ : List Chunk} {W : World} (HT : Tabs B G) (a0 : T25) (Aa0_f2 : Option Addr) (ca0_f2 : Nat) (Ha0_f2 : Rd kStr G Aa0_f2 ca0_f2 a0.f2) (Aa0_f3 : Option Addr) (ca0_f3 : Nat) (Ha0_f3 : Rd k25 G Aa0_f3 ca0_f3 a0.f3) (r : Bool) (h : rec_ a0 = some r) (hI : Inv B G (Γ) W),
    Calls Tryd.prog 34 [.agg #[.int .i64 a0.f0, .int .i64 a0.f1, .slice Aa0_f2 a0.f2.length ca0_f2, .slice Aa0_f3 a0.f3.length ca0_f3]].toArray W (Ret B (fun v G' Γ' => v = .bool r ∧ G = G' ∧ Γ = Γ'))) (a0 : T25) (Aa0_f2 : Option Addr) (ca0_f2 : Nat) (Ha0_f2 : Rd kStr G Aa0_f2 ca0_f2 a0.f2) (Aa0_f3 : Option Addr) (ca0_f3 : Nat) (Ha0_f3 : Rd k25 G Aa0_f3 ca0_f3 a0.f3) (r : Bool) (h : ask_good_1 rec_ a0 = some r) (hI : Inv B G (Γ) W) :
    Calls Tryd.prog 63 [.agg #[.int .i64 a0.f0, .int .i64 a0.f1, .slice Aa0_f2 a0.f2.length ca0_f2, .slice Aa0_f3 a0.f3.length ca0_f3]].toArray W (Ret B (fun v G' Γ' => v = .bool r ∧ G = G' ∧ Γ = Γ')) := by
  refine calls_WP (Γ := Γ) (G := G) (B := B) Tryd.func63 rfl (by kernel_rfl) ?_ hI
  clear hI
  unfold ask_good_1 at h
  refine WP.seqR ?_
  refine WL.op (op := .box 25 (.tmp 0)) (ty := 0) (d := some 1) (g := none) (by kernel_rfl) (by kernel_rfl) (by kernel_rfl) (Does.new (o := .cells #[.int .i64 a0.f0, .int .i64 a0.f1, .slice Aa0_f2 a0.f2.length ca0_f2, .slice Aa0_f3 a0.f3.length ca0_f3] 25 (0, 0)) (v := fun r => .pointer (some ⟨r, 0, none⟩)) (fun r => by kernel_rfl)) ?_
  rintro _ _ _ ⟨b1, rfl, rfl, rfl⟩
  refine WL.restQ 1 [1] (L' := [(1, .pointer (some ⟨b1, 0, none⟩))]) (by kernel_rfl) ?_
  refine WP.seqR ?_
  refine WL.tell (op := .load 25 (.tmp 1)) (ty := 25) (d := some 3) (g := none) (by kernel_rfl) (by kernel_rfl) (by kernel_rfl) (Tells.load_box (i := 0) (b := b1) (o := 0) (agg := true) (by rfl) ag25 (by kernel_rfl) (fun h => by cases h) (Nat.le_of_ble_eq_true rfl) (v := .agg #[.int .i64 a0.f0, .int .i64 a0.f1, .slice Aa0_f2 a0.f2.length ca0_f2, .slice Aa0_f3 a0.f3.length ca0_f3]) (by kernel_rfl)) ?_
  rw [Option.bind_eq_some_iff] at h
  obtain ⟨t2, ht3, h⟩ := h
  refine WL.op (op := .call { callee := (.value (.func 34)), args := #[(.tmp 3)], argTypes := #[25] }) (ty := 4) (d := some 4) (g := none) (by kernel_rfl) (by kernel_rfl) (by kernel_rfl) (Does.call (f := 34) (args := [.agg #[.int .i64 a0.f0, .int .i64 a0.f1, .slice Aa0_f2 a0.f2.length ca0_f2, .slice Aa0_f3 a0.f3.length ca0_f3]]) (by kernel_rfl) (fun W hI => (Hrec HT a0 Aa0_f2 ca0_f2 Ha0_f2 Aa0_f3 ca0_f3 Ha0_f3 t2 ht3 hI))) ?_
  rintro _ _ _ ⟨rfl, rfl, rfl⟩
  refine WL.restQ 2 [2] (L' := [(2, .bool (!t2))]) (by kernel_rfl) ?_
  refine WP.dropAt 0 ?_
  refine WP.ret ?_
  obtain rfl := Option.some.inj h
  exact QP.returned [2] [.bool (!t2)] _ (by kernel_rfl) (by kernel_rfl) (by kernel_rfl) (fun W hI => ⟨_, _, _, rfl, ⟨rfl, rfl, rfl⟩, hI⟩)

/-! ### slices.IndexFunc[[]grapevine/api.Ask,grapevine/api.Ask]: function 77 -/
def slices_IndexFunc_22_l0 (l0 : List T25) (rec_ : T25 → Option Bool) : Nat → Int → Option (Sum Int Unit)
  | 0, _ => none
  | k + 1, y3 => (if y3 < (l0.length : Int) then (if 0 ≤ y3 ∧ y3 < (l0.length : Int) then ((ask_good_1 rec_ (l0.getD y3.toNat z25)).bind fun t10 => (if t10 = true then some (Sum.inl y3) else slices_IndexFunc_22_l0 l0 rec_ k (IntKind.i64.wrap (y3 + 1)))) else none) else some (Sum.inr ()))
def slices_IndexFunc_22 (rec_ : T25 → Option Bool) (k : Nat) (l0 : List T25) : Option Int := ((slices_IndexFunc_22_l0 l0 rec_ k 0).bind fun os1 => match os1 with | Sum.inl r => some r | Sum.inr s1 => some (-1))
set_option maxHeartbeats 4000000 in
theorem slices_IndexFunc_22_calls {B : World} {G : GMap} {Γ : List Chunk} {W : World} (HT : Tabs B G) (rec_ : T25 → Option Bool) (Hrec : ∀ {B : World} {G : GMap} {Γ : List Chunk} {W : World} (HT : Tabs B G) (a0 : T25) (Aa0_f2 : Option Addr) (ca0_f2 : Nat) (Ha0_f2 : Rd kStr G Aa0_f2 ca0_f2 a0.f2) (Aa0_f3 : Option Addr) (ca0_f3 : Nat) (Ha0_f3 : Rd k25 G Aa0_f3 ca0_f3 a0.f3) (r : Bool) (h : rec_ a0 = some r) (hI : Inv B G (Γ) W),
    Calls Tryd.prog 34 [.agg #[.int .i64 a0.f0, .int .i64 a0.f1, .slice Aa0_f2 a0.f2.length ca0_f2, .slice Aa0_f3 a0.f3.length ca0_f3]].toArray W (Ret B (fun v G' Γ' => v = .bool r ∧ G = G' ∧ Γ = Γ'))) (k : Nat) (l0 : List T25) (Al0 : Option Addr) (cl0 : Nat) (Hl0 : Rd k25 G Al0 cl0 l0) (r : Int) (h : slices_IndexFunc_22 rec_ k l0 = some r) (hI : Inv B G (Γ) W) :
    Calls Tryd.prog 77 [.slice Al0 l0.length cl0, .func (.func 63) #[] #[]].toArray W (Ret B (fun v G' Γ' => v = .int .i64 r ∧ G = G' ∧ Γ = Γ')) := by
  refine calls_WP (Γ := Γ) (G := G) (B := B) Tryd.func77 rfl (by kernel_rfl) ?_ hI
  clear hI
  unfold slices_IndexFunc_22 at h
  refine WP.seqP [0, 1] (L' := [(0, .slice Al0 l0.length cl0), (1, .func (.func 63) #[] #[])]) (by kernel_rfl) ?_
  refine WP.seq ?_
  refine WP.seqP [0, 1, 7, 8] (L' := [(0, .slice Al0 l0.length cl0), (1, .func (.func 63) #[] #[]), (7, .int .i64 (l0.length : Int)), (8, .int .i64 0)]) (by kernel_rfl) ?_
  rw [Option.bind_eq_some_iff] at h
  obtain ⟨os1, h, hk2⟩ := h
  refine WP.cutQ (fun L' G' Γ' => ∃ s1 : Unit, Sum.inr s1 = os1 ∧ L' = [] ∧ G = G' ∧ Γ = Γ') ?_ ?_
  · skip
    refine WP.block ?_
    refine WP.pick [0, 1, 7, 8] ?_
    refine WP.loopF (fun kn4 L' G' Γ' => ∃ (y3 : Int), slices_IndexFunc_22_l0 l0 rec_ kn4 y3 = some os1 ∧ L' = [(0, .slice Al0 l0.length cl0), (1, .func (.func 63) #[] #[]), (7, .int .i64 (l0.length : Int)), (8, .int .i64 y3)] ∧ G = G' ∧ Γ = Γ') ?_ k ⟨0, h, rfl, rfl, rfl⟩
    clear h
    rintro kn5 _ _ _ ⟨y3, h, rfl, rfl, rfl⟩
    cases kn5 with
    | zero => exact absurd h (by simp [slices_IndexFunc_22_l0])
    | succ kn5 =>
      simp only [slices_IndexFunc_22_l0] at h
      refine WP.seqP [0, 1, 7, 8, 9] (L' := [(0, .slice Al0 l0.length cl0), (1, .func (.func 63) #[] #[]), (7, .int .i64 (l0.length : Int)), (8, .int .i64 y3), (9, .bool (decide (y3 < (l0.length : Int))))]) (by kernel_rfl) ?_
      refine WP.seq ?_
      refine WP.cond (b := decide (y3 < (l0.length : Int))) (by kernel_rfl) (fun hc => ?_) (fun hc => ?_)
      · replace hc := of_decide_eq_true hc
        rw [if_pos hc] at h
        have hc6 := hc
        clear hc
        refine WP.skip ?_
        refine QP.next ?_
        refine WP.pick [0, 1, 7, 8] ?_
        refine WP.seq ?_
        refine WP.block ?_
        refine WP.seqP [0, 1, 5, 7, 8] (L' := [(0, .slice Al0 l0.length cl0), (1, .func (.func 63) #[] #[]), (5, .int .i64 y3), (7, .int .i64 (l0.length : Int)), (8, .int .i64 y3)]) (by kernel_rfl) ?_
        refine WP.seqR ?_
        refine WL.pure 0 3 [0, 1, 5, 7, 8, 11, 12, 13] (L' := [(0, .slice Al0 l0.length cl0), (1, .func (.func 63) #[] #[]), (5, .int .i64 y3), (7, .int .i64 (l0.length : Int)), (8, .int .i64 y3), (11, .func (.func 63) #[] #[]), (12, .slice Al0 l0.length cl0), (13, .int .i64 y3)]) (by kernel_rfl) (by decide) ?_
        by_cases hb7 : 0 ≤ y3 ∧ y3 < (l0.length : Int)
        case neg => rw [if_neg hb7] at h; cases h
        rw [if_pos hb7] at h
        refine WL.tell (op := .indexAddr 23 (.tmp 12) (.tmp 13)) (ty := 0) (d := some 14) (g := none) (by kernel_rfl) (by kernel_rfl) (by kernel_rfl) (Tells.indexAddr (A := Al0) (n := l0.length) (c := cl0) (k := .i64) (j := y3) (by kernel_rfl) (by kernel_rfl) (Hl0.isSome hb7.1 hb7.2) hb7.1 hb7.2 sl23) ?_
        refine WL.tellE (op := .load 25 (.tmp 14)) (ty := 25) (d := some 15) (g := none) (by kernel_rfl) (by kernel_rfl) (by kernel_rfl) (Hl0.load (agg := true) hb7.1 hb7.2 z25 ag25 (fun h => by cases h) (by kernel_rfl)) ?_
        rintro _ hrel
        obtain ⟨_, _, rfl, rfl, ⟨_, _, rfl, rfl, ⟨_, _, rfl, ⟨Ae8, ce8, rfl, He8⟩, ⟨Ae9, ce9, rfl, He9⟩⟩⟩⟩ := k25_out hrel
        replace He8 : Rd kStr G Ae8 ce8 ((l0.getD y3.toNat z25).f2) := He8
        replace He9 : Rd k25 G Ae9 ce9 ((l0.getD y3.toNat z25).f3) := He9
        rw [Option.bind_eq_some_iff] at h
        obtain ⟨t10, ht11, h⟩ := h
        refine WL.op (op := .call { callee := (.value (.tmp 11)), args := #[(.tmp 15)], argTypes := #[25] }) (ty := 4) (d := some 16) (g := none) (by kernel_rfl) (by kernel_rfl) (by kernel_rfl) (Does.call (f := 63) (args := [.agg #[.int .i64 ((l0.getD y3.toNat z25).f0), .int .i64 ((l0.getD y3.toNat z25).f1), .slice Ae8 ((l0.getD y3.toNat z25).f2).length ce8, .slice Ae9 ((l0.getD y3.toNat z25).f3).length ce9]]) (by kernel_rfl) (fun W hI => (ask_good_1_calls HT rec_ Hrec (l0.getD y3.toNat z25) Ae8 ce8 He8 Ae9 ce9 He9 t10 ht11 hI))) ?_
        rintro _ _ _ ⟨rfl, rfl, rfl⟩
        refine WL.restQ 6 [0, 1, 5, 7, 8, 16] (L' := [(0, .slice Al0 l0.length cl0), (1, .func (.func 63) #[] #[]), (5, .int .i64 y3), (7, .int .i64 (l0.length : Int)), (8, .int .i64 y3), (16, .bool t10)]) (by kernel_rfl) ?_
        refine WP.cond (b := t10) (by kernel_rfl) (fun hc => ?_) (fun hc => ?_)
        · replace hc := hc
          rw [if_pos hc] at h
          have hc14 := hc
          clear hc
          refine WP.seqP [4] (L' := [(4, .int .i64 y3)]) (by kernel_rfl) ?_
          refine WP.ret ?_
          refine QP.blockR ?_
          refine QP.thenR ?_
          refine QP.thenR ?_
          refine QP.blockR ?_
          refine QP.thenR ?_
          refine QP.thenR ?_
          obtain rfl := Option.some.inj h
          obtain rfl := Option.some.inj (show some _ = some _ from hk2)
          exact QP.returned [4] [.int .i64 y3] _ (by kernel_rfl) (by kernel_rfl) (by kernel_rfl) (fun W hI => ⟨_, _, _, rfl, ⟨rfl, rfl, rfl⟩, hI⟩)
        · replace hc := (Bool.eq_false_iff.1 hc)
          rw [if_neg hc] at h
          have hc14 := hc
          clear hc
          refine WP.skip ?_
          refine QP.blockN ?_
          refine QP.next ?_
          refine WP.pick [0, 1, 7, 8] ?_
          refine WP.regionP [0, 1, 7, 8] (L' := [(0, .slice Al0 l0.length cl0), (1, .func (.func 63) #[] #[]), (7, .int .i64 (l0.length : Int)), (8, .int .i64 (IntKind.i64.wrap (y3 + 1)))]) (by kernel_rfl) ?_
          refine QP.pick [0, 1, 7, 8] ?_
          exact QP.meet ⟨kn5, Nat.lt_succ_self _, (IntKind.i64.wrap (y3 + 1)), h, rfl, rfl, rfl⟩
      · replace hc := of_decide_eq_false hc
        rw [if_neg hc] at h
        have hc6 := hc
        clear hc
        refine WP.exit ?_
        refine QP.thenE ?_
        refine QP.thenE ?_
        refine QP.blockE ?_
        refine QP.pick [] ?_
        exact QP.meet ⟨_, Option.some.inj h, rfl, rfl, rfl⟩
  · rintro _ _ _ ⟨s1, rfl, rfl, rfl, rfl⟩
    clear h
    replace h := hk2
    dsimp only at h
    refine QP.next ?_
    refine WP.pick [] ?_
    refine WP.seqP [4] (L' := [(4, .int .i64 (-1))]) (by kernel_rfl) ?_
    refine WP.ret ?_
    obtain rfl := Option.some.inj h
    exact QP.returned [4] [.int .i64 (-1)] _ (by kernel_rfl) (by kernel_rfl) (by kernel_rfl) (fun W hI => ⟨_, _, _, rfl, ⟨rfl, rfl, rfl⟩, hI⟩)

/-! ### slices.ContainsFunc[[]grapevine/api.Ask,grapevine/api.Ask]: function 49 -/
def slices_ContainsFunc_21 (rec_ : T25 → Option Bool) (k : Nat) (l0 : List T25) : Option Bool := ((slices_IndexFunc_22 rec_ k l0).bind fun t1 => some (decide (t1 ≥ 0)))
set_option maxHeartbeats 4000000 in
theorem slices_ContainsFunc_21_calls {B : World} {G : GMap} {Γ : List Chunk} {W : World} (HT : Tabs B G) (rec_ : T25 → Option Bool) (Hrec : ∀ {B : World} {G : GMap} {Γ : List Chunk} {W : World} (HT : Tabs B G) (a0 : T25) (Aa0_f2 : Option Addr) (ca0_f2 : Nat) (Ha0_f2 : Rd kStr G Aa0_f2 ca0_f2 a0.f2) (Aa0_f3 : Option Addr) (ca0_f3 : Nat) (Ha0_f3 : Rd k25 G Aa0_f3 ca0_f3 a0.f3) (r : Bool) (h : rec_ a0 = some r) (hI : Inv B G (Γ) W),
    Calls Tryd.prog 34 [.agg #[.int .i64 a0.f0, .int .i64 a0.f1, .slice Aa0_f2 a0.f2.length ca0_f2, .slice Aa0_f3 a0.f3.length ca0_f3]].toArray W (Ret B (fun v G' Γ' => v = .bool r ∧ G = G' ∧ Γ = Γ'))) (k : Nat) (l0 : List T25) (Al0 : Option Addr) (cl0 : Nat) (Hl0 : Rd k25 G Al0 cl0 l0) (r : Bool) (h : slices_ContainsFunc_21 rec_ k l0 = some r) (hI : Inv B G (Γ) W) :
    Calls Tryd.prog 49 [.slice Al0 l0.length cl0, .func (.func 63) #[] #[]].toArray W (Ret B (fun v G' Γ' => v = .bool r ∧ G = G' ∧ Γ = Γ')) := by
  refine calls_WP (Γ := Γ) (G := G) (B := B) Tryd.func49 rfl (by kernel_rfl) ?_ hI
  clear hI
  unfold slices_ContainsFunc_21 at h
  refine WP.seqP [0, 1] (L' := [(0, .slice Al0 l0.length cl0), (1, .func (.func 63) #[] #[])]) (by kernel_rfl) ?_
  refine WP.seqR ?_
  refine WL.pure 0 2 [5, 6] (L' := [(5, .slice Al0 l0.length cl0), (6, .func (.func 63) #[] #[])]) (by kernel_rfl) (by decide) ?_
  rw [Option.bind_eq_some_iff] at h
  obtain ⟨t1, ht2, h⟩ := h
  refine WL.op (op := .call { callee := (.value (.func 77)), args := #[(.tmp 5), (.tmp 6)], argTypes := #[23, 33] }) (ty := 3) (d := some 7) (g := none) (by kernel_rfl) (by kernel_rfl) (by kernel_rfl) (Does.call (f := 77) (args := [.slice Al0 l0.length cl0, .func (.func 63) #[] #[]]) (by kernel_rfl) (fun W hI => (slices_IndexFunc_22_calls HT rec_ Hrec k l0 Al0 cl0 Hl0 t1 ht2 hI))) ?_
  rintro _ _ _ ⟨rfl, rfl, rfl⟩
  refine WL.restQ 3 [4] (L' := [(4, .bool (decide (t1 ≥ 0)))]) (by kernel_rfl) ?_
  refine WP.ret ?_
  obtain rfl := Option.some.inj h
  exact QP.returned [4] [.bool (decide (t1 ≥ 0))] _ (by kernel_rfl) (by kernel_rfl) (by kernel_rfl) (fun W hI => ⟨_, _, _, rfl, ⟨rfl, rfl, rfl⟩, hI⟩)

/-! ### grapevine/ask.good: function 34 -/
def ask_good : Nat → T25 → Option Bool
  | 0, _ => none
  | k + 1, a0 => ((ask_shaped a0.f0).bind fun t2 => ((if (!t2.2) = true then some true else (if a0.f1 < 0 then some true else (if a0.f1 > t2.1.f4 then some true else (if (a0.f2.length : Int) < t2.1.f0 then some true else (if (a0.f2.length : Int) > t2.1.f1 then some true else (if (a0.f3.length : Int) < t2.1.f2 then some true else some (decide ((a0.f3.length : Int) > t2.1.f3)))))))).bind fun s7 => (if s7 = true then some false else (((slices_ContainsFunc k a0.f2).bind fun t18 => (if (!t18) = true then ((slices_ContainsFunc_21 (ask_good k) k a0.f3).bind fun t23 => some (!t23)) else some false)).bind fun s16 => some s16))))
set_option maxHeartbeats 4000000 in
theorem ask_good_calls_k (k : Nat) : ∀ {B : World} {G : GMap} {Γ : List Chunk} {W : World} (HT : Tabs B G) (a0 : T25) (Aa0_f2 : Option Addr) (ca0_f2 : Nat) (Ha0_f2 : Rd kStr G Aa0_f2 ca0_f2 a0.f2) (Aa0_f3 : Option Addr) (ca0_f3 : Nat) (Ha0_f3 : Rd k25 G Aa0_f3 ca0_f3 a0.f3) (r : Bool) (h : ask_good k a0 = some r) (hI : Inv B G (Γ) W),
    Calls Tryd.prog 34 [.agg #[.int .i64 a0.f0, .int .i64 a0.f1, .slice Aa0_f2 a0.f2.length ca0_f2, .slice Aa0_f3 a0.f3.length ca0_f3]].toArray W (Ret B (fun v G' Γ' => v = .bool r ∧ G = G' ∧ Γ = Γ')) := by
  induction k with
  | zero => intro B G Γ W HT a0 Aa0_f2 ca0_f2 Ha0_f2 Aa0_f3 ca0_f3 Ha0_f3 r h hI; exact absurd h (by simp [ask_good])
  | succ kf ih =>
    intro B G Γ W HT a0 Aa0_f2 ca0_f2 Ha0_f2 Aa0_f3 ca0_f3 Ha0_f3 r h hI
    refine calls_WP (Γ := Γ) (G := G) (B := B) Tryd.func34 rfl (by kernel_rfl) ?_ hI
    clear hI
    simp only [ask_good] at h
    refine WP.seqR ?_
    refine WL.op (op := .box 25 (.tmp 0)) (ty := 0) (d := some 1) (g := none) (by kernel_rfl) (by kernel_rfl) (by kernel_rfl) (Does.new (o := .cells #[.int .i64 a0.f0, .int .i64 a0.f1, .slice Aa0_f2 a0.f2.length ca0_f2, .slice Aa0_f3 a0.f3.length ca0_f3] 25 (0, 0)) (v := fun r => .pointer (some ⟨r, 0, none⟩)) (fun r => by kernel_rfl)) ?_
    rintro _ _ _ ⟨b1, rfl, rfl, rfl⟩
    refine WL.restQ 1 [1] (L' := [(1, .pointer (some ⟨b1, 0, none⟩))]) (by kernel_rfl) ?_
    refine WP.seqR ?_
    refine WL.pure 0 1 [1, 8] (L' := [(1, .pointer (some ⟨b1, 0, none⟩)), (8, .pointer (some ⟨b1, 0, none⟩))]) (by kernel_rfl) (by decide) ?_
    refine WL.tell (op := .load 3 (.tmp 8)) (ty := 3) (d := some 9) (g := none) (by kernel_rfl) (by kernel_rfl) (by kernel_rfl) (Tells.load_box (i := 0) (b := b1) (o := 0) (agg := false) (by rfl) ag3 (by kernel_rfl) (fun _ => rfl) (Nat.le_of_ble_eq_true rfl) (v := .int .i64 a0.f0) (by kernel_rfl)) ?_
    rw [Option.bind_eq_some_iff] at h
    obtain ⟨t2, ht3, h⟩ := h
    refine WL.op (op := .call { callee := (.value (.func 60)), args := #[(.tmp 9)], argTypes := #[3] }) (ty := 84) (d := some 10) (g := none) (by kernel_rfl) (by kernel_rfl) (by kernel_rfl) (Does.call (f := 60) (args := [.int .i64 a0.f0]) (by kernel_rfl) (fun W hI => (ask_shaped_calls a0.f0  t2 ht3 hI))) ?_
    rintro _ _ _ ⟨rfl, rfl, rfl⟩
    refine WL.pure 3 6 [1, 11, 12] (L' := [(1, .pointer (some ⟨b1, 0, none⟩)), (11, .agg #[.int .i64 t2.1.f0, .int .i64 t2.1.f1, .int .i64 t2.1.f2, .int .i64 t2.1.f3, .int .i64 t2.1.f4]), (12, .bool t2.2)]) (by kernel_rfl) (by decide) ?_
    refine WL.op (op := .alloc 83) (ty := 0) (d := some 3) (g := none) (by kernel_rfl) (by kernel_rfl) (by kernel_rfl) (Does.new (o := .cells #[.int .i64 0, .int .i64 0, .int .i64 0, .int .i64 0, .int .i64 0] 83 (0, 0)) (v := fun r => .pointer (some ⟨r, 0, none⟩)) (fun r => by kernel_rfl)) ?_
    rintro _ _ _ ⟨b6, rfl, rfl, rfl⟩
    refine WL.op (op := .store 83 (.tmp 3) (.tmp 11)) (ty := 0) (d := none) (g := none) (by kernel_rfl) (by kernel_rfl) (by kernel_rfl) (Does.store_box (i := 0) (b := b6) (o := 0) (v := .agg #[.int .i64 t2.1.f0, .int .i64 t2.1.f1, .int .i64 t2.1.f2, .int .i64 t2.1.f3, .int .i64 t2.1.f4]) (by rfl) sz83 (by kernel_rfl) (by kernel_rfl) (by kernel_rfl) (Free.zero _) (Nat.le_of_ble_eq_true rfl) (cells' := #[.int .i64 t2.1.f0, .int .i64 t2.1.f1, .int .i64 t2.1.f2, .int .i64 t2.1.f3, .int .i64 t2.1.f4]) (by kernel_rfl)) ?_
    rintro _ _ _ ⟨rfl, rfl, rfl⟩
    refine WL.restQ 8 [1, 3, 4] (L' := [(1, .pointer (some ⟨b1, 0, none⟩)), (3, .pointer (some ⟨b6, 0, none⟩)), (4, .bool t2.2)]) (by kernel_rfl) ?_
    refine WP.seq ?_
    refine WP.any (N := 8) (S := [⟨some 13, [1], []⟩, ⟨some 14, [13], [0]⟩, ⟨some 15, [14], [1]⟩, ⟨some 16, [1], []⟩, ⟨some 17, [16], [3]⟩, ⟨some 18, [17], [4]⟩, ⟨some 5, [15], [0, 1, 2]⟩, ⟨some 6, [18], [0, 1, 2, 3, 4, 5, 6]⟩]) (kw := 8) (G0 := G) (Γ0 := [(b6, .cells #[.int .i64 t2.1.f0, .int .i64 t2.1.f1, .int .i64 t2.1.f2, .int .i64 t2.1.f3, .int .i64 t2.1.f4] 83 (0, 0))] :: [(b1, .cells #[.int .i64 a0.f0, .int .i64 a0.f1, .slice Aa0_f2 a0.f2.length ca0_f2, .slice Aa0_f3 a0.f3.length ca0_f3] 25 (0, 0))] :: Γ) mo (by kernel_rfl) (fun hS => ?_)
    refine WA.pure [0, 3] [1, 3, 4, 13, 16] (m := 6) (b' := 9) (L' := [(1, .pointer (some ⟨b1, 0, none⟩)), (3, .pointer (some ⟨b6, 0, none⟩)), (4, .bool t2.2), (13, .pointer (some ⟨b1, 2, none⟩)), (16, .pointer (some ⟨b1, 3, none⟩))]) (by kernel_rfl) (NoPanic.then (NoPanic.body)) Under.refl hS (by kernel_rfl) ?_
    refine WA.tellD [] (i := 1) (m := 5) (b' := 11) (by kernel_rfl) (NoPanic.then (NoPanic.body)) Under.refl hS (by kernel_rfl) (op := .load 22 (.tmp 13)) (ty := 22) (d := some 14) (g := none) (by kernel_rfl) (by kernel_rfl) (by kernel_rfl) (Tells.load_box (i := 1) (b := b1) (o := 2) (agg := false) (by rfl) ag22 (by kernel_rfl) (fun _ => rfl) (Nat.le_of_ble_eq_true rfl) (v := .slice Aa0_f2 a0.f2.length ca0_f2) (by kernel_rfl)) ?_
    refine WA.pure [2, 6] [1, 3, 4, 5, 16] (m := 3) (b' := 79) (L' := [(1, .pointer (some ⟨b1, 0, none⟩)), (3, .pointer (some ⟨b6, 0, none⟩)), (4, .bool t2.2), (5, .int .i64 (a0.f2.length : Int)), (16, .pointer (some ⟨b1, 3, none⟩))]) (by kernel_rfl) (NoPanic.then (NoPanic.body)) Under.refl hS (by kernel_rfl) ?_
    refine WA.tellD [] (i := 4) (m := 2) (b' := 95) (by kernel_rfl) (NoPanic.then (NoPanic.body)) Under.refl hS (by kernel_rfl) (op := .load 23 (.tmp 16)) (ty := 23) (d := some 17) (g := none) (by kernel_rfl) (by kernel_rfl) (by kernel_rfl) (Tells.load_box (i := 1) (b := b1) (o := 3) (agg := false) (by rfl) ag23 (by kernel_rfl) (fun _ => rfl) (Nat.le_of_ble_eq_true rfl) (v := .slice Aa0_f3 a0.f3.length ca0_f3) (by kernel_rfl)) ?_
    refine WA.pure [5, 7] [1, 3, 4, 5, 6] (m := 0) (b' := 255) (L' := [(1, .pointer (some ⟨b1, 0, none⟩)), (3, .pointer (some ⟨b6, 0, none⟩)), (4, .bool t2.2), (5, .int .i64 (a0.f2.length : Int)), (6, .int .i64 (a0.f3.length : Int))]) (by kernel_rfl) (NoPanic.then (NoPanic.body)) Under.refl hS (by kernel_rfl) ?_
    refine WA.done hS (by kernel_rfl) ?_
    refine QP.pick [1, 3, 4, 5, 6] ?_
    refine QP.next ?_
    refine WP.seq ?_
    rw [Option.bind_eq_some_iff] at h
    obtain ⟨os7, h, hk8⟩ := h
    refine WP.cut (fun L' G' Γ' => ∃ s7 : Bool, s7 = os7 ∧ L' = [(1, .pointer (some ⟨b1, 0, none⟩)), (56, .bool s7)] ∧ G = G' ∧ [(b1, .cells #[.int .i64 a0.f0, .int .i64 a0.f1, .slice Aa0_f2 a0.f2.length ca0_f2, .slice Aa0_f3 a0.f3.length ca0_f3] 25 (0, 0))] :: Γ = Γ') ?_ ?_
    · clear hk8
      refine WP.region ?_
      refine WL.pure 0 3 [1, 3, 5, 6, 21] (L' := [(1, .pointer (some ⟨b1, 0, none⟩)), (3, .pointer (some ⟨b6, 0, none⟩)), (5, .int .i64 (a0.f2.length : Int)), (6, .int .i64 (a0.f3.length : Int)), (21, .bool (!t2.2))]) (by kernel_rfl) (by decide) ?_
      refine WL.split 21 (b := (!t2.2)) (by kernel_rfl) (fun hc => ?_) (fun hc => ?_)
      · replace hc := hc
        rw [if_pos hc] at h
        have hc9 := hc
        clear hc
        refine WL.rest 3 [1, 56] (L' := [(1, .pointer (some ⟨b1, 0, none⟩)), (56, .bool true)]) (by kernel_rfl) ?_
        refine QP.dropAt 0 ?_
        refine QP.pick [1, 56] ?_
        exact QP.meet ⟨_, Option.some.inj h, rfl, rfl, rfl⟩
      · replace hc := (Bool.eq_false_iff.1 hc)
        rw [if_neg hc] at h
        have hc9 := hc
        clear hc
        refine WL.pure 3 4 [1, 3, 5, 6, 21, 22] (L' := [(1, .pointer (some ⟨b1, 0, none⟩)), (3, .pointer (some ⟨b6, 0, none⟩)), (5, .int .i64 (a0.f2.length : Int)), (6, .int .i64 (a0.f3.length : Int)), (21, .bool false), (22, .pointer (some ⟨b1, 1, none⟩))]) (by kernel_rfl) (by decide) ?_
        refine WL.tell (op := .load 3 (.tmp 22)) (ty := 3) (d := some 23) (g := some (2, false)) (by kernel_rfl) (by kernel_rfl) (by kernel_rfl) (Tells.load_box (i := 1) (b := b1) (o := 1) (agg := false) (by rfl) ag3 (by kernel_rfl) (fun _ => rfl) (Nat.le_of_ble_eq_true rfl) (v := .int .i64 a0.f1) (by kernel_rfl)) ?_
        refine WL.pure 5 8 [1, 3, 5, 6, 26] (L' := [(1, .pointer (some ⟨b1, 0, none⟩)), (3, .pointer (some ⟨b6, 0, none⟩)), (5, .int .i64 (a0.f2.length : Int)), (6, .int .i64 (a0.f3.length : Int)), (26, .bool (decide (a0.f1 < 0)))]) (by kernel_rfl) (by decide) ?_
        refine WL.split 26 (b := decide (a0.f1 < 0)) (by kernel_rfl) (fun hc => ?_) (fun hc => ?_)
        · replace hc := of_decide_eq_true hc
          rw [if_pos hc] at h
          have hc10 := hc
          clear hc
          refine WL.rest 8 [1, 56] (L' := [(1, .pointer (some ⟨b1, 0, none⟩)), (56, .bool true)]) (by kernel_rfl) ?_
          refine QP.dropAt 0 ?_
          refine QP.pick [1, 56] ?_
          exact QP.meet ⟨_, Option.some.inj h, rfl, rfl, rfl⟩
        · replace hc := of_decide_eq_false hc
          rw [if_neg hc] at h
          have hc10 := hc
          clear hc
          refine WL.pure 8 9 [1, 3, 5, 6, 26, 27] (L' := [(1, .pointer (some ⟨b1, 0, none⟩)), (3, .pointer (some ⟨b6, 0, none⟩)), (5, .int .i64 (a0.f2.length : Int)), (6, .int .i64 (a0.f3.length : Int)), (26, .bool false), (27, .pointer (some ⟨b1, 1, none⟩))]) (by kernel_rfl) (by decide) ?_
          refine WL.tell (op := .load 3 (.tmp 27)) (ty := 3) (d := some 28) (g := some (7, false)) (by kernel_rfl) (by kernel_rfl) (by kernel_rfl) (Tells.load_box (i := 1) (b := b1) (o := 1) (agg := false) (by rfl) ag3 (by kernel_rfl) (fun _ => rfl) (Nat.le_of_ble_eq_true rfl) (v := .int .i64 a0.f1) (by kernel_rfl)) ?_
          refine WL.pure 10 11 [1, 3, 5, 6, 26, 28, 29] (L' := [(1, .pointer (some ⟨b1, 0, none⟩)), (3, .pointer (some ⟨b6, 0, none⟩)), (5, .int .i64 (a0.f2.length : Int)), (6, .int .i64 (a0.f3.length : Int)), (26, .bool false), (28, .int .i64 a0.f1), (29, .pointer (some ⟨b6, 4, none⟩))]) (by kernel_rfl) (by decide) ?_
          refine WL.tell (op := .load 3 (.tmp 29)) (ty := 3) (d := some 30) (g := some (7, false)) (by kernel_rfl) (by kernel_rfl) (by kernel_rfl) (Tells.load_box (i := 0) (b := b6) (o := 4) (agg := false) (by rfl) ag3 (by kernel_rfl) (fun _ => rfl) (Nat.le_of_ble_eq_true rfl) (v := .int .i64 t2.1.f4) (by kernel_rfl)) ?_
          refine WL.pure 12 15 [1, 3, 5, 6, 33] (L' := [(1, .pointer (some ⟨b1, 0, none⟩)), (3, .pointer (some ⟨b6, 0, none⟩)), (5, .int .i64 (a0.f2.length : Int)), (6, .int .i64 (a0.f3.length : Int)), (33, .bool (decide (a0.f1 > t2.1.f4)))]) (by kernel_rfl) (by decide) ?_
          refine WL.split 33 (b := decide (a0.f1 > t2.1.f4)) (by kernel_rfl) (fun hc => ?_) (fun hc => ?_)
          · replace hc := of_decide_eq_true hc
            rw [if_pos hc] at h
            have hc11 := hc
            clear hc
            refine WL.rest 15 [1, 56] (L' := [(1, .pointer (some ⟨b1, 0, none⟩)), (56, .bool true)]) (by kernel_rfl) ?_
            refine QP.dropAt 0 ?_
            refine QP.pick [1, 56] ?_
            exact QP.meet ⟨_, Option.some.inj h, rfl, rfl, rfl⟩
          · replace hc := of_decide_eq_false hc
            rw [if_neg hc] at h
            have hc11 := hc
            clear hc
            refine WL.pure 15 17 [1, 3, 5, 6, 33, 34, 35] (L' := [(1, .pointer (some ⟨b1, 0, none⟩)), (3, .pointer (some ⟨b6, 0, none⟩)), (5, .int .i64 (a0.f2.length : Int)), (6, .int .i64 (a0.f3.length : Int)), (33, .bool false), (34, .int .i64 (a0.f2.length : Int)), (35, .pointer (some ⟨b6, 0, none⟩))]) (by kernel_rfl) (by decide) ?_
            refine WL.tell (op := .load 3 (.tmp 35)) (ty := 3) (d := some 36) (g := some (14, false)) (by kernel_rfl) (by kernel_rfl) (by kernel_rfl) (Tells.load_box (i := 0) (b := b6) (o := 0) (agg := false) (by rfl) ag3 (by kernel_rfl) (fun _ => rfl) (Nat.le_of_ble_eq_true rfl) (v := .int .i64 t2.1.f0) (by kernel_rfl)) ?_
            refine WL.pure 18 21 [1, 3, 5, 6, 39] (L' := [(1, .pointer (some ⟨b1, 0, none⟩)), (3, .pointer (some ⟨b6, 0, none⟩)), (5, .int .i64 (a0.f2.length : Int)), (6, .int .i64 (a0.f3.length : Int)), (39, .bool (decide ((a0.f2.length : Int) < t2.1.f0)))]) (by kernel_rfl) (by decide) ?_
            refine WL.split 39 (b := decide ((a0.f2.length : Int) < t2.1.f0)) (by kernel_rfl) (fun hc => ?_) (fun hc => ?_)
            · replace hc := of_decide_eq_true hc
              rw [if_pos hc] at h
              have hc12 := hc
              clear hc
              refine WL.rest 21 [1, 56] (L' := [(1, .pointer (some ⟨b1, 0, none⟩)), (56, .bool true)]) (by kernel_rfl) ?_
              refine QP.dropAt 0 ?_
              refine QP.pick [1, 56] ?_
              exact QP.meet ⟨_, Option.some.inj h, rfl, rfl, rfl⟩
            · replace hc := of_decide_eq_false hc
              rw [if_neg hc] at h
              have hc12 := hc
              clear hc
              refine WL.pure 21 23 [1, 3, 6, 39, 40, 41] (L' := [(1, .pointer (some ⟨b1, 0, none⟩)), (3, .pointer (some ⟨b6, 0, none⟩)), (6, .int .i64 (a0.f3.length : Int)), (39, .bool false), (40, .int .i64 (a0.f2.length : Int)), (41, .pointer (some ⟨b6, 1, none⟩))]) (by kernel_rfl) (by decide) ?_
              refine WL.tell (op := .load 3 (.tmp 41)) (ty := 3) (d := some 42) (g := some (20, false)) (by kernel_rfl) (by kernel_rfl) (by kernel_rfl) (Tells.load_box (i := 0) (b := b6) (o := 1) (agg := false) (by rfl) ag3 (by kernel_rfl) (fun _ => rfl) (Nat.le_of_ble_eq_true rfl) (v := .int .i64 t2.1.f1) (by kernel_rfl)) ?_
              refine WL.pure 24 27 [1, 3, 6, 45] (L' := [(1, .pointer (some ⟨b1, 0, none⟩)), (3, .pointer (some ⟨b6, 0, none⟩)), (6, .int .i64 (a0.f3.length : Int)), (45, .bool (decide ((a0.f2.length : Int) > t2.1.f1)))]) (by kernel_rfl) (by decide) ?_
              refine WL.split 45 (b := decide ((a0.f2.length : Int) > t2.1.f1)) (by kernel_rfl) (fun hc => ?_) (fun hc => ?_)
              · replace hc := of_decide_eq_true hc
                rw [if_pos hc] at h
                have hc13 := hc
                clear hc
                refine WL.rest 27 [1, 56] (L' := [(1, .pointer (some ⟨b1, 0, none⟩)), (56, .bool true)]) (by kernel_rfl) ?_
                refine QP.dropAt 0 ?_
                refine QP.pick [1, 56] ?_
                exact QP.meet ⟨_, Option.some.inj h, rfl, rfl, rfl⟩
              · replace hc := of_decide_eq_false hc
                rw [if_neg hc] at h
                have hc13 := hc
                clear hc
                refine WL.pure 27 29 [1, 3, 6, 45, 46, 47] (L' := [(1, .pointer (some ⟨b1, 0, none⟩)), (3, .pointer (some ⟨b6, 0, none⟩)), (6, .int .i64 (a0.f3.length : Int)), (45, .bool false), (46, .int .i64 (a0.f3.length : Int)), (47, .pointer (some ⟨b6, 2, none⟩))]) (by kernel_rfl) (by decide) ?_
                refine WL.tell (op := .load 3 (.tmp 47)) (ty := 3) (d := some 48) (g := some (26, false)) (by kernel_rfl) (by kernel_rfl) (by kernel_rfl) (Tells.load_box (i := 0) (b := b6) (o := 2) (agg := false) (by rfl) ag3 (by kernel_rfl) (fun _ => rfl) (Nat.le_of_ble_eq_true rfl) (v := .int .i64 t2.1.f2) (by kernel_rfl)) ?_
                refine WL.pure 30 33 [1, 3, 6, 51] (L' := [(1, .pointer (some ⟨b1, 0, none⟩)), (3, .pointer (some ⟨b6, 0, none⟩)), (6, .int .i64 (a0.f3.length : Int)), (51, .bool (decide ((a0.f3.length : Int) < t2.1.f2)))]) (by kernel_rfl) (by decide) ?_
                refine WL.split 51 (b := decide ((a0.f3.length : Int) < t2.1.f2)) (by kernel_rfl) (fun hc => ?_) (fun hc => ?_)
                · replace hc := of_decide_eq_true hc
                  rw [if_pos hc] at h
                  have hc14 := hc
                  clear hc
                  refine WL.rest 33 [1, 56] (L' := [(1, .pointer (some ⟨b1, 0, none⟩)), (56, .bool true)]) (by kernel_rfl) ?_
                  refine QP.dropAt 0 ?_
                  refine QP.pick [1, 56] ?_
                  exact QP.meet ⟨_, Option.some.inj h, rfl, rfl, rfl⟩
                · replace hc := of_decide_eq_false hc
                  rw [if_neg hc] at h
                  have hc14 := hc
                  clear hc
                  refine WL.pure 33 35 [1, 51, 52, 53] (L' := [(1, .pointer (some ⟨b1, 0, none⟩)), (51, .bool false), (52, .int .i64 (a0.f3.length : Int)), (53, .pointer (some ⟨b6, 3, none⟩))]) (by kernel_rfl) (by decide) ?_
                  refine WL.tell (op := .load 3 (.tmp 53)) (ty := 3) (d := some 54) (g := some (32, false)) (by kernel_rfl) (by kernel_rfl) (by kernel_rfl) (Tells.load_box (i := 0) (b := b6) (o := 3) (agg := false) (by rfl) ag3 (by kernel_rfl) (fun _ => rfl) (Nat.le_of_ble_eq_true rfl) (v := .int .i64 t2.1.f3) (by kernel_rfl)) ?_
                  refine WL.rest 36 [1, 56] (L' := [(1, .pointer (some ⟨b1, 0, none⟩)), (56, .bool (decide ((a0.f3.length : Int) > t2.1.f3)))]) (by kernel_rfl) ?_
                  refine QP.dropAt 0 ?_
                  refine QP.pick [1, 56] ?_
                  exact QP.meet ⟨_, Option.some.inj h, rfl, rfl, rfl⟩
    · rintro _ _ _ ⟨s7, rfl, rfl, rfl, rfl⟩
      clear h
      replace h := hk8
      refine WP.cond (b := s7) (by kernel_rfl) (fun hc => ?_) (fun hc => ?_)
      · replace hc := hc
        rw [if_pos hc] at h
        have hc15 := hc
        clear hc
        refine WP.seqP [2] (L' := [(2, .bool false)]) (by kernel_rfl) ?_
        refine WP.dropAt 0 ?_
        refine WP.ret ?_
        refine QP.thenR ?_
        obtain rfl := Option.some.inj h
        exact QP.returned [2] [.bool false] _ (by kernel_rfl) (by kernel_rfl) (by kernel_rfl) (fun W hI => ⟨_, _, _, rfl, ⟨rfl, rfl, rfl⟩, hI⟩)
      · replace hc := (Bool.eq_false_iff.1 hc)
        rw [if_neg hc] at h
        have hc15 := hc
        clear hc
        refine WP.skip ?_
        refine QP.next ?_
        refine WP.pick [1] ?_
        rw [Option.bind_eq_some_iff] at h
        obtain ⟨os16, h, hk17⟩ := h
        refine WP.cut (fun L' G' Γ' => ∃ s16 : Bool, s16 = os16 ∧ L' = [(2, .bool s16)] ∧ G = G' ∧ Γ = Γ') ?_ ?_
        · clear hk17
          refine WP.region ?_
          refine WL.pure 0 1 [1, 57] (L' := [(1, .pointer (some ⟨b1, 0, none⟩)), (57, .pointer (some ⟨b1, 2, none⟩))]) (by kernel_rfl) (by decide) ?_
          refine WL.tell (op := .load 22 (.tmp 57)) (ty := 22) (d := some 58) (g := none) (by kernel_rfl) (by kernel_rfl) (by kernel_rfl) (Tells.load_box (i := 0) (b := b1) (o := 2) (agg := false) (by rfl) ag22 (by kernel_rfl) (fun _ => rfl) (Nat.le_of_ble_eq_true rfl) (v := .slice Aa0_f2 a0.f2.length ca0_f2) (by kernel_rfl)) ?_
          rw [Option.bind_eq_some_iff] at h
          obtain ⟨t18, ht19, h⟩ := h
          refine WL.op (op := .call { callee := (.value (.func 61)), args := #[(.tmp 58), (.func 62)], argTypes := #[22, 63] }) (ty := 4) (d := some 59) (g := none) (by kernel_rfl) (by kernel_rfl) (by kernel_rfl) (Does.call (f := 61) (args := [.slice Aa0_f2 a0.f2.length ca0_f2, .func (.func 62) #[] #[]]) (by kernel_rfl) (fun W hI => (slices_ContainsFunc_calls HT kf a0.f2 Aa0_f2 ca0_f2 Ha0_f2 t18 ht19 hI))) ?_
          rintro _ _ _ ⟨rfl, rfl, rfl⟩
          refine WL.pure 3 5 [1, 61] (L' := [(1, .pointer (some ⟨b1, 0, none⟩)), (61, .bool (!t18))]) (by kernel_rfl) (by decide) ?_
          refine WL.split 61 (b := (!t18)) (by kernel_rfl) (fun hc => ?_) (fun hc => ?_)
          · replace hc := hc
            rw [if_pos hc] at h
            have hc22 := hc
            clear hc
            refine WL.pure 5 6 [61, 62] (L' := [(61, .bool true), (62, .pointer (some ⟨b1, 3, none⟩))]) (by kernel_rfl) (by decide) ?_
            refine WL.tell (op := .load 23 (.tmp 62)) (ty := 23) (d := some 63) (g := some (4, true)) (by kernel_rfl) (by kernel_rfl) (by kernel_rfl) (Tells.load_box (i := 0) (b := b1) (o := 3) (agg := false) (by rfl) ag23 (by kernel_rfl) (fun _ => rfl) (Nat.le_of_ble_eq_true rfl) (v := .slice Aa0_f3 a0.f3.length ca0_f3) (by kernel_rfl)) ?_
            rw [Option.bind_eq_some_iff] at h
            obtain ⟨t23, ht24, h⟩ := h
            refine WL.op (op := .call { callee := (.value (.func 49)), args := #[(.tmp 63), (.func 63)], argTypes := #[23, 33] }) (ty := 4) (d := some 64) (g := some (4, true)) (by kernel_rfl) (by kernel_rfl) (by kernel_rfl) (Does.call (f := 49) (args := [.slice Aa0_f3 a0.f3.length ca0_f3, .func (.func 63) #[] #[]]) (by kernel_rfl) (fun W hI => (slices_ContainsFunc_21_calls HT (ask_good kf) ih kf a0.f3 Aa0_f3 ca0_f3 Ha0_f3 t23 ht24 hI))) ?_
            rintro _ _ _ ⟨rfl, rfl, rfl⟩
            refine WL.rest 8 [2] (L' := [(2, .bool (!t23))]) (by kernel_rfl) ?_
            refine QP.dropAt 0 ?_
            refine QP.pick [2] ?_
            exact QP.meet ⟨_, Option.some.inj h, rfl, rfl, rfl⟩
          · replace hc := (Bool.eq_false_iff.1 hc)
            rw [if_neg hc] at h
            have hc22 := hc
            clear hc
            refine WL.rest 5 [2] (L' := [(2, .bool false)]) (by kernel_rfl) ?_
            refine QP.dropAt 0 ?_
            refine QP.pick [2] ?_
            exact QP.meet ⟨_, Option.some.inj h, rfl, rfl, rfl⟩
        · rintro _ _ _ ⟨s16, rfl, rfl, rfl, rfl⟩
          clear h
          replace h := hk17
          refine WP.ret ?_
          obtain rfl := Option.some.inj h
          exact QP.returned [2] [.bool s16] _ (by kernel_rfl) (by kernel_rfl) (by kernel_rfl) (fun W hI => ⟨_, _, _, rfl, ⟨rfl, rfl, rfl⟩, hI⟩)
theorem ask_good_calls {B : World} {G : GMap} {Γ : List Chunk} {W : World} (HT : Tabs B G) (k : Nat) (a0 : T25) (Aa0_f2 : Option Addr) (ca0_f2 : Nat) (Ha0_f2 : Rd kStr G Aa0_f2 ca0_f2 a0.f2) (Aa0_f3 : Option Addr) (ca0_f3 : Nat) (Ha0_f3 : Rd k25 G Aa0_f3 ca0_f3 a0.f3) (r : Bool) (h : ask_good k a0 = some r) (hI : Inv B G (Γ) W) :
    Calls Tryd.prog 34 [.agg #[.int .i64 a0.f0, .int .i64 a0.f1, .slice Aa0_f2 a0.f2.length ca0_f2, .slice Aa0_f3 a0.f3.length ca0_f3]].toArray W (Ret B (fun v G' Γ' => v = .bool r ∧ G = G' ∧ Γ = Γ')) := ask_good_calls_k k HT a0 Aa0_f2 ca0_f2 Ha0_f2 Aa0_f3 ca0_f3 Ha0_f3 r h hI

/-! ### grapevine/ask.May: function 16 -/
def ask_May (k : Nat) (a0 : T25) : Option Bool := (((ask_Deep k a0).bind fun t4 => (if t4 ≤ 6 then ((ask_Terms k a0).bind fun t9 => (if t9 ≤ 16 then ((ask_good k a0).bind fun t14 => some t14) else some false)) else some false)).bind fun s2 => some s2)
set_option maxHeartbeats 4000000 in
theorem ask_May_calls {B : World} {G : GMap} {Γ : List Chunk} {W : World} (HT : Tabs B G) (k : Nat) (a0 : T25) (Aa0_f2 : Option Addr) (ca0_f2 : Nat) (Ha0_f2 : Rd kStr G Aa0_f2 ca0_f2 a0.f2) (Aa0_f3 : Option Addr) (ca0_f3 : Nat) (Ha0_f3 : Rd k25 G Aa0_f3 ca0_f3 a0.f3) (r : Bool) (h : ask_May k a0 = some r) (hI : Inv B G (Γ) W) :
    Calls Tryd.prog 16 [.agg #[.int .i64 a0.f0, .int .i64 a0.f1, .slice Aa0_f2 a0.f2.length ca0_f2, .slice Aa0_f3 a0.f3.length ca0_f3]].toArray W (Ret B (fun v G' Γ' => v = .bool r ∧ G = G' ∧ Γ = Γ')) := by
  refine calls_WP (Γ := Γ) (G := G) (B := B) Tryd.func16 rfl (by kernel_rfl) ?_ hI
  clear hI
  unfold ask_May at h
  refine WP.seqR ?_
  refine WL.op (op := .box 25 (.tmp 0)) (ty := 0) (d := some 1) (g := none) (by kernel_rfl) (by kernel_rfl) (by kernel_rfl) (Does.new (o := .cells #[.int .i64 a0.f0, .int .i64 a0.f1, .slice Aa0_f2 a0.f2.length ca0_f2, .slice Aa0_f3 a0.f3.length ca0_f3] 25 (0, 0)) (v := fun r => .pointer (some ⟨r, 0, none⟩)) (fun r => by kernel_rfl)) ?_
  rintro _ _ _ ⟨b1, rfl, rfl, rfl⟩
  refine WL.restQ 1 [1] (L' := [(1, .pointer (some ⟨b1, 0, none⟩))]) (by kernel_rfl) ?_
  rw [Option.bind_eq_some_iff] at h
  obtain ⟨os2, h, hk3⟩ := h
  refine WP.cut (fun L' G' Γ' => ∃ s2 : Bool, s2 = os2 ∧ L' = [(2, .bool s2)] ∧ G = G' ∧ Γ = Γ') ?_ ?_
  · clear hk3
    refine WP.region ?_
    refine WL.tell (op := .load 25 (.tmp 1)) (ty := 25) (d := some 3) (g := none) (by kernel_rfl) (by kernel_rfl) (by kernel_rfl) (Tells.load_box (i := 0) (b := b1) (o := 0) (agg := true) (by rfl) ag25 (by kernel_rfl) (fun h => by cases h) (Nat.le_of_ble_eq_true rfl) (v := .agg #[.int .i64 a0.f0, .int .i64 a0.f1, .slice Aa0_f2 a0.f2.length ca0_f2, .slice Aa0_f3 a0.f3.length ca0_f3]) (by kernel_rfl)) ?_
    rw [Option.bind_eq_some_iff] at h
    obtain ⟨t4, ht5, h⟩ := h
    refine WL.op (op := .call { callee := (.value (.func 32)), args := #[(.tmp 3)], argTypes := #[25] }) (ty := 3) (d := some 4) (g := none) (by kernel_rfl) (by kernel_rfl) (by kernel_rfl) (Does.call (f := 32) (args := [.agg #[.int .i64 a0.f0, .int .i64 a0.f1, .slice Aa0_f2 a0.f2.length ca0_f2, .slice Aa0_f3 a0.f3.length ca0_f3]]) (by kernel_rfl) (fun W hI => (ask_Deep_calls k a0 Aa0_f2 ca0_f2 Ha0_f2 Aa0_f3 ca0_f3 Ha0_f3 t4 ht5 hI))) ?_
    rintro _ _ _ ⟨rfl, rfl, rfl⟩
    refine WL.pure 2 4 [1, 6] (L' := [(1, .pointer (some ⟨b1, 0, none⟩)), (6, .bool (decide (t4 ≤ 6)))]) (by kernel_rfl) (by decide) ?_
    refine WL.split 6 (b := decide (t4 ≤ 6)) (by kernel_rfl) (fun hc => ?_) (fun hc => ?_)
    · replace hc := of_decide_eq_true hc
      rw [if_pos hc] at h
      have hc8 := hc
      clear hc
      refine WL.tell (op := .load 25 (.tmp 1)) (ty := 25) (d := some 7) (g := some (3, true)) (by kernel_rfl) (by kernel_rfl) (by kernel_rfl) (Tells.load_box (i := 0) (b := b1) (o := 0) (agg := true) (by rfl) ag25 (by kernel_rfl) (fun h => by cases h) (Nat.le_of_ble_eq_true rfl) (v := .agg #[.int .i64 a0.f0, .int .i64 a0.f1, .slice Aa0_f2 a0.f2.length ca0_f2, .slice Aa0_f3 a0.f3.length ca0_f3]) (by kernel_rfl)) ?_
      rw [Option.bind_eq_some_iff] at h
      obtain ⟨t9, ht10, h⟩ := h
      refine WL.op (op := .call { callee := (.value (.func 33)), args := #[(.tmp 7)], argTypes := #[25] }) (ty := 3) (d := some 8) (g := some (3, true)) (by kernel_rfl) (by kernel_rfl) (by kernel_rfl) (Does.call (f := 33) (args := [.agg #[.int .i64 a0.f0, .int .i64 a0.f1, .slice Aa0_f2 a0.f2.length ca0_f2, .slice Aa0_f3 a0.f3.length ca0_f3]]) (by kernel_rfl) (fun W hI => (ask_Terms_calls k a0 Aa0_f2 ca0_f2 Ha0_f2 Aa0_f3 ca0_f3 Ha0_f3 t9 ht10 hI))) ?_
      rintro _ _ _ ⟨rfl, rfl, rfl⟩
      refine WL.pure 6 9 [1, 11] (L' := [(1, .pointer (some ⟨b1, 0, none⟩)), (11, .bool (decide (t9 ≤ 16)))]) (by kernel_rfl) (by decide) ?_
      refine WL.split 11 (b := decide (t9 ≤ 16)) (by kernel_rfl) (fun hc => ?_) (fun hc => ?_)
      · replace hc := of_decide_eq_true hc
        rw [if_pos hc] at h
        have hc13 := hc
        clear hc
        refine WL.tell (op := .load 25 (.tmp 1)) (ty := 25) (d := some 12) (g := some (8, true)) (by kernel_rfl) (by kernel_rfl) (by kernel_rfl) (Tells.load_box (i := 0) (b := b1) (o := 0) (agg := true) (by rfl) ag25 (by kernel_rfl) (fun h => by cases h) (Nat.le_of_ble_eq_true rfl) (v := .agg #[.int .i64 a0.f0, .int .i64 a0.f1, .slice Aa0_f2 a0.f2.length ca0_f2, .slice Aa0_f3 a0.f3.length ca0_f3]) (by kernel_rfl)) ?_
        rw [Option.bind_eq_some_iff] at h
        obtain ⟨t14, ht15, h⟩ := h
        refine WL.op (op := .call { callee := (.value (.func 34)), args := #[(.tmp 12)], argTypes := #[25] }) (ty := 4) (d := some 13) (g := some (8, true)) (by kernel_rfl) (by kernel_rfl) (by kernel_rfl) (Does.call (f := 34) (args := [.agg #[.int .i64 a0.f0, .int .i64 a0.f1, .slice Aa0_f2 a0.f2.length ca0_f2, .slice Aa0_f3 a0.f3.length ca0_f3]]) (by kernel_rfl) (fun W hI => (ask_good_calls HT k a0 Aa0_f2 ca0_f2 Ha0_f2 Aa0_f3 ca0_f3 Ha0_f3 t14 ht15 hI))) ?_
        rintro _ _ _ ⟨rfl, rfl, rfl⟩
        refine WL.rest 11 [2] (L' := [(2, .bool t14)]) (by kernel_rfl) ?_
        refine QP.dropAt 0 ?_
        refine QP.pick [2] ?_
        exact QP.meet ⟨_, Option.some.inj h, rfl, rfl, rfl⟩
      · replace hc := of_decide_eq_false hc
        rw [if_neg hc] at h
        have hc13 := hc
        clear hc
        refine WL.rest 9 [2] (L' := [(2, .bool false)]) (by kernel_rfl) ?_
        refine QP.dropAt 0 ?_
        refine QP.pick [2] ?_
        exact QP.meet ⟨_, Option.some.inj h, rfl, rfl, rfl⟩
    · replace hc := of_decide_eq_false hc
      rw [if_neg hc] at h
      have hc8 := hc
      clear hc
      refine WL.rest 4 [2] (L' := [(2, .bool false)]) (by kernel_rfl) ?_
      refine QP.dropAt 0 ?_
      refine QP.pick [2] ?_
      exact QP.meet ⟨_, Option.some.inj h, rfl, rfl, rfl⟩
  · rintro _ _ _ ⟨s2, rfl, rfl, rfl, rfl⟩
    clear h
    replace h := hk3
    refine WP.ret ?_
    obtain rfl := Option.some.inj h
    exact QP.returned [2] [.bool s2] _ (by kernel_rfl) (by kernel_rfl) (by kernel_rfl) (fun W hI => ⟨_, _, _, rfl, ⟨rfl, rfl, rfl⟩, hI⟩)

/-! ### grapevine/stamp.wall: function 64 -/
def stamp_wall (a0 : Int) : Option Bool := ((if a0 ≥ 0 then some (decide (a0 ≤ 1099511627776)) else some false).bind fun s1 => some s1)
set_option maxHeartbeats 4000000 in
theorem stamp_wall_calls {B : World} {G : GMap} {Γ : List Chunk} {W : World} (a0 : Int) (r : Bool) (h : stamp_wall a0 = some r) (hI : Inv B G (Γ) W) :
    Calls Tryd.prog 64 [.int .i64 a0].toArray W (Ret B (fun v G' Γ' => v = .bool r ∧ G = G' ∧ Γ = Γ')) := by
  refine calls_WP (Γ := Γ) (G := G) (B := B) Tryd.func64 rfl (by kernel_rfl) ?_ hI
  clear hI
  unfold stamp_wall at h
  refine WP.seqP [0] (L' := [(0, .int .i64 a0)]) (by kernel_rfl) ?_
  rw [Option.bind_eq_some_iff] at h
  obtain ⟨os1, h, hk2⟩ := h
  refine WP.cut (fun L' G' Γ' => ∃ s1 : Bool, s1 = os1 ∧ L' = [(2, .bool s1)] ∧ G = G' ∧ Γ = Γ') ?_ ?_
  · clear hk2
    refine WP.region ?_
    refine WL.pure 0 3 [0, 5] (L' := [(0, .int .i64 a0), (5, .bool (decide (a0 ≥ 0)))]) (by kernel_rfl) (by decide) ?_
    refine WL.split 5 (b := decide (a0 ≥ 0)) (by kernel_rfl) (fun hc => ?_) (fun hc => ?_)
    · replace hc := of_decide_eq_true hc
      rw [if_pos hc] at h
      have hc3 := hc
      clear hc
      refine WL.rest 3 [2] (L' := [(2, .bool (decide (a0 ≤ 1099511627776)))]) (by kernel_rfl) ?_
      refine QP.pick [2] ?_
      exact QP.meet ⟨_, Option.some.inj h, rfl, rfl, rfl⟩
    · replace hc := of_decide_eq_false hc
      rw [if_neg hc] at h
      have hc3 := hc
      clear hc
      refine WL.rest 3 [2] (L' := [(2, .bool false)]) (by kernel_rfl) ?_
      refine QP.pick [2] ?_
      exact QP.meet ⟨_, Option.some.inj h, rfl, rfl, rfl⟩
  · rintro _ _ _ ⟨s1, rfl, rfl, rfl, rfl⟩
    clear h
    replace h := hk2
    refine WP.ret ?_
    obtain rfl := Option.some.inj h
    exact QP.returned [2] [.bool s1] _ (by kernel_rfl) (by kernel_rfl) (by kernel_rfl) (fun W hI => ⟨_, _, _, rfl, ⟨rfl, rfl, rfl⟩, hI⟩)

/-! ### grapevine/stamp.May: function 35 -/
def stamp_May (a0 : T29) : Option Bool := (((stamp_wall a0.f0).bind fun t4 => (if t4 = true then (if a0.f1 ≥ 0 then some (decide (a0.f1 ≤ 65535)) else some false) else some false)).bind fun s2 => some s2)
set_option maxHeartbeats 4000000 in
theorem stamp_May_calls {B : World} {G : GMap} {Γ : List Chunk} {W : World} (a0 : T29) (r : Bool) (h : stamp_May a0 = some r) (hI : Inv B G (Γ) W) :
    Calls Tryd.prog 35 [.agg #[.int .i64 a0.f0, .int .i64 a0.f1]].toArray W (Ret B (fun v G' Γ' => v = .bool r ∧ G = G' ∧ Γ = Γ')) := by
  refine calls_WP (Γ := Γ) (G := G) (B := B) Tryd.func35 rfl (by kernel_rfl) ?_ hI
  clear hI
  unfold stamp_May at h
  refine WP.seqR ?_
  refine WL.op (op := .box 29 (.tmp 0)) (ty := 0) (d := some 1) (g := none) (by kernel_rfl) (by kernel_rfl) (by kernel_rfl) (Does.new (o := .cells #[.int .i64 a0.f0, .int .i64 a0.f1] 29 (0, 0)) (v := fun r => .pointer (some ⟨r, 0, none⟩)) (fun r => by kernel_rfl)) ?_
  rintro _ _ _ ⟨b1, rfl, rfl, rfl⟩
  refine WL.restQ 1 [1] (L' := [(1, .pointer (some ⟨b1, 0, none⟩))]) (by kernel_rfl) ?_
  rw [Option.bind_eq_some_iff] at h
  obtain ⟨os2, h, hk3⟩ := h
  refine WP.cut (fun L' G' Γ' => ∃ s2 : Bool, s2 = os2 ∧ L' = [(2, .bool s2)] ∧ G = G' ∧ Γ = Γ') ?_ ?_
  · clear hk3
    refine WP.region ?_
    refine WL.pure 0 1 [1, 3] (L' := [(1, .pointer (some ⟨b1, 0, none⟩)), (3, .pointer (some ⟨b1, 0, none⟩))]) (by kernel_rfl) (by decide) ?_
    refine WL.tell (op := .load 3 (.tmp 3)) (ty := 3) (d := some 4) (g := none) (by kernel_rfl) (by kernel_rfl) (by kernel_rfl) (Tells.load_box (i := 0) (b := b1) (o := 0) (agg := false) (by rfl) ag3 (by kernel_rfl) (fun _ => rfl) (Nat.le_of_ble_eq_true rfl) (v := .int .i64 a0.f0) (by kernel_rfl)) ?_
    rw [Option.bind_eq_some_iff] at h
    obtain ⟨t4, ht5, h⟩ := h
    refine WL.op (op := .call { callee := (.value (.func 64)), args := #[(.tmp 4)], argTypes := #[3] }) (ty := 4) (d := some 5) (g := none) (by kernel_rfl) (by kernel_rfl) (by kernel_rfl) (Does.call (f := 64) (args := [.int .i64 a0.f0]) (by kernel_rfl) (fun W hI => (stamp_wall_calls a0.f0  t4 ht5 hI))) ?_
    rintro _ _ _ ⟨rfl, rfl, rfl⟩
    refine WL.pure 3 4 [1, 6] (L' := [(1, .pointer (some ⟨b1, 0, none⟩)), (6, .bool t4)]) (by kernel_rfl) (by decide) ?_
    refine WL.split 6 (b := t4) (by kernel_rfl) (fun hc => ?_) (fun hc => ?_)
    · replace hc := hc
      rw [if_pos hc] at h
      have hc8 := hc
      clear hc
      refine WL.pure 4 5 [1, 6, 7] (L' := [(1, .pointer (some ⟨b1, 0, none⟩)), (6, .bool true), (7, .pointer (some ⟨b1, 1, none⟩))]) (by kernel_rfl) (by decide) ?_
      refine WL.tell (op := .load 3 (.tmp 7)) (ty := 3) (d := some 8) (g := some (3, true)) (by kernel_rfl) (by kernel_rfl) (by kernel_rfl) (Tells.load_box (i := 0) (b := b1) (o := 1) (agg := false) (by rfl) ag3 (by kernel_rfl) (fun _ => rfl) (Nat.le_of_ble_eq_true rfl) (v := .int .i64 a0.f1) (by kernel_rfl)) ?_
      refine WL.pure 6 9 [1, 11] (L' := [(1, .pointer (some ⟨b1, 0, none⟩)), (11, .bool (decide (a0.f1 ≥ 0)))]) (by kernel_rfl) (by decide) ?_
      refine WL.split 11 (b := decide (a0.f1 ≥ 0)) (by kernel_rfl) (fun hc => ?_) (fun hc => ?_)
      · replace hc := of_decide_eq_true hc
        rw [if_pos hc] at h
        have hc9 := hc
        clear hc
        refine WL.pure 9 10 [11, 12] (L' := [(11, .bool true), (12, .pointer (some ⟨b1, 1, none⟩))]) (by kernel_rfl) (by decide) ?_
        refine WL.tell (op := .load 3 (.tmp 12)) (ty := 3) (d := some 13) (g := some (8, true)) (by kernel_rfl) (by kernel_rfl) (by kernel_rfl) (Tells.load_box (i := 0) (b := b1) (o := 1) (agg := false) (by rfl) ag3 (by kernel_rfl) (fun _ => rfl) (Nat.le_of_ble_eq_true rfl) (v := .int .i64 a0.f1) (by kernel_rfl)) ?_
        refine WL.rest 11 [2] (L' := [(2, .bool (decide (a0.f1 ≤ 65535)))]) (by kernel_rfl) ?_
        refine QP.dropAt 0 ?_
        refine QP.pick [2] ?_
        exact QP.meet ⟨_, Option.some.inj h, rfl, rfl, rfl⟩
      · replace hc := of_decide_eq_false hc
        rw [if_neg hc] at h
        have hc9 := hc
        clear hc
        refine WL.rest 9 [2] (L' := [(2, .bool false)]) (by kernel_rfl) ?_
        refine QP.dropAt 0 ?_
        refine QP.pick [2] ?_
        exact QP.meet ⟨_, Option.some.inj h, rfl, rfl, rfl⟩
    · replace hc := (Bool.eq_false_iff.1 hc)
      rw [if_neg hc] at h
      have hc8 := hc
      clear hc
      refine WL.rest 4 [2] (L' := [(2, .bool false)]) (by kernel_rfl) ?_
      refine QP.dropAt 0 ?_
      refine QP.pick [2] ?_
      exact QP.meet ⟨_, Option.some.inj h, rfl, rfl, rfl⟩
  · rintro _ _ _ ⟨s2, rfl, rfl, rfl, rfl⟩
    clear h
    replace h := hk3
    refine WP.ret ?_
    obtain rfl := Option.some.inj h
    exact QP.returned [2] [.bool s2] _ (by kernel_rfl) (by kernel_rfl) (by kernel_rfl) (fun W hI => ⟨_, _, _, rfl, ⟨rfl, rfl, rfl⟩, hI⟩)

/-! ### grapevine/tokens.May: function 36 -/
def tokens_May (a0 : ByteArray) : Option Bool := ((if (a0.size : Int) ≤ 120 then ((utf8_ValidString a0).bind fun t4 => some t4) else some false).bind fun s1 => some s1)
set_option maxHeartbeats 4000000 in
theorem tokens_May_calls {B : World} {G : GMap} {Γ : List Chunk} {W : World} (HT : Tabs B G) (a0 : ByteArray) (r : Bool) (h : tokens_May a0 = some r) (hI : Inv B G (Γ) W) :
    Calls Tryd.prog 36 [.string a0].toArray W (Ret B (fun v G' Γ' => v = .bool r ∧ G = G' ∧ Γ = Γ')) := by
  refine calls_WP (Γ := Γ) (G := G) (B := B) Tryd.func36 rfl (by kernel_rfl) ?_ hI
  clear hI
  unfold tokens_May at h
  refine WP.seqP [0] (L' := [(0, .string a0)]) (by kernel_rfl) ?_
  rw [Option.bind_eq_some_iff] at h
  obtain ⟨os1, h, hk2⟩ := h
  refine WP.cut (fun L' G' Γ' => ∃ s1 : Bool, s1 = os1 ∧ L' = [(2, .bool s1)] ∧ G = G' ∧ Γ = Γ') ?_ ?_
  · clear hk2
    refine WP.region ?_
    refine WL.pure 0 4 [0, 6] (L' := [(0, .string a0), (6, .bool (decide ((a0.size : Int) ≤ 120)))]) (by kernel_rfl) (by decide) ?_
    refine WL.split 6 (b := decide ((a0.size : Int) ≤ 120)) (by kernel_rfl) (fun hc => ?_) (fun hc => ?_)
    · replace hc := of_decide_eq_true hc
      rw [if_pos hc] at h
      have hc3 := hc
      clear hc
      refine WL.pure 4 5 [6, 7] (L' := [(6, .bool true), (7, .string a0)]) (by kernel_rfl) (by decide) ?_
      rw [Option.bind_eq_some_iff] at h
      obtain ⟨t4, ht5, h⟩ := h
      refine WL.op (op := .call { callee := (.value (.func 65)), args := #[(.tmp 7)], argTypes := #[9] }) (ty := 4) (d := some 8) (g := some (3, true)) (by kernel_rfl) (by kernel_rfl) (by kernel_rfl) (Does.call (f := 65) (args := [.string a0]) (by kernel_rfl) (fun W hI => (utf8_ValidString_calls HT a0  t4 ht5 hI))) ?_
      rintro _ _ _ ⟨rfl, rfl, rfl⟩
      refine WL.rest 6 [2] (L' := [(2, .bool t4)]) (by kernel_rfl) ?_
      refine QP.pick [2] ?_
      exact QP.meet ⟨_, Option.some.inj h, rfl, rfl, rfl⟩
    · replace hc := of_decide_eq_false hc
      rw [if_neg hc] at h
      have hc3 := hc
      clear hc
      refine WL.rest 4 [2] (L' := [(2, .bool false)]) (by kernel_rfl) ?_
      refine QP.pick [2] ?_
      exact QP.meet ⟨_, Option.some.inj h, rfl, rfl, rfl⟩
  · rintro _ _ _ ⟨s1, rfl, rfl, rfl, rfl⟩
    clear h
    replace h := hk2
    refine WP.ret ?_
    obtain rfl := Option.some.inj h
    exact QP.returned [2] [.bool s1] _ (by kernel_rfl) (by kernel_rfl) (by kernel_rfl) (fun W hI => ⟨_, _, _, rfl, ⟨rfl, rfl, rfl⟩, hI⟩)
end Go.Proofs.YtbphlohiealbeaaDoor.Gf
