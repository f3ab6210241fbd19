/- Walks of Go functions: what each tells, as a plain Lean function, and that the Go code comes to it. Written by gg.py of this repo. -/
import Derived.Test.YtbphlohiealbeaaDoorT
namespace Go.Proofs.YtbphlohiealbeaaDoor.Gf
open Go Go.Gg
set_option maxRecDepth 100000
set_option linter.unusedVariables false
set_option linter.unusedSimpArgs false

/-! ### grapevine/grapevinelaw0.GreatTexts: function 10 -/
def grapevinelaw0_GreatTexts_l0 (l0 : List ByteArray) (a1 : Int) (a2 : Int) : Nat → Int → Option (Sum Bool Unit)
  | 0, _ => none
  | k + 1, y3 => ((if y3 < (l0.length : Int) then some (decide ((l0.length : Int) ≤ a1)) else some false).bind fun s6 => (if s6 = true then (if 0 ≤ y3 ∧ y3 < (l0.length : Int) then (if ((l0.getD y3.toNat (⟨#[]⟩ : ByteArray)).size : Int) > a2 then some (Sum.inl true) else grapevinelaw0_GreatTexts_l0 l0 a1 a2 k (IntKind.i64.wrap (y3 + 1))) else none) else some (Sum.inr ())))
def grapevinelaw0_GreatTexts (k : Nat) (l0 : List ByteArray) (a1 : Int) (a2 : Int) : Option Bool := ((grapevinelaw0_GreatTexts_l0 l0 a1 a2 k 0).bind fun os1 => match os1 with | Sum.inl r => some r | Sum.inr s1 => some (decide ((l0.length : Int) > a1)))
set_option maxHeartbeats 4000000 in
theorem grapevinelaw0_GreatTexts_calls {B : World} {G : GMap} {Γ : List Chunk} {W : World} (k : Nat) (l0 : List ByteArray) (a1 : Int) (a2 : Int) (Al0 : Option Addr) (cl0 : Nat) (Hl0 : Rd kStr G Al0 cl0 l0) (r : Bool) (h : grapevinelaw0_GreatTexts k l0 a1 a2 = some r) (hI : Inv B G (Γ) W) :
    Calls Tryd.prog 10 [.slice Al0 l0.length cl0, .int .i64 a1, .int .i64 a2].toArray W (Ret B (fun v G' Γ' => v = .bool r ∧ G = G' ∧ Γ = Γ')) := by
  refine calls_WP (Γ := Γ) (G := G) (B := B) Tryd.func10 rfl (by kernel_rfl) ?_ hI
  clear hI
  unfold grapevinelaw0_GreatTexts at h
  refine WP.seqP [0, 1, 2] (L' := [(0, .slice Al0 l0.length cl0), (1, .int .i64 a1), (2, .int .i64 a2)]) (by kernel_rfl) ?_
  refine WP.seq ?_
  refine WP.seqP [0, 1, 2, 7] (L' := [(0, .slice Al0 l0.length cl0), (1, .int .i64 a1), (2, .int .i64 a2), (7, .int .i64 0)]) (by kernel_rfl) ?_
  rw [Option.bind_eq_some_iff] at h
  obtain ⟨os1, h, hk2⟩ := h
  refine WP.cutQ (fun L' G' Γ' => ∃ s1 : Unit, Sum.inr s1 = os1 ∧ L' = [(0, .slice Al0 l0.length cl0), (1, .int .i64 a1)] ∧ G = G' ∧ Γ = Γ') ?_ ?_
  · skip
    refine WP.block ?_
    refine WP.pick [0, 1, 2, 7] ?_
    refine WP.loopF (fun kn4 L' G' Γ' => ∃ (y3 : Int), grapevinelaw0_GreatTexts_l0 l0 a1 a2 kn4 y3 = some os1 ∧ L' = [(0, .slice Al0 l0.length cl0), (1, .int .i64 a1), (2, .int .i64 a2), (7, .int .i64 y3)] ∧ G = G' ∧ Γ = Γ') ?_ k ⟨0, h, rfl, rfl, rfl⟩
    clear h
    rintro kn5 _ _ _ ⟨y3, h, rfl, rfl, rfl⟩
    cases kn5 with
    | zero => exact absurd h (by simp [grapevinelaw0_GreatTexts_l0])
    | succ kn5 =>
      simp only [grapevinelaw0_GreatTexts_l0] at h
      refine WP.seq ?_
      rw [Option.bind_eq_some_iff] at h
      obtain ⟨os6, h, hk7⟩ := h
      refine WP.cut (fun L' G' Γ' => ∃ s6 : Bool, s6 = os6 ∧ L' = [(0, .slice Al0 l0.length cl0), (1, .int .i64 a1), (2, .int .i64 a2), (7, .int .i64 y3), (17, .bool s6)] ∧ G = G' ∧ Γ = Γ') ?_ ?_
      · clear hk7
        refine WP.region ?_
        refine WL.pure 0 5 [0, 1, 2, 7, 12] (L' := [(0, .slice Al0 l0.length cl0), (1, .int .i64 a1), (2, .int .i64 a2), (7, .int .i64 y3), (12, .bool (decide (y3 < (l0.length : Int))))]) (by kernel_rfl) (by decide) ?_
        refine WL.split 12 (b := decide (y3 < (l0.length : Int))) (by kernel_rfl) (fun hc => ?_) (fun hc => ?_)
        · replace hc := of_decide_eq_true hc
          rw [if_pos hc] at h
          have hc8 := hc
          clear hc
          refine WL.rest 5 [0, 1, 2, 7, 17] (L' := [(0, .slice Al0 l0.length cl0), (1, .int .i64 a1), (2, .int .i64 a2), (7, .int .i64 y3), (17, .bool (decide ((l0.length : Int) ≤ a1)))]) (by kernel_rfl) ?_
          refine QP.pick [0, 1, 2, 7, 17] ?_
          exact QP.meet ⟨_, Option.some.inj h, rfl, rfl, rfl⟩
        · replace hc := of_decide_eq_false hc
          rw [if_neg hc] at h
          have hc8 := hc
          clear hc
          refine WL.rest 5 [0, 1, 2, 7, 17] (L' := [(0, .slice Al0 l0.length cl0), (1, .int .i64 a1), (2, .int .i64 a2), (7, .int .i64 y3), (17, .bool false)]) (by kernel_rfl) ?_
          refine QP.pick [0, 1, 2, 7, 17] ?_
          exact QP.meet ⟨_, Option.some.inj h, rfl, rfl, rfl⟩
      · rintro _ _ _ ⟨s6, rfl, rfl, rfl, rfl⟩
        clear h
        replace h := hk7
        refine WP.cond (b := s6) (by kernel_rfl) (fun hc => ?_) (fun hc => ?_)
        · replace hc := hc
          rw [if_pos hc] at h
          have hc9 := hc
          clear hc
          refine WP.skip ?_
          refine QP.next ?_
          refine WP.pick [0, 1, 2, 7] ?_
          refine WP.seq ?_
          refine WP.block ?_
          refine WP.seqR ?_
          refine WL.pure 0 2 [0, 1, 2, 7, 20, 21] (L' := [(0, .slice Al0 l0.length cl0), (1, .int .i64 a1), (2, .int .i64 a2), (7, .int .i64 y3), (20, .slice Al0 l0.length cl0), (21, .int .i64 y3)]) (by kernel_rfl) (by decide) ?_
          by_cases hb10 : 0 ≤ y3 ∧ y3 < (l0.length : Int)
          case neg => rw [if_neg hb10] at h; cases h
          rw [if_pos hb10] at h
          refine WL.tell (op := .indexAddr 22 (.tmp 20) (.tmp 21)) (ty := 0) (d := some 22) (g := none) (by kernel_rfl) (by kernel_rfl) (by kernel_rfl) (Tells.indexAddr (A := Al0) (n := l0.length) (c := cl0) (k := .i64) (j := y3) (by kernel_rfl) (by kernel_rfl) (Hl0.isSome hb10.1 hb10.2) hb10.1 hb10.2 sl22) ?_
          refine WL.tellE (op := .load 9 (.tmp 22)) (ty := 9) (d := some 23) (g := none) (by kernel_rfl) (by kernel_rfl) (by kernel_rfl) (Hl0.load (agg := false) hb10.1 hb10.2 (⟨#[]⟩ : ByteArray) ag9 (fun _ => rfl) (by kernel_rfl)) ?_
          rintro _ rfl
          refine WL.restQ 4 [0, 1, 2, 7, 26] (L' := [(0, .slice Al0 l0.length cl0), (1, .int .i64 a1), (2, .int .i64 a2), (7, .int .i64 y3), (26, .bool (decide (((l0.getD y3.toNat (⟨#[]⟩ : ByteArray)).size : Int) > a2)))]) (by kernel_rfl) ?_
          refine WP.cond (b := decide (((l0.getD y3.toNat (⟨#[]⟩ : ByteArray)).size : Int) > a2)) (by kernel_rfl) (fun hc => ?_) (fun hc => ?_)
          · replace hc := of_decide_eq_true hc
            rw [if_pos hc] at h
            have hc11 := hc
            clear hc
            refine WP.seqP [6] (L' := [(6, .bool true)]) (by kernel_rfl) ?_
            refine WP.ret ?_
            refine QP.blockR ?_
            refine QP.thenR ?_
            refine QP.thenR ?_
            refine QP.blockR ?_
            refine QP.thenR ?_
            refine QP.thenR ?_
            obtain rfl := Option.some.inj h
            obtain rfl := Option.some.inj (show some _ = some _ from hk2)
            exact QP.returned [6] [.bool true] _ (by kernel_rfl) (by kernel_rfl) (by kernel_rfl) (fun W hI => ⟨_, _, _, rfl, ⟨rfl, rfl, rfl⟩, hI⟩)
          · replace hc := of_decide_eq_false hc
            rw [if_neg hc] at h
            have hc11 := hc
            clear hc
            refine WP.skip ?_
            refine QP.blockN ?_
            refine QP.next ?_
            refine WP.pick [0, 1, 2, 7] ?_
            refine WP.regionP [0, 1, 2, 7] (L' := [(0, .slice Al0 l0.length cl0), (1, .int .i64 a1), (2, .int .i64 a2), (7, .int .i64 (IntKind.i64.wrap (y3 + 1)))]) (by kernel_rfl) ?_
            refine QP.pick [0, 1, 2, 7] ?_
            exact QP.meet ⟨kn5, Nat.lt_succ_self _, (IntKind.i64.wrap (y3 + 1)), h, rfl, rfl, rfl⟩
        · replace hc := (Bool.eq_false_iff.1 hc)
          rw [if_neg hc] at h
          have hc9 := hc
          clear hc
          refine WP.exit ?_
          refine QP.thenE ?_
          refine QP.thenE ?_
          refine QP.blockE ?_
          refine QP.pick [0, 1] ?_
          exact QP.meet ⟨_, Option.some.inj h, rfl, rfl, rfl⟩
  · rintro _ _ _ ⟨s1, rfl, rfl, rfl, rfl⟩
    clear h
    replace h := hk2
    dsimp only at h
    refine QP.next ?_
    refine WP.pick [0, 1] ?_
    refine WP.seqP [6] (L' := [(6, .bool (decide ((l0.length : Int) > a1)))]) (by kernel_rfl) ?_
    refine WP.ret ?_
    obtain rfl := Option.some.inj h
    exact QP.returned [6] [.bool (decide ((l0.length : Int) > a1))] _ (by kernel_rfl) (by kernel_rfl) (by kernel_rfl) (fun W hI => ⟨_, _, _, rfl, ⟨rfl, rfl, rfl⟩, hI⟩)

/-! ### grapevine/grapevinelaw0.parts: function 25 -/
def grapevinelaw0_parts_l0 (l0 : List T25) (a1 : Int) (a2 : Int) (rec_ : (List T25) → Int → Int → Option Int) : Nat → Int → Int → Option (Sum Int Int)
  | 0, _, _ => none
  | k + 1, y4, y5 => ((if y5 < (l0.length : Int) then some (decide (y4 ≤ a1)) else some false).bind fun s8 => (if s8 = true then (if 0 ≤ y5 ∧ y5 < (l0.length : Int) then ((grapevinelaw0_GreatTexts k ((l0.getD y5.toNat z25).f2) 30 100).bind fun t15 => (if t15 = true then some (Sum.inl (IntKind.i64.wrap (a1 + 1))) else (if 0 ≤ y5 ∧ y5 < (l0.length : Int) then ((rec_ ((l0.getD y5.toNat z25).f3) (IntKind.i64.wrap ((IntKind.i64.wrap (a1 - y4)) - 1)) (IntKind.i64.wrap (a2 - 1))).bind fun t23 => grapevinelaw0_parts_l0 l0 a1 a2 rec_ k (IntKind.i64.wrap ((IntKind.i64.wrap (y4 + 1)) + t23)) (IntKind.i64.wrap (y5 + 1))) else none))) else none) else some (Sum.inr y4)))
def grapevinelaw0_parts : Nat → (List T25) → Int → Int → Option Int
  | 0, _, _, _ => none
  | k + 1, l0, a1, a2 => (if a2 < 0 then some (IntKind.i64.wrap (a1 + 1)) else ((grapevinelaw0_parts_l0 l0 a1 a2 (grapevinelaw0_parts k) k 0 0).bind fun os2 => match os2 with | Sum.inl r => some r | Sum.inr s2 => some s2))
set_option maxHeartbeats 4000000 in
theorem grapevinelaw0_parts_calls_k (k : Nat) : ∀ {B : World} {G : GMap} {Γ : List Chunk} {W : World} (l0 : List T25) (a1 : Int) (a2 : Int) (Al0 : Option Addr) (cl0 : Nat) (Hl0 : Rd k25 G Al0 cl0 l0) (r : Int) (h : grapevinelaw0_parts k l0 a1 a2 = some r) (hI : Inv B G (Γ) W),
    Calls Tryd.prog 25 [.slice Al0 l0.length cl0, .int .i64 a1, .int .i64 a2].toArray W (Ret B (fun v G' Γ' => v = .int .i64 r ∧ G = G' ∧ Γ = Γ')) := by
  induction k with
  | zero => intro B G Γ W l0 a1 a2 Al0 cl0 Hl0 r h hI; exact absurd h (by simp [grapevinelaw0_parts])
  | succ kf ih =>
    intro B G Γ W l0 a1 a2 Al0 cl0 Hl0 r h hI
    refine calls_WP (Γ := Γ) (G := G) (B := B) Tryd.func25 rfl (by kernel_rfl) ?_ hI
    clear hI
    simp only [grapevinelaw0_parts] at h
    refine WP.seqP [0, 1, 2] (L' := [(0, .slice Al0 l0.length cl0), (1, .int .i64 a1), (2, .int .i64 a2)]) (by kernel_rfl) ?_
    refine WP.seqP [0, 1, 2, 7] (L' := [(0, .slice Al0 l0.length cl0), (1, .int .i64 a1), (2, .int .i64 a2), (7, .int .i64 0)]) (by kernel_rfl) ?_
    refine WP.seq ?_
    refine WP.seqP [0, 1, 2, 7, 10] (L' := [(0, .slice Al0 l0.length cl0), (1, .int .i64 a1), (2, .int .i64 a2), (7, .int .i64 0), (10, .bool (decide (a2 < 0)))]) (by kernel_rfl) ?_
    refine WP.cond (b := decide (a2 < 0)) (by kernel_rfl) (fun hc => ?_) (fun hc => ?_)
    · replace hc := of_decide_eq_true hc
      rw [if_pos hc] at h
      have hc1 := hc
      clear hc
      refine WP.seqP [6] (L' := [(6, .int .i64 (IntKind.i64.wrap (a1 + 1)))]) (by kernel_rfl) ?_
      refine WP.ret ?_
      refine QP.thenR ?_
      obtain rfl := Option.some.inj h
      exact QP.returned [6] [.int .i64 (IntKind.i64.wrap (a1 + 1))] _ (by kernel_rfl) (by kernel_rfl) (by kernel_rfl) (fun W hI => ⟨_, _, _, rfl, ⟨rfl, rfl, rfl⟩, hI⟩)
    · replace hc := of_decide_eq_false hc
      rw [if_neg hc] at h
      have hc1 := hc
      clear hc
      refine WP.skip ?_
      refine QP.next ?_
      refine WP.pick [0, 1, 2, 7] ?_
      refine WP.seq ?_
      refine WP.seqP [0, 1, 2, 7, 8] (L' := [(0, .slice Al0 l0.length cl0), (1, .int .i64 a1), (2, .int .i64 a2), (7, .int .i64 0), (8, .int .i64 0)]) (by kernel_rfl) ?_
      rw [Option.bind_eq_some_iff] at h
      obtain ⟨os2, h, hk3⟩ := h
      refine WP.cutQ (fun L' G' Γ' => ∃ s2 : Int, Sum.inr s2 = os2 ∧ L' = [(7, .int .i64 s2)] ∧ G = G' ∧ Γ = Γ') ?_ ?_
      · skip
        refine WP.block ?_
        refine WP.pick [0, 1, 2, 7, 8] ?_
        refine WP.loopF (fun kn6 L' G' Γ' => ∃ (y4 : Int), ∃ (y5 : Int), grapevinelaw0_parts_l0 l0 a1 a2 (grapevinelaw0_parts kf) kn6 y4 y5 = some os2 ∧ L' = [(0, .slice Al0 l0.length cl0), (1, .int .i64 a1), (2, .int .i64 a2), (7, .int .i64 y4), (8, .int .i64 y5)] ∧ G = G' ∧ Γ = Γ') ?_ kf ⟨0, 0, h, rfl, rfl, rfl⟩
        clear h
        rintro kn7 _ _ _ ⟨y4, y5, h, rfl, rfl, rfl⟩
        cases kn7 with
        | zero => exact absurd h (by simp [grapevinelaw0_parts_l0])
        | succ kn7 =>
          simp only [grapevinelaw0_parts_l0] at h
          refine WP.seq ?_
          rw [Option.bind_eq_some_iff] at h
          obtain ⟨os8, h, hk9⟩ := h
          refine WP.cut (fun L' G' Γ' => ∃ s8 : Bool, s8 = os8 ∧ L' = [(0, .slice Al0 l0.length cl0), (1, .int .i64 a1), (2, .int .i64 a2), (7, .int .i64 y4), (8, .int .i64 y5), (21, .bool s8)] ∧ G = G' ∧ Γ = Γ') ?_ ?_
          · clear hk9
            refine WP.region ?_
            refine WL.pure 0 5 [0, 1, 2, 7, 8, 17] (L' := [(0, .slice Al0 l0.length cl0), (1, .int .i64 a1), (2, .int .i64 a2), (7, .int .i64 y4), (8, .int .i64 y5), (17, .bool (decide (y5 < (l0.length : Int))))]) (by kernel_rfl) (by decide) ?_
            refine WL.split 17 (b := decide (y5 < (l0.length : Int))) (by kernel_rfl) (fun hc => ?_) (fun hc => ?_)
            · replace hc := of_decide_eq_true hc
              rw [if_pos hc] at h
              have hc10 := hc
              clear hc
              refine WL.rest 5 [0, 1, 2, 7, 8, 21] (L' := [(0, .slice Al0 l0.length cl0), (1, .int .i64 a1), (2, .int .i64 a2), (7, .int .i64 y4), (8, .int .i64 y5), (21, .bool (decide (y4 ≤ a1)))]) (by kernel_rfl) ?_
              refine QP.pick [0, 1, 2, 7, 8, 21] ?_
              exact QP.meet ⟨_, Option.some.inj h, rfl, rfl, rfl⟩
            · replace hc := of_decide_eq_false hc
              rw [if_neg hc] at h
              have hc10 := hc
              clear hc
              refine WL.rest 5 [0, 1, 2, 7, 8, 21] (L' := [(0, .slice Al0 l0.length cl0), (1, .int .i64 a1), (2, .int .i64 a2), (7, .int .i64 y4), (8, .int .i64 y5), (21, .bool false)]) (by kernel_rfl) ?_
              refine QP.pick [0, 1, 2, 7, 8, 21] ?_
              exact QP.meet ⟨_, Option.some.inj h, rfl, rfl, rfl⟩
          · rintro _ _ _ ⟨s8, rfl, rfl, rfl, rfl⟩
            clear h
            replace h := hk9
            refine WP.cond (b := s8) (by kernel_rfl) (fun hc => ?_) (fun hc => ?_)
            · replace hc := hc
              rw [if_pos hc] at h
              have hc11 := hc
              clear hc
              refine WP.skip ?_
              refine QP.next ?_
              refine WP.pick [0, 1, 2, 7, 8] ?_
              refine WP.seq ?_
              refine WP.block ?_
              refine WP.seq ?_
              refine WP.seqR ?_
              refine WL.pure 0 2 [0, 1, 2, 7, 8, 24, 25] (L' := [(0, .slice Al0 l0.length cl0), (1, .int .i64 a1), (2, .int .i64 a2), (7, .int .i64 y4), (8, .int .i64 y5), (24, .slice Al0 l0.length cl0), (25, .int .i64 y5)]) (by kernel_rfl) (by decide) ?_
              by_cases hb12 : 0 ≤ y5 ∧ y5 < (l0.length : Int)
              case neg => rw [if_neg hb12] at h; cases h
              rw [if_pos hb12] at h
              refine WL.tell (op := .indexAddr 23 (.tmp 24) (.tmp 25)) (ty := 0) (d := some 26) (g := none) (by kernel_rfl) (by kernel_rfl) (by kernel_rfl) (Tells.indexAddr (A := Al0) (n := l0.length) (c := cl0) (k := .i64) (j := y5) (by kernel_rfl) (by kernel_rfl) (Hl0.isSome hb12.1 hb12.2) hb12.1 hb12.2 sl23) ?_
              refine WL.tell (op := .fieldAddr 25 (.tmp 26) 2) (ty := 0) (d := some 27) (g := none) (by kernel_rfl) (by kernel_rfl) (by kernel_rfl) (Tells.fieldElem (m := y5.toNat * 4) (A := Al0) (by kernel_rfl) (Hl0.isSome hb12.1 hb12.2) fi25_2) ?_
              refine WL.tellE (op := .load 22 (.tmp 27)) (ty := 22) (d := some 28) (g := none) (by kernel_rfl) (by kernel_rfl) (by kernel_rfl) (Hl0.loadF (agg := false) (off := 2) hb12.1 hb12.2 z25 ag22 (fun _ => rfl) (by decide) (by kernel_rfl)) ?_
              rintro _ hrel
              obtain ⟨_, _, rfl, rfl, ⟨_, _, rfl, rfl, ⟨_, _, rfl, ⟨Ae13, ce13, rfl, He13⟩, ⟨Ae14, ce14, rfl, He14⟩⟩⟩⟩ := k25_out hrel
              replace He13 : Rd kStr G Ae13 ce13 ((l0.getD y5.toNat z25).f2) := He13
              replace He14 : Rd k25 G Ae14 ce14 ((l0.getD y5.toNat z25).f3) := He14
              rw [Option.bind_eq_some_iff] at h
              obtain ⟨t15, ht16, h⟩ := h
              refine WL.op (op := .call { callee := (.value (.func 10)), args := #[(.tmp 28), (.const (.int .i64 30)), (.const (.int .i64 100))], argTypes := #[22, 3, 3] }) (ty := 4) (d := some 29) (g := none) (by kernel_rfl) (by kernel_rfl) (by kernel_rfl) (Does.call (f := 10) (args := [.slice Ae13 ((l0.getD y5.toNat z25).f2).length ce13, .int .i64 30, .int .i64 100]) (by kernel_rfl) (fun W hI => (grapevinelaw0_GreatTexts_calls kn7 ((l0.getD y5.toNat z25).f2) 30 100 Ae13 ce13 He13 t15 ht16 hI))) ?_
              rintro _ _ _ ⟨rfl, rfl, rfl⟩
              refine WL.restQ 6 [0, 1, 2, 7, 8, 29] (L' := [(0, .slice Al0 l0.length cl0), (1, .int .i64 a1), (2, .int .i64 a2), (7, .int .i64 y4), (8, .int .i64 y5), (29, .bool t15)]) (by kernel_rfl) ?_
              refine WP.cond (b := t15) (by kernel_rfl) (fun hc => ?_) (fun hc => ?_)
              · replace hc := hc
                rw [if_pos hc] at h
                have hc19 := hc
                clear hc
                refine WP.seqP [6] (L' := [(6, .int .i64 (IntKind.i64.wrap (a1 + 1)))]) (by kernel_rfl) ?_
                refine WP.ret ?_
                refine QP.thenR ?_
                refine QP.blockR ?_
                refine QP.thenR ?_
                refine QP.thenR ?_
                refine QP.blockR ?_
                refine QP.thenR ?_
                refine QP.thenR ?_
                obtain rfl := Option.some.inj h
                obtain rfl := Option.some.inj (show some _ = some _ from hk3)
                exact QP.returned [6] [.int .i64 (IntKind.i64.wrap (a1 + 1))] _ (by kernel_rfl) (by kernel_rfl) (by kernel_rfl) (fun W hI => ⟨_, _, _, rfl, ⟨rfl, rfl, rfl⟩, hI⟩)
              · replace hc := (Bool.eq_false_iff.1 hc)
                rw [if_neg hc] at h
                have hc19 := hc
                clear hc
                refine WP.skip ?_
                refine QP.next ?_
                refine WP.pick [0, 1, 2, 7, 8] ?_
                refine WP.region ?_
                refine WL.pure 0 4 [0, 1, 2, 7, 8, 33, 34, 35] (L' := [(0, .slice Al0 l0.length cl0), (1, .int .i64 a1), (2, .int .i64 a2), (7, .int .i64 y4), (8, .int .i64 y5), (33, .int .i64 (IntKind.i64.wrap (y4 + 1))), (34, .slice Al0 l0.length cl0), (35, .int .i64 y5)]) (by kernel_rfl) (by decide) ?_
                by_cases hb20 : 0 ≤ y5 ∧ y5 < (l0.length : Int)
                case neg => rw [if_neg hb20] at h; cases h
                rw [if_pos hb20] at h
                refine WL.tell (op := .indexAddr 23 (.tmp 34) (.tmp 35)) (ty := 0) (d := some 36) (g := none) (by kernel_rfl) (by kernel_rfl) (by kernel_rfl) (Tells.indexAddr (A := Al0) (n := l0.length) (c := cl0) (k := .i64) (j := y5) (by kernel_rfl) (by kernel_rfl) (Hl0.isSome hb20.1 hb20.2) hb20.1 hb20.2 sl23) ?_
                refine WL.tell (op := .fieldAddr 25 (.tmp 36) 3) (ty := 0) (d := some 37) (g := none) (by kernel_rfl) (by kernel_rfl) (by kernel_rfl) (Tells.fieldElem (m := y5.toNat * 4) (A := Al0) (by kernel_rfl) (Hl0.isSome hb20.1 hb20.2) fi25_3) ?_
                refine WL.tellE (op := .load 23 (.tmp 37)) (ty := 23) (d := some 38) (g := none) (by kernel_rfl) (by kernel_rfl) (by kernel_rfl) (Hl0.loadF (agg := false) (off := 3) hb20.1 hb20.2 z25 ag23 (fun _ => rfl) (by decide) (by kernel_rfl)) ?_
                rintro _ hrel
                obtain ⟨_, _, rfl, rfl, ⟨_, _, rfl, rfl, ⟨_, _, rfl, ⟨Ae21, ce21, rfl, He21⟩, ⟨Ae22, ce22, rfl, He22⟩⟩⟩⟩ := k25_out hrel
                replace He21 : Rd kStr G Ae21 ce21 ((l0.getD y5.toNat z25).f2) := He21
                replace He22 : Rd k25 G Ae22 ce22 ((l0.getD y5.toNat z25).f3) := He22
                refine WL.pure 7 13 [0, 1, 2, 7, 8, 33, 38, 42, 44] (L' := [(0, .slice Al0 l0.length cl0), (1, .int .i64 a1), (2, .int .i64 a2), (7, .int .i64 y4), (8, .int .i64 y5), (33, .int .i64 (IntKind.i64.wrap (y4 + 1))), (38, .slice Ae22 ((l0.getD y5.toNat z25).f3).length ce22), (42, .int .i64 (IntKind.i64.wrap ((IntKind.i64.wrap (a1 - y4)) - 1))), (44, .int .i64 (IntKind.i64.wrap (a2 - 1)))]) (by kernel_rfl) (by decide) ?_
                rw [Option.bind_eq_some_iff] at h
                obtain ⟨t23, ht24, h⟩ := h
                refine WL.op (op := .call { callee := (.value (.func 25)), args := #[(.tmp 38), (.tmp 42), (.tmp 44)], argTypes := #[23, 3, 3] }) (ty := 3) (d := some 45) (g := none) (by kernel_rfl) (by kernel_rfl) (by kernel_rfl) (Does.call (f := 25) (args := [.slice Ae22 ((l0.getD y5.toNat z25).f3).length ce22, .int .i64 (IntKind.i64.wrap ((IntKind.i64.wrap (a1 - y4)) - 1)), .int .i64 (IntKind.i64.wrap (a2 - 1))]) (by kernel_rfl) (fun W hI => (ih ((l0.getD y5.toNat z25).f3) (IntKind.i64.wrap ((IntKind.i64.wrap (a1 - y4)) - 1)) (IntKind.i64.wrap (a2 - 1)) Ae22 ce22 He22 t23 ht24 hI))) ?_
                rintro _ _ _ ⟨rfl, rfl, rfl⟩
                refine WL.rest 14 [0, 1, 2, 7, 8] (L' := [(0, .slice Al0 l0.length cl0), (1, .int .i64 a1), (2, .int .i64 a2), (7, .int .i64 (IntKind.i64.wrap ((IntKind.i64.wrap (y4 + 1)) + t23))), (8, .int .i64 y5)]) (by kernel_rfl) ?_
                refine QP.blockN ?_
                refine QP.next ?_
                refine WP.pick [0, 1, 2, 7, 8] ?_
                refine WP.regionP [0, 1, 2, 7, 8] (L' := [(0, .slice Al0 l0.length cl0), (1, .int .i64 a1), (2, .int .i64 a2), (7, .int .i64 (IntKind.i64.wrap ((IntKind.i64.wrap (y4 + 1)) + t23))), (8, .int .i64 (IntKind.i64.wrap (y5 + 1)))]) (by kernel_rfl) ?_
                refine QP.pick [0, 1, 2, 7, 8] ?_
                exact QP.meet ⟨kn7, Nat.lt_succ_self _, (IntKind.i64.wrap ((IntKind.i64.wrap (y4 + 1)) + t23)), (IntKind.i64.wrap (y5 + 1)), h, rfl, rfl, rfl⟩
            · replace hc := (Bool.eq_false_iff.1 hc)
              rw [if_neg hc] at h
              have hc11 := hc
              clear hc
              refine WP.exit ?_
              refine QP.thenE ?_
              refine QP.thenE ?_
              refine QP.blockE ?_
              refine QP.pick [7] ?_
              exact QP.meet ⟨_, Option.some.inj h, rfl, rfl, rfl⟩
      · rintro _ _ _ ⟨s2, rfl, rfl, rfl, rfl⟩
        clear h
        replace h := hk3
        dsimp only at h
        refine QP.next ?_
        refine WP.pick [7] ?_
        refine WP.seqP [6] (L' := [(6, .int .i64 s2)]) (by kernel_rfl) ?_
        refine WP.ret ?_
        obtain rfl := Option.some.inj h
        exact QP.returned [6] [.int .i64 s2] _ (by kernel_rfl) (by kernel_rfl) (by kernel_rfl) (fun W hI => ⟨_, _, _, rfl, ⟨rfl, rfl, rfl⟩, hI⟩)
theorem grapevinelaw0_parts_calls {B : World} {G : GMap} {Γ : List Chunk} {W : World} (k : Nat) (l0 : List T25) (a1 : Int) (a2 : Int) (Al0 : Option Addr) (cl0 : Nat) (Hl0 : Rd k25 G Al0 cl0 l0) (r : Int) (h : grapevinelaw0_parts k l0 a1 a2 = some r) (hI : Inv B G (Γ) W) :
    Calls Tryd.prog 25 [.slice Al0 l0.length cl0, .int .i64 a1, .int .i64 a2].toArray W (Ret B (fun v G' Γ' => v = .int .i64 r ∧ G = G' ∧ Γ = Γ')) := grapevinelaw0_parts_calls_k k l0 a1 a2 Al0 cl0 Hl0 r h hI

/-! ### grapevine/grapevinelaw0.GreatAsk: function 9 -/
def grapevinelaw0_GreatAsk (k : Nat) (a0 : T25) : Option Bool := ((grapevinelaw0_parts k ([a0] : List T25) 60 12).bind fun t5 => some (decide (t5 > 60)))
set_option maxHeartbeats 4000000 in
theorem grapevinelaw0_GreatAsk_calls {B : World} {G : GMap} {Γ : List Chunk} {W : World} (k : Nat) (a0 : T25) (Aa0_f2 : Option Addr) (ca0_f2 : Nat) (Ha0_f2 : Rd kStr G Aa0_f2 ca0_f2 a0.f2) (Aa0_f3 : Option Addr) (ca0_f3 : Nat) (Ha0_f3 : Rd k25 G Aa0_f3 ca0_f3 a0.f3) (r : Bool) (h : grapevinelaw0_GreatAsk k a0 = some r) (hI : Inv B G (Γ) W) :
    Calls Tryd.prog 9 [.agg #[.int .i64 a0.f0, .int .i64 a0.f1, .slice Aa0_f2 a0.f2.length ca0_f2, .slice Aa0_f3 a0.f3.length ca0_f3]].toArray W (Ret B (fun v G' Γ' => v = .bool r ∧ G = G' ∧ Γ = Γ')) := by
  refine calls_WP (Γ := Γ) (G := G) (B := B) Tryd.func9 rfl (by kernel_rfl) ?_ hI
  clear hI
  unfold grapevinelaw0_GreatAsk at h
  refine WP.seqR ?_
  refine WL.op (op := .box 25 (.tmp 0)) (ty := 0) (d := some 1) (g := none) (by kernel_rfl) (by kernel_rfl) (by kernel_rfl) (Does.new (o := .cells #[.int .i64 a0.f0, .int .i64 a0.f1, .slice Aa0_f2 a0.f2.length ca0_f2, .slice Aa0_f3 a0.f3.length ca0_f3] 25 (0, 0)) (v := fun r => .pointer (some ⟨r, 0, none⟩)) (fun r => by kernel_rfl)) ?_
  rintro _ _ _ ⟨b1, rfl, rfl, rfl⟩
  refine WL.restQ 1 [1] (L' := [(1, .pointer (some ⟨b1, 0, none⟩))]) (by kernel_rfl) ?_
  refine WP.seqR ?_
  refine WL.tell (op := .load 25 (.tmp 1)) (ty := 25) (d := some 3) (g := none) (by kernel_rfl) (by kernel_rfl) (by kernel_rfl) (Tells.load_box (i := 0) (b := b1) (o := 0) (agg := true) (by rfl) ag25 (by kernel_rfl) (fun h => by cases h) (Nat.le_of_ble_eq_true rfl) (v := .agg #[.int .i64 a0.f0, .int .i64 a0.f1, .slice Aa0_f2 a0.f2.length ca0_f2, .slice Aa0_f3 a0.f3.length ca0_f3]) (by kernel_rfl)) ?_
  refine WL.op (op := .buildSlice 23 1 #[(0, (.tmp 3))]) (ty := 23) (d := some 4) (g := none) (by kernel_rfl) (by kernel_rfl) (by kernel_rfl) (Does.new (o := .cells #[.int .i64 a0.f0, .int .i64 a0.f1, .slice Aa0_f2 a0.f2.length ca0_f2, .slice Aa0_f3 a0.f3.length ca0_f3] 25 (0, 0)) (v := fun r => .slice (some ⟨r, 0, none⟩) 1 1) (fun r => by kernel_rfl)) ?_
  rintro _ _ _ ⟨b2, rfl, rfl, rfl⟩
  have Ho4 : Ow k25 G (some ⟨b2, 0, none⟩) 1 ([a0] : List T25) [(b2, .cells #[.int .i64 a0.f0, .int .i64 a0.f1, .slice Aa0_f2 a0.f2.length ca0_f2, .slice Aa0_f3 a0.f3.length ca0_f3] 25 (0, 0))] := Ow.lit (kd := k25) (G := G) (b := b2) (T := 25) (xs := ([a0] : List T25)) (cs := [.int .i64 a0.f0, .int .i64 a0.f1, .slice Aa0_f2 a0.f2.length ca0_f2, .slice Aa0_f3 a0.f3.length ca0_f3]) (.cons (x := a0) (cs := [.int .i64 a0.f0, .int .i64 a0.f1, .slice Aa0_f2 a0.f2.length ca0_f2, .slice Aa0_f3 a0.f3.length ca0_f3]) (k25_in ⟨[.int .i64 a0.f0], _, rfl, rfl, ⟨[.int .i64 a0.f1], _, rfl, rfl, ⟨[.slice Aa0_f2 a0.f2.length ca0_f2], _, rfl, ⟨Aa0_f2, ca0_f2, rfl, Ha0_f2⟩, ⟨Aa0_f3, ca0_f3, rfl, Ha0_f3⟩⟩⟩⟩) .nil)
  rw [Option.bind_eq_some_iff] at h
  obtain ⟨t5, ht6, h⟩ := h
  refine WL.op (op := .call { callee := (.value (.func 25)), args := #[(.tmp 4), (.const (.int .i64 60)), (.const (.int .i64 12))], argTypes := #[23, 3, 3] }) (ty := 3) (d := some 5) (g := none) (by kernel_rfl) (by kernel_rfl) (by kernel_rfl) (Does.call (Φ := fun v' G' Γ' => v' = .int .i64 t5 ∧ G = G' ∧ [(b2, .cells #[.int .i64 a0.f0, .int .i64 a0.f1, .slice Aa0_f2 a0.f2.length ca0_f2, .slice Aa0_f3 a0.f3.length ca0_f3] 25 (0, 0))] :: [(b1, .cells #[.int .i64 a0.f0, .int .i64 a0.f1, .slice Aa0_f2 a0.f2.length ca0_f2, .slice Aa0_f3 a0.f3.length ca0_f3] 25 (0, 0))] :: Γ = Γ') (f := 25) (args := [.slice (some ⟨b2, 0, none⟩) ([a0] : List T25).length 1, .int .i64 60, .int .i64 12]) (by kernel_rfl) (fun W hI => (Calls.lendN (Φ := fun v' N => v' = .int .i64 t5 ∧ N = []) (H := []) (i := 0) rfl hI (fun _ e l9 nl9 hI => by subst e; exact (((grapevinelaw0_parts_calls k ([a0] : List T25) 60 12 (some ⟨b2, 0, none⟩) 1 (Ho4.rdN l9 nl9) t5 ht6 hI)).mono fun _ _ hr => by obtain ⟨_, _, _, rfl, hd, hI⟩ := hr; obtain ⟨rfl, rfl, rfl⟩ := hd; exact ⟨_, _, _, rfl, ⟨[], ⟨rfl, rfl⟩, rfl, rfl⟩, hI⟩))).mono fun _ _ hr => by obtain ⟨_, _, _, rfl, ⟨_, hd, rfl, rfl⟩, hI⟩ := hr; obtain ⟨rfl, rfl⟩ := hd; exact ⟨_, _, _, rfl, ⟨rfl, rfl, rfl⟩, hI⟩)) ?_
  rintro _ _ _ ⟨rfl, rfl, rfl⟩
  refine WL.restQ 3 [2] (L' := [(2, .bool (decide (t5 > 60)))]) (by kernel_rfl) ?_
  refine WP.dropAt 1 ?_
  refine WP.dropAt 0 ?_
  refine WP.ret ?_
  obtain rfl := Option.some.inj h
  exact QP.returned [2] [.bool (decide (t5 > 60))] _ (by kernel_rfl) (by kernel_rfl) (by kernel_rfl) (fun W hI => ⟨_, _, _, rfl, ⟨rfl, rfl, rfl⟩, hI⟩)

/-! ### grapevine/grapevinelaw15.filtered: function 20 -/
def grapevinelaw15_filtered_l0 (a0 : T25) (rec_ : T25 → Option Bool) : Nat → Int → Option (Sum Bool Unit)
  | 0, _ => none
  | k + 1, y9 => (if y9 < (a0.f3.length : Int) then (if 0 ≤ y9 ∧ y9 < (a0.f3.length : Int) then ((rec_ (a0.f3.getD y9.toNat z25)).bind fun t16 => (if t16 = true then some (Sum.inl true) else grapevinelaw15_filtered_l0 a0 rec_ k (IntKind.i64.wrap (y9 + 1)))) else none) else some (Sum.inr ()))
def grapevinelaw15_filtered : Nat → T25 → Option Bool
  | 0, _ => none
  | k + 1, a0 => ((if a0.f0 = 4 then some true else (if a0.f0 = 5 then some true else some (a0.f0 == 6))).bind fun s2 => (if s2 = true then some true else ((grapevinelaw15_filtered_l0 a0 (grapevinelaw15_filtered k) k 0).bind fun os7 => match os7 with | Sum.inl r => some r | Sum.inr s7 => some false)))
set_option maxHeartbeats 4000000 in
theorem grapevinelaw15_filtered_calls_k (k : Nat) : ∀ {B : World} {G : GMap} {Γ : List Chunk} {W : World} (a0 : T25) (Aa0_f2 : Option Addr) (ca0_f2 : Nat) (Ha0_f2 : Rd kStr G Aa0_f2 ca0_f2 a0.f2) (Aa0_f3 : Option Addr) (ca0_f3 : Nat) (Ha0_f3 : Rd k25 G Aa0_f3 ca0_f3 a0.f3) (r : Bool) (h : grapevinelaw15_filtered k a0 = some r) (hI : Inv B G (Γ) W),
    Calls Tryd.prog 20 [.agg #[.int .i64 a0.f0, .int .i64 a0.f1, .slice Aa0_f2 a0.f2.length ca0_f2, .slice Aa0_f3 a0.f3.length ca0_f3]].toArray W (Ret B (fun v G' Γ' => v = .bool r ∧ G = G' ∧ Γ = Γ')) := by
  induction k with
  | zero => intro B G Γ W a0 Aa0_f2 ca0_f2 Ha0_f2 Aa0_f3 ca0_f3 Ha0_f3 r h hI; exact absurd h (by simp [grapevinelaw15_filtered])
  | succ kf ih =>
    intro B G Γ W a0 Aa0_f2 ca0_f2 Ha0_f2 Aa0_f3 ca0_f3 Ha0_f3 r h hI
    refine calls_WP (Γ := Γ) (G := G) (B := B) Tryd.func20 rfl (by kernel_rfl) ?_ hI
    clear hI
    simp only [grapevinelaw15_filtered] at h
    refine WP.seqR ?_
    refine WL.op (op := .box 25 (.tmp 0)) (ty := 0) (d := some 1) (g := none) (by kernel_rfl) (by kernel_rfl) (by kernel_rfl) (Does.new (o := .cells #[.int .i64 a0.f0, .int .i64 a0.f1, .slice Aa0_f2 a0.f2.length ca0_f2, .slice Aa0_f3 a0.f3.length ca0_f3] 25 (0, 0)) (v := fun r => .pointer (some ⟨r, 0, none⟩)) (fun r => by kernel_rfl)) ?_
    rintro _ _ _ ⟨b1, rfl, rfl, rfl⟩
    refine WL.restQ 1 [1] (L' := [(1, .pointer (some ⟨b1, 0, none⟩))]) (by kernel_rfl) ?_
    refine WP.seq ?_
    rw [Option.bind_eq_some_iff] at h
    obtain ⟨os2, h, hk3⟩ := h
    refine WP.cut (fun L' G' Γ' => ∃ s2 : Bool, s2 = os2 ∧ L' = [(1, .pointer (some ⟨b1, 0, none⟩)), (16, .bool s2)] ∧ G = G' ∧ [(b1, .cells #[.int .i64 a0.f0, .int .i64 a0.f1, .slice Aa0_f2 a0.f2.length ca0_f2, .slice Aa0_f3 a0.f3.length ca0_f3] 25 (0, 0))] :: Γ = Γ') ?_ ?_
    · clear hk3
      refine WP.region ?_
      refine WL.pure 0 1 [1, 4] (L' := [(1, .pointer (some ⟨b1, 0, none⟩)), (4, .pointer (some ⟨b1, 0, none⟩))]) (by kernel_rfl) (by decide) ?_
      refine WL.tell (op := .load 3 (.tmp 4)) (ty := 3) (d := some 5) (g := none) (by kernel_rfl) (by kernel_rfl) (by kernel_rfl) (Tells.load_box (i := 0) (b := b1) (o := 0) (agg := false) (by rfl) ag3 (by kernel_rfl) (fun _ => rfl) (Nat.le_of_ble_eq_true rfl) (v := .int .i64 a0.f0) (by kernel_rfl)) ?_
      refine WL.pure 2 4 [1, 7] (L' := [(1, .pointer (some ⟨b1, 0, none⟩)), (7, .bool (a0.f0 == 4))]) (by kernel_rfl) (by decide) ?_
      refine WL.split 7 (b := (a0.f0 == 4)) (by kernel_rfl) (fun hc => ?_) (fun hc => ?_)
      · replace hc := eq_of_beq hc
        rw [if_pos hc] at h
        have hc4 := hc
        clear hc
        refine WL.rest 4 [1, 16] (L' := [(1, .pointer (some ⟨b1, 0, none⟩)), (16, .bool true)]) (by kernel_rfl) ?_
        refine QP.pick [1, 16] ?_
        exact QP.meet ⟨_, Option.some.inj h, rfl, rfl, rfl⟩
      · replace hc := ne_of_beq_false hc
        rw [if_neg hc] at h
        have hc4 := hc
        clear hc
        refine WL.pure 4 5 [1, 7, 8] (L' := [(1, .pointer (some ⟨b1, 0, none⟩)), (7, .bool false), (8, .pointer (some ⟨b1, 0, none⟩))]) (by kernel_rfl) (by decide) ?_
        refine WL.tell (op := .load 3 (.tmp 8)) (ty := 3) (d := some 9) (g := some (3, false)) (by kernel_rfl) (by kernel_rfl) (by kernel_rfl) (Tells.load_box (i := 0) (b := b1) (o := 0) (agg := false) (by rfl) ag3 (by kernel_rfl) (fun _ => rfl) (Nat.le_of_ble_eq_true rfl) (v := .int .i64 a0.f0) (by kernel_rfl)) ?_
        refine WL.pure 6 9 [1, 12] (L' := [(1, .pointer (some ⟨b1, 0, none⟩)), (12, .bool (a0.f0 == 5))]) (by kernel_rfl) (by decide) ?_
        refine WL.split 12 (b := (a0.f0 == 5)) (by kernel_rfl) (fun hc => ?_) (fun hc => ?_)
        · replace hc := eq_of_beq hc
          rw [if_pos hc] at h
          have hc5 := hc
          clear hc
          refine WL.rest 9 [1, 16] (L' := [(1, .pointer (some ⟨b1, 0, none⟩)), (16, .bool true)]) (by kernel_rfl) ?_
          refine QP.pick [1, 16] ?_
          exact QP.meet ⟨_, Option.some.inj h, rfl, rfl, rfl⟩
        · replace hc := ne_of_beq_false hc
          rw [if_neg hc] at h
          have hc5 := hc
          clear hc
          refine WL.pure 9 10 [1, 12, 13] (L' := [(1, .pointer (some ⟨b1, 0, none⟩)), (12, .bool false), (13, .pointer (some ⟨b1, 0, none⟩))]) (by kernel_rfl) (by decide) ?_
          refine WL.tell (op := .load 3 (.tmp 13)) (ty := 3) (d := some 14) (g := some (8, false)) (by kernel_rfl) (by kernel_rfl) (by kernel_rfl) (Tells.load_box (i := 0) (b := b1) (o := 0) (agg := false) (by rfl) ag3 (by kernel_rfl) (fun _ => rfl) (Nat.le_of_ble_eq_true rfl) (v := .int .i64 a0.f0) (by kernel_rfl)) ?_
          refine WL.rest 11 [1, 16] (L' := [(1, .pointer (some ⟨b1, 0, none⟩)), (16, .bool (a0.f0 == 6))]) (by kernel_rfl) ?_
          refine QP.pick [1, 16] ?_
          exact QP.meet ⟨_, Option.some.inj h, rfl, rfl, rfl⟩
    · rintro _ _ _ ⟨s2, rfl, rfl, rfl, rfl⟩
      clear h
      replace h := hk3
      refine WP.cond (b := s2) (by kernel_rfl) (fun hc => ?_) (fun hc => ?_)
      · replace hc := hc
        rw [if_pos hc] at h
        have hc6 := hc
        clear hc
        refine WP.seqP [2] (L' := [(2, .bool true)]) (by kernel_rfl) ?_
        refine WP.dropAt 0 ?_
        refine WP.ret ?_
        refine QP.thenR ?_
        obtain rfl := Option.some.inj h
        exact QP.returned [2] [.bool true] _ (by kernel_rfl) (by kernel_rfl) (by kernel_rfl) (fun W hI => ⟨_, _, _, rfl, ⟨rfl, rfl, rfl⟩, hI⟩)
      · replace hc := (Bool.eq_false_iff.1 hc)
        rw [if_neg hc] at h
        have hc6 := hc
        clear hc
        refine WP.skip ?_
        refine QP.next ?_
        refine WP.pick [1] ?_
        refine WP.seq ?_
        refine WP.seqP [1, 3] (L' := [(1, .pointer (some ⟨b1, 0, none⟩)), (3, .int .i64 0)]) (by kernel_rfl) ?_
        rw [Option.bind_eq_some_iff] at h
        obtain ⟨os7, h, hk8⟩ := h
        refine WP.cutQ (fun L' G' Γ' => ∃ s7 : Unit, Sum.inr s7 = os7 ∧ L' = [] ∧ G = G' ∧ Γ = Γ') ?_ ?_
        · skip
          refine WP.block ?_
          refine WP.pick [1, 3] ?_
          refine WP.loopF (fun kn10 L' G' Γ' => ∃ (y9 : Int), grapevinelaw15_filtered_l0 a0 (grapevinelaw15_filtered kf) kn10 y9 = some os7 ∧ L' = [(1, .pointer (some ⟨b1, 0, none⟩)), (3, .int .i64 y9)] ∧ G = G' ∧ [(b1, .cells #[.int .i64 a0.f0, .int .i64 a0.f1, .slice Aa0_f2 a0.f2.length ca0_f2, .slice Aa0_f3 a0.f3.length ca0_f3] 25 (0, 0))] :: Γ = Γ') ?_ kf ⟨0, h, rfl, rfl, rfl⟩
          clear h
          rintro kn11 _ _ _ ⟨y9, h, rfl, rfl, rfl⟩
          cases kn11 with
          | zero => exact absurd h (by simp [grapevinelaw15_filtered_l0])
          | succ kn11 =>
            simp only [grapevinelaw15_filtered_l0] at h
            refine WP.seq ?_
            refine WP.seqR ?_
            refine WL.pure 0 2 [1, 3, 17, 18] (L' := [(1, .pointer (some ⟨b1, 0, none⟩)), (3, .int .i64 y9), (17, .int .i64 y9), (18, .pointer (some ⟨b1, 3, none⟩))]) (by kernel_rfl) (by decide) ?_
            refine WL.tell (op := .load 23 (.tmp 18)) (ty := 23) (d := some 19) (g := none) (by kernel_rfl) (by kernel_rfl) (by kernel_rfl) (Tells.load_box (i := 0) (b := b1) (o := 3) (agg := false) (by rfl) ag23 (by kernel_rfl) (fun _ => rfl) (Nat.le_of_ble_eq_true rfl) (v := .slice Aa0_f3 a0.f3.length ca0_f3) (by kernel_rfl)) ?_
            refine WL.restQ 3 [1, 3, 21] (L' := [(1, .pointer (some ⟨b1, 0, none⟩)), (3, .int .i64 y9), (21, .bool (decide (y9 < (a0.f3.length : Int))))]) (by kernel_rfl) ?_
            refine WP.cond (b := decide (y9 < (a0.f3.length : Int))) (by kernel_rfl) (fun hc => ?_) (fun hc => ?_)
            · replace hc := of_decide_eq_true hc
              rw [if_pos hc] at h
              have hc12 := hc
              clear hc
              refine WP.skip ?_
              refine QP.next ?_
              refine WP.pick [1, 3] ?_
              refine WP.seq ?_
              refine WP.block ?_
              refine WP.seqR ?_
              refine WL.pure 0 1 [1, 3, 24] (L' := [(1, .pointer (some ⟨b1, 0, none⟩)), (3, .int .i64 y9), (24, .pointer (some ⟨b1, 3, none⟩))]) (by kernel_rfl) (by decide) ?_
              refine WL.tell (op := .load 23 (.tmp 24)) (ty := 23) (d := some 25) (g := none) (by kernel_rfl) (by kernel_rfl) (by kernel_rfl) (Tells.load_box (i := 0) (b := b1) (o := 3) (agg := false) (by rfl) ag23 (by kernel_rfl) (fun _ => rfl) (Nat.le_of_ble_eq_true rfl) (v := .slice Aa0_f3 a0.f3.length ca0_f3) (by kernel_rfl)) ?_
              refine WL.pure 2 3 [1, 3, 25, 26] (L' := [(1, .pointer (some ⟨b1, 0, none⟩)), (3, .int .i64 y9), (25, .slice Aa0_f3 a0.f3.length ca0_f3), (26, .int .i64 y9)]) (by kernel_rfl) (by decide) ?_
              by_cases hb13 : 0 ≤ y9 ∧ y9 < (a0.f3.length : Int)
              case neg => rw [if_neg hb13] at h; cases h
              rw [if_pos hb13] at h
              refine WL.tell (op := .indexAddr 23 (.tmp 25) (.tmp 26)) (ty := 0) (d := some 27) (g := none) (by kernel_rfl) (by kernel_rfl) (by kernel_rfl) (Tells.indexAddr (A := Aa0_f3) (n := a0.f3.length) (c := ca0_f3) (k := .i64) (j := y9) (by kernel_rfl) (by kernel_rfl) (Ha0_f3.isSome hb13.1 hb13.2) hb13.1 hb13.2 sl23) ?_
              refine WL.tellE (op := .load 25 (.tmp 27)) (ty := 25) (d := some 28) (g := none) (by kernel_rfl) (by kernel_rfl) (by kernel_rfl) (Ha0_f3.load (agg := true) hb13.1 hb13.2 z25 ag25 (fun h => by cases h) (by kernel_rfl)) ?_
              rintro _ hrel
              obtain ⟨_, _, rfl, rfl, ⟨_, _, rfl, rfl, ⟨_, _, rfl, ⟨Ae14, ce14, rfl, He14⟩, ⟨Ae15, ce15, rfl, He15⟩⟩⟩⟩ := k25_out hrel
              replace He14 : Rd kStr G Ae14 ce14 ((a0.f3.getD y9.toNat z25).f2) := He14
              replace He15 : Rd k25 G Ae15 ce15 ((a0.f3.getD y9.toNat z25).f3) := He15
              rw [Option.bind_eq_some_iff] at h
              obtain ⟨t16, ht17, h⟩ := h
              refine WL.op (op := .call { callee := (.value (.func 20)), args := #[(.tmp 28)], argTypes := #[25] }) (ty := 4) (d := some 29) (g := none) (by kernel_rfl) (by kernel_rfl) (by kernel_rfl) (Does.call (f := 20) (args := [.agg #[.int .i64 ((a0.f3.getD y9.toNat z25).f0), .int .i64 ((a0.f3.getD y9.toNat z25).f1), .slice Ae14 ((a0.f3.getD y9.toNat z25).f2).length ce14, .slice Ae15 ((a0.f3.getD y9.toNat z25).f3).length ce15]]) (by kernel_rfl) (fun W hI => (ih (a0.f3.getD y9.toNat z25) Ae14 ce14 He14 Ae15 ce15 He15 t16 ht17 hI))) ?_
              rintro _ _ _ ⟨rfl, rfl, rfl⟩
              refine WL.restQ 6 [1, 3, 29] (L' := [(1, .pointer (some ⟨b1, 0, none⟩)), (3, .int .i64 y9), (29, .bool t16)]) (by kernel_rfl) ?_
              refine WP.cond (b := t16) (by kernel_rfl) (fun hc => ?_) (fun hc => ?_)
              · replace hc := hc
                rw [if_pos hc] at h
                have hc20 := hc
                clear hc
                refine WP.seqP [2] (L' := [(2, .bool true)]) (by kernel_rfl) ?_
                refine WP.dropAt 0 ?_
                refine WP.ret ?_
                refine QP.blockR ?_
                refine QP.thenR ?_
                refine QP.thenR ?_
                refine QP.blockR ?_
                refine QP.thenR ?_
                refine QP.thenR ?_
                obtain rfl := Option.some.inj h
                obtain rfl := Option.some.inj (show some _ = some _ from hk8)
                exact QP.returned [2] [.bool true] _ (by kernel_rfl) (by kernel_rfl) (by kernel_rfl) (fun W hI => ⟨_, _, _, rfl, ⟨rfl, rfl, rfl⟩, hI⟩)
              · replace hc := (Bool.eq_false_iff.1 hc)
                rw [if_neg hc] at h
                have hc20 := hc
                clear hc
                refine WP.skip ?_
                refine QP.blockN ?_
                refine QP.next ?_
                refine WP.pick [1, 3] ?_
                refine WP.regionP [1, 3] (L' := [(1, .pointer (some ⟨b1, 0, none⟩)), (3, .int .i64 (IntKind.i64.wrap (y9 + 1)))]) (by kernel_rfl) ?_
                refine QP.pick [1, 3] ?_
                exact QP.meet ⟨kn11, Nat.lt_succ_self _, (IntKind.i64.wrap (y9 + 1)), h, rfl, rfl, rfl⟩
            · replace hc := of_decide_eq_false hc
              rw [if_neg hc] at h
              have hc12 := hc
              clear hc
              refine WP.exit ?_
              refine QP.thenE ?_
              refine QP.thenE ?_
              refine QP.blockE ?_
              refine QP.dropAt 0 ?_
              refine QP.pick [] ?_
              exact QP.meet ⟨_, Option.some.inj h, rfl, rfl, rfl⟩
        · rintro _ _ _ ⟨s7, rfl, rfl, rfl, rfl⟩
          clear h
          replace h := hk8
          dsimp only at h
          refine QP.next ?_
          refine WP.pick [] ?_
          refine WP.seqP [2] (L' := [(2, .bool false)]) (by kernel_rfl) ?_
          refine WP.ret ?_
          obtain rfl := Option.some.inj h
          exact QP.returned [2] [.bool false] _ (by kernel_rfl) (by kernel_rfl) (by kernel_rfl) (fun W hI => ⟨_, _, _, rfl, ⟨rfl, rfl, rfl⟩, hI⟩)
theorem grapevinelaw15_filtered_calls {B : World} {G : GMap} {Γ : List Chunk} {W : World} (k : Nat) (a0 : T25) (Aa0_f2 : Option Addr) (ca0_f2 : Nat) (Ha0_f2 : Rd kStr G Aa0_f2 ca0_f2 a0.f2) (Aa0_f3 : Option Addr) (ca0_f3 : Nat) (Ha0_f3 : Rd k25 G Aa0_f3 ca0_f3 a0.f3) (r : Bool) (h : grapevinelaw15_filtered k a0 = some r) (hI : Inv B G (Γ) W) :
    Calls Tryd.prog 20 [.agg #[.int .i64 a0.f0, .int .i64 a0.f1, .slice Aa0_f2 a0.f2.length ca0_f2, .slice Aa0_f3 a0.f3.length ca0_f3]].toArray W (Ret B (fun v G' Γ' => v = .bool r ∧ G = G' ∧ Γ = Γ')) := grapevinelaw15_filtered_calls_k k a0 Aa0_f2 ca0_f2 Ha0_f2 Aa0_f3 ca0_f3 Ha0_f3 r h hI
end Go.Proofs.YtbphlohiealbeaaDoor.Gf
