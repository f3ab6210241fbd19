/- Walks of Go functions: what each tells, as a plain Lean function, and that the Go code comes to it. Written by gg.py of this repo. -/
import Derived.Test.YtfocilpnbiciaaaDoorT
import Derived.Test.YtfocilpnbiciaaaDoorF0
namespace Go.Proofs.YtfocilpnbiciaaaDoor.Gf
open Go Go.Gg
set_option maxRecDepth 100000
set_option linter.unusedVariables false
set_option linter.unusedSimpArgs false

/-! ### grapevine/grapevineref3.Many: function 69 -/
def grapevineref3_Many (a0 : Int) : Option Bool := ((if a0 ≥ 1 then some (decide (a0 ≤ 8)) else some false).bind fun s1 => some s1)
set_option maxHeartbeats 4000000 in
theorem grapevineref3_Many_calls {B : World} {G : GMap} {Γ : List Chunk} {W : World} (a0 : Int) (r : Bool) (h : grapevineref3_Many a0 = some r) (hI : Inv B G (Γ) W) :
    Calls Tryd.prog 69 [.int .i64 a0].toArray W (Ret B (fun v G' Γ' => v = .bool r ∧ G = G' ∧ Γ = Γ')) := by
  refine calls_WP (Γ := Γ) (G := G) (B := B) Tryd.func69 rfl (by kernel_rfl) ?_ hI
  clear hI
  unfold grapevineref3_Many at h
  refine WP.seqP [0] (L' := [(0, .int .i64 a0)]) (by kernel_rfl) ?_
  rw [Option.bind_eq_some_iff] at h
  obtain ⟨os1, h, hk2⟩ := h
  refine WP.cut (fun L' G' Γ' => ∃ s1 : Bool, s1 = os1 ∧ L' = [(2, .bool s1)] ∧ G = G' ∧ Γ = Γ') ?_ ?_
  · clear hk2
    refine WP.region ?_
    refine WL.pure 0 3 [0, 5] (L' := [(0, .int .i64 a0), (5, .bool (decide (a0 ≥ 1)))]) (by kernel_rfl) (by decide) ?_
    refine WL.split 5 (b := decide (a0 ≥ 1)) (by kernel_rfl) (fun hc => ?_) (fun hc => ?_)
    · replace hc := of_decide_eq_true hc
      rw [if_pos hc] at h
      have hc3 := hc
      clear hc
      refine WL.rest 3 [2] (L' := [(2, .bool (decide (a0 ≤ 8)))]) (by kernel_rfl) ?_
      refine QP.pick [2] ?_
      exact QP.meet ⟨_, Option.some.inj h, rfl, rfl, rfl⟩
    · replace hc := of_decide_eq_false hc
      rw [if_neg hc] at h
      have hc3 := hc
      clear hc
      refine WL.rest 3 [2] (L' := [(2, .bool false)]) (by kernel_rfl) ?_
      refine QP.pick [2] ?_
      exact QP.meet ⟨_, Option.some.inj h, rfl, rfl, rfl⟩
  · rintro _ _ _ ⟨s1, rfl, rfl, rfl, rfl⟩
    clear h
    replace h := hk2
    refine WP.ret ?_
    obtain rfl := Option.some.inj h
    exact QP.returned [2] [.bool s1] _ (by kernel_rfl) (by kernel_rfl) (by kernel_rfl) (fun W hI => ⟨_, _, _, rfl, ⟨rfl, rfl, rfl⟩, hI⟩)

/-! ### grapevine/grapevineref3.May: function 61 -/
def grapevineref3_May_l0 (l0 : List Int) (a1 : Int) : Nat → Int → Option (Sum Bool Unit)
  | 0, _ => none
  | k + 1, y11 => (if y11 < a1 then ((if 0 ≤ y11 ∧ y11 < (l0.length : Int) then (if (l0.getD y11.toNat 0) < 0 then some true else (if 0 ≤ y11 ∧ y11 < (l0.length : Int) then some (decide ((l0.getD y11.toNat 0) > 1023)) else none)) else none).bind fun s15 => (if s15 = true then some (Sum.inl false) else grapevineref3_May_l0 l0 a1 k (IntKind.i64.wrap (y11 + 1)))) else some (Sum.inr ()))
def grapevineref3_May (k : Nat) (l0 : List Int) (a1 : Int) : Option Bool := (((grapevineref3_Many a1).bind fun t3 => (if (!t3) = true then some true else some ((l0.length : Int) != a1))).bind fun s1 => (if s1 = true then some false else ((grapevineref3_May_l0 l0 a1 k 0).bind fun os9 => match os9 with | Sum.inl r => some r | Sum.inr s9 => some true)))
set_option maxHeartbeats 4000000 in
theorem grapevineref3_May_calls {B : World} {G : GMap} {Γ : List Chunk} {W : World} (k : Nat) (l0 : List Int) (a1 : Int) (Al0 : Option Addr) (cl0 : Nat) (Hl0 : Rd (kInt .i64) G Al0 cl0 l0) (r : Bool) (h : grapevineref3_May k l0 a1 = some r) (hI : Inv B G (Γ) W) :
    Calls Tryd.prog 61 [.slice Al0 l0.length cl0, .int .i64 a1].toArray W (Ret B (fun v G' Γ' => v = .bool r ∧ G = G' ∧ Γ = Γ')) := by
  refine calls_WP (Γ := Γ) (G := G) (B := B) Tryd.func61 rfl (by kernel_rfl) ?_ hI
  clear hI
  unfold grapevineref3_May at h
  refine WP.seqP [0, 1] (L' := [(0, .slice Al0 l0.length cl0), (1, .int .i64 a1)]) (by kernel_rfl) ?_
  refine WP.seq ?_
  rw [Option.bind_eq_some_iff] at h
  obtain ⟨os1, h, hk2⟩ := h
  refine WP.cut (fun L' G' Γ' => ∃ s1 : Bool, s1 = os1 ∧ L' = [(0, .slice Al0 l0.length cl0), (1, .int .i64 a1), (14, .bool s1)] ∧ G = G' ∧ Γ = Γ') ?_ ?_
  · clear hk2
    refine WP.region ?_
    refine WL.pure 0 1 [0, 1, 6] (L' := [(0, .slice Al0 l0.length cl0), (1, .int .i64 a1), (6, .int .i64 a1)]) (by kernel_rfl) (by decide) ?_
    rw [Option.bind_eq_some_iff] at h
    obtain ⟨t3, ht4, h⟩ := h
    refine WL.op (op := .call { callee := (.value (.func 69)), args := #[(.tmp 6)], argTypes := #[3] }) (ty := 4) (d := some 7) (g := none) (by kernel_rfl) (by kernel_rfl) (by kernel_rfl) (Does.call (f := 69) (args := [.int .i64 a1]) (by kernel_rfl) (fun W hI => (grapevineref3_Many_calls a1  t3 ht4 hI))) ?_
    rintro _ _ _ ⟨rfl, rfl, rfl⟩
    refine WL.pure 2 4 [0, 1, 9] (L' := [(0, .slice Al0 l0.length cl0), (1, .int .i64 a1), (9, .bool (!t3))]) (by kernel_rfl) (by decide) ?_
    refine WL.split 9 (b := (!t3)) (by kernel_rfl) (fun hc => ?_) (fun hc => ?_)
    · replace hc := hc
      rw [if_pos hc] at h
      have hc7 := hc
      clear hc
      refine WL.rest 4 [0, 1, 14] (L' := [(0, .slice Al0 l0.length cl0), (1, .int .i64 a1), (14, .bool true)]) (by kernel_rfl) ?_
      refine QP.pick [0, 1, 14] ?_
      exact QP.meet ⟨_, Option.some.inj h, rfl, rfl, rfl⟩
    · replace hc := (Bool.eq_false_iff.1 hc)
      rw [if_neg hc] at h
      have hc7 := hc
      clear hc
      refine WL.rest 4 [0, 1, 14] (L' := [(0, .slice Al0 l0.length cl0), (1, .int .i64 a1), (14, .bool ((l0.length : Int) != a1))]) (by kernel_rfl) ?_
      refine QP.pick [0, 1, 14] ?_
      exact QP.meet ⟨_, Option.some.inj h, rfl, rfl, rfl⟩
  · rintro _ _ _ ⟨s1, rfl, rfl, rfl, rfl⟩
    clear h
    replace h := hk2
    refine WP.cond (b := s1) (by kernel_rfl) (fun hc => ?_) (fun hc => ?_)
    · replace hc := hc
      rw [if_pos hc] at h
      have hc8 := hc
      clear hc
      refine WP.seqP [4] (L' := [(4, .bool false)]) (by kernel_rfl) ?_
      refine WP.ret ?_
      refine QP.thenR ?_
      obtain rfl := Option.some.inj h
      exact QP.returned [4] [.bool false] _ (by kernel_rfl) (by kernel_rfl) (by kernel_rfl) (fun W hI => ⟨_, _, _, rfl, ⟨rfl, rfl, rfl⟩, hI⟩)
    · replace hc := (Bool.eq_false_iff.1 hc)
      rw [if_neg hc] at h
      have hc8 := hc
      clear hc
      refine WP.skip ?_
      refine QP.next ?_
      refine WP.pick [0, 1] ?_
      refine WP.seq ?_
      refine WP.seqP [0, 1, 5] (L' := [(0, .slice Al0 l0.length cl0), (1, .int .i64 a1), (5, .int .i64 0)]) (by kernel_rfl) ?_
      rw [Option.bind_eq_some_iff] at h
      obtain ⟨os9, h, hk10⟩ := h
      refine WP.cutQ (fun L' G' Γ' => ∃ s9 : Unit, Sum.inr s9 = os9 ∧ L' = [] ∧ G = G' ∧ Γ = Γ') ?_ ?_
      · skip
        refine WP.block ?_
        refine WP.pick [0, 1, 5] ?_
        refine WP.loopF (fun kn12 L' G' Γ' => ∃ (y11 : Int), grapevineref3_May_l0 l0 a1 kn12 y11 = some os9 ∧ L' = [(0, .slice Al0 l0.length cl0), (1, .int .i64 a1), (5, .int .i64 y11)] ∧ G = G' ∧ Γ = Γ') ?_ k ⟨0, h, rfl, rfl, rfl⟩
        clear h
        rintro kn13 _ _ _ ⟨y11, h, rfl, rfl, rfl⟩
        cases kn13 with
        | zero => exact absurd h (by simp [grapevineref3_May_l0])
        | succ kn13 =>
          simp only [grapevineref3_May_l0] at h
          refine WP.seq ?_
          refine WP.seqP [0, 1, 5, 17] (L' := [(0, .slice Al0 l0.length cl0), (1, .int .i64 a1), (5, .int .i64 y11), (17, .bool (decide (y11 < a1)))]) (by kernel_rfl) ?_
          refine WP.cond (b := decide (y11 < a1)) (by kernel_rfl) (fun hc => ?_) (fun hc => ?_)
          · replace hc := of_decide_eq_true hc
            rw [if_pos hc] at h
            have hc14 := hc
            clear hc
            refine WP.skip ?_
            refine QP.next ?_
            refine WP.pick [0, 1, 5] ?_
            refine WP.seq ?_
            refine WP.block ?_
            rw [Option.bind_eq_some_iff] at h
            obtain ⟨os15, h, hk16⟩ := h
            refine WP.cut (fun L' G' Γ' => ∃ s15 : Bool, s15 = os15 ∧ L' = [(0, .slice Al0 l0.length cl0), (1, .int .i64 a1), (5, .int .i64 y11), (31, .bool s15)] ∧ G = G' ∧ Γ = Γ') ?_ ?_
            · clear hk16
              refine WP.region ?_
              refine WL.pure 0 2 [0, 1, 5, 20, 21] (L' := [(0, .slice Al0 l0.length cl0), (1, .int .i64 a1), (5, .int .i64 y11), (20, .slice Al0 l0.length cl0), (21, .int .i64 y11)]) (by kernel_rfl) (by decide) ?_
              by_cases hb17 : 0 ≤ y11 ∧ y11 < (l0.length : Int)
              case neg => rw [if_neg hb17] at h; cases h
              rw [if_pos hb17] at h
              refine WL.tell (op := .indexAddr 32 (.tmp 20) (.tmp 21)) (ty := 0) (d := some 22) (g := none) (by kernel_rfl) (by kernel_rfl) (by kernel_rfl) (Tells.indexAddr (A := Al0) (n := l0.length) (c := cl0) (k := .i64) (j := y11) (by kernel_rfl) (by kernel_rfl) (Hl0.isSome hb17.1 hb17.2) hb17.1 hb17.2 sl32) ?_
              refine WL.tellE (op := .load 3 (.tmp 22)) (ty := 3) (d := some 23) (g := none) (by kernel_rfl) (by kernel_rfl) (by kernel_rfl) (Hl0.load (agg := false) hb17.1 hb17.2 0 ag3 (fun _ => rfl) (by kernel_rfl)) ?_
              rintro _ rfl
              refine WL.pure 4 6 [0, 1, 5, 25] (L' := [(0, .slice Al0 l0.length cl0), (1, .int .i64 a1), (5, .int .i64 y11), (25, .bool (decide ((l0.getD y11.toNat 0) < 0)))]) (by kernel_rfl) (by decide) ?_
              refine WL.split 25 (b := decide ((l0.getD y11.toNat 0) < 0)) (by kernel_rfl) (fun hc => ?_) (fun hc => ?_)
              · replace hc := of_decide_eq_true hc
                rw [if_pos hc] at h
                have hc18 := hc
                clear hc
                refine WL.rest 6 [0, 1, 5, 31] (L' := [(0, .slice Al0 l0.length cl0), (1, .int .i64 a1), (5, .int .i64 y11), (31, .bool true)]) (by kernel_rfl) ?_
                refine QP.pick [0, 1, 5, 31] ?_
                exact QP.meet ⟨_, Option.some.inj h, rfl, rfl, rfl⟩
              · replace hc := of_decide_eq_false hc
                rw [if_neg hc] at h
                have hc18 := hc
                clear hc
                refine WL.pure 6 8 [0, 1, 5, 25, 26, 27] (L' := [(0, .slice Al0 l0.length cl0), (1, .int .i64 a1), (5, .int .i64 y11), (25, .bool false), (26, .slice Al0 l0.length cl0), (27, .int .i64 y11)]) (by kernel_rfl) (by decide) ?_
                by_cases hb19 : 0 ≤ y11 ∧ y11 < (l0.length : Int)
                case neg => rw [if_neg hb19] at h; cases h
                rw [if_pos hb19] at h
                refine WL.tell (op := .indexAddr 32 (.tmp 26) (.tmp 27)) (ty := 0) (d := some 28) (g := some (5, false)) (by kernel_rfl) (by kernel_rfl) (by kernel_rfl) (Tells.indexAddr (A := Al0) (n := l0.length) (c := cl0) (k := .i64) (j := y11) (by kernel_rfl) (by kernel_rfl) (Hl0.isSome hb19.1 hb19.2) hb19.1 hb19.2 sl32) ?_
                refine WL.tellE (op := .load 3 (.tmp 28)) (ty := 3) (d := some 29) (g := some (5, false)) (by kernel_rfl) (by kernel_rfl) (by kernel_rfl) (Hl0.load (agg := false) hb19.1 hb19.2 0 ag3 (fun _ => rfl) (by kernel_rfl)) ?_
                rintro _ rfl
                refine WL.rest 10 [0, 1, 5, 31] (L' := [(0, .slice Al0 l0.length cl0), (1, .int .i64 a1), (5, .int .i64 y11), (31, .bool (decide ((l0.getD y11.toNat 0) > 1023)))]) (by kernel_rfl) ?_
                refine QP.pick [0, 1, 5, 31] ?_
                exact QP.meet ⟨_, Option.some.inj h, rfl, rfl, rfl⟩
            · rintro _ _ _ ⟨s15, rfl, rfl, rfl, rfl⟩
              clear h
              replace h := hk16
              refine WP.cond (b := s15) (by kernel_rfl) (fun hc => ?_) (fun hc => ?_)
              · replace hc := hc
                rw [if_pos hc] at h
                have hc20 := hc
                clear hc
                refine WP.seqP [4] (L' := [(4, .bool false)]) (by kernel_rfl) ?_
                refine WP.ret ?_
                refine QP.blockR ?_
                refine QP.thenR ?_
                refine QP.thenR ?_
                refine QP.blockR ?_
                refine QP.thenR ?_
                refine QP.thenR ?_
                obtain rfl := Option.some.inj h
                obtain rfl := Option.some.inj (show some _ = some _ from hk10)
                exact QP.returned [4] [.bool false] _ (by kernel_rfl) (by kernel_rfl) (by kernel_rfl) (fun W hI => ⟨_, _, _, rfl, ⟨rfl, rfl, rfl⟩, hI⟩)
              · replace hc := (Bool.eq_false_iff.1 hc)
                rw [if_neg hc] at h
                have hc20 := hc
                clear hc
                refine WP.skip ?_
                refine QP.blockN ?_
                refine QP.next ?_
                refine WP.pick [0, 1, 5] ?_
                refine WP.regionP [0, 1, 5] (L' := [(0, .slice Al0 l0.length cl0), (1, .int .i64 a1), (5, .int .i64 (IntKind.i64.wrap (y11 + 1)))]) (by kernel_rfl) ?_
                refine QP.pick [0, 1, 5] ?_
                exact QP.meet ⟨kn13, Nat.lt_succ_self _, (IntKind.i64.wrap (y11 + 1)), h, rfl, rfl, rfl⟩
          · replace hc := of_decide_eq_false hc
            rw [if_neg hc] at h
            have hc14 := hc
            clear hc
            refine WP.exit ?_
            refine QP.thenE ?_
            refine QP.thenE ?_
            refine QP.blockE ?_
            refine QP.pick [] ?_
            exact QP.meet ⟨_, Option.some.inj h, rfl, rfl, rfl⟩
      · rintro _ _ _ ⟨s9, rfl, rfl, rfl, rfl⟩
        clear h
        replace h := hk10
        refine QP.next ?_
        refine WP.pick [] ?_
        refine WP.seqP [4] (L' := [(4, .bool true)]) (by kernel_rfl) ?_
        refine WP.ret ?_
        obtain rfl := Option.some.inj h
        exact QP.returned [4] [.bool true] _ (by kernel_rfl) (by kernel_rfl) (by kernel_rfl) (fun W hI => ⟨_, _, _, rfl, ⟨rfl, rfl, rfl⟩, hI⟩)

/-! ### grapevine/grapevineref3.Below: function 62 -/
def grapevineref3_Below_l0 (l0 : List Int) (l1 : List Int) : Nat → Int → Option (Sum Bool Unit)
  | 0, _ => none
  | k + 1, y4 => (if y4 < (l0.length : Int) then (if 0 ≤ y4 ∧ y4 < (l0.length : Int) then (if 0 ≤ y4 ∧ y4 < (l1.length : Int) then (if (l0.getD y4.toNat 0) > (l1.getD y4.toNat 0) then some (Sum.inl false) else grapevineref3_Below_l0 l0 l1 k (IntKind.i64.wrap (y4 + 1))) else none) else none) else some (Sum.inr ()))
def grapevineref3_Below (k : Nat) (l0 : List Int) (l1 : List Int) : Option Bool := (if ¬ (l0.length : Int) = (l1.length : Int) then some false else ((grapevineref3_Below_l0 l0 l1 k 0).bind fun os2 => match os2 with | Sum.inl r => some r | Sum.inr s2 => some true))
set_option maxHeartbeats 4000000 in
theorem grapevineref3_Below_calls {B : World} {G : GMap} {Γ : List Chunk} {W : World} (k : Nat) (l0 : List Int) (l1 : List Int) (Al0 : Option Addr) (cl0 : Nat) (Hl0 : Rd (kInt .i64) G Al0 cl0 l0) (Al1 : Option Addr) (cl1 : Nat) (Hl1 : Rd (kInt .i64) G Al1 cl1 l1) (r : Bool) (h : grapevineref3_Below k l0 l1 = some r) (hI : Inv B G (Γ) W) :
    Calls Tryd.prog 62 [.slice Al0 l0.length cl0, .slice Al1 l1.length cl1].toArray W (Ret B (fun v G' Γ' => v = .bool r ∧ G = G' ∧ Γ = Γ')) := by
  refine calls_WP (Γ := Γ) (G := G) (B := B) Tryd.func62 rfl (by kernel_rfl) ?_ hI
  clear hI
  unfold grapevineref3_Below at h
  refine WP.seqP [0, 1] (L' := [(0, .slice Al0 l0.length cl0), (1, .slice Al1 l1.length cl1)]) (by kernel_rfl) ?_
  refine WP.seq ?_
  refine WP.seqP [0, 1, 10] (L' := [(0, .slice Al0 l0.length cl0), (1, .slice Al1 l1.length cl1), (10, .bool ((l0.length : Int) != (l1.length : Int)))]) (by kernel_rfl) ?_
  refine WP.cond (b := ((l0.length : Int) != (l1.length : Int))) (by kernel_rfl) (fun hc => ?_) (fun hc => ?_)
  · replace hc := (bne_iff_ne.1 hc)
    rw [if_pos hc] at h
    have hc1 := hc
    clear hc
    refine WP.seqP [4] (L' := [(4, .bool false)]) (by kernel_rfl) ?_
    refine WP.ret ?_
    refine QP.thenR ?_
    obtain rfl := Option.some.inj h
    exact QP.returned [4] [.bool false] _ (by kernel_rfl) (by kernel_rfl) (by kernel_rfl) (fun W hI => ⟨_, _, _, rfl, ⟨rfl, rfl, rfl⟩, hI⟩)
  · replace hc := (not_not_intro (bne_eq_false_iff_eq.1 hc))
    rw [if_neg hc] at h
    have hc1 := hc
    clear hc
    refine WP.skip ?_
    refine QP.next ?_
    refine WP.pick [0, 1] ?_
    refine WP.seq ?_
    refine WP.seqP [0, 1, 5] (L' := [(0, .slice Al0 l0.length cl0), (1, .slice Al1 l1.length cl1), (5, .int .i64 0)]) (by kernel_rfl) ?_
    rw [Option.bind_eq_some_iff] at h
    obtain ⟨os2, h, hk3⟩ := h
    refine WP.cutQ (fun L' G' Γ' => ∃ s2 : Unit, Sum.inr s2 = os2 ∧ L' = [] ∧ G = G' ∧ Γ = Γ') ?_ ?_
    · skip
      refine WP.block ?_
      refine WP.pick [0, 1, 5] ?_
      refine WP.loopF (fun kn5 L' G' Γ' => ∃ (y4 : Int), grapevineref3_Below_l0 l0 l1 kn5 y4 = some os2 ∧ L' = [(0, .slice Al0 l0.length cl0), (1, .slice Al1 l1.length cl1), (5, .int .i64 y4)] ∧ G = G' ∧ Γ = Γ') ?_ k ⟨0, h, rfl, rfl, rfl⟩
      clear h
      rintro kn6 _ _ _ ⟨y4, h, rfl, rfl, rfl⟩
      cases kn6 with
      | zero => exact absurd h (by simp [grapevineref3_Below_l0])
      | succ kn6 =>
        simp only [grapevineref3_Below_l0] at h
        refine WP.seq ?_
        refine WP.seqP [0, 1, 5, 14] (L' := [(0, .slice Al0 l0.length cl0), (1, .slice Al1 l1.length cl1), (5, .int .i64 y4), (14, .bool (decide (y4 < (l0.length : Int))))]) (by kernel_rfl) ?_
        refine WP.cond (b := decide (y4 < (l0.length : Int))) (by kernel_rfl) (fun hc => ?_) (fun hc => ?_)
        · replace hc := of_decide_eq_true hc
          rw [if_pos hc] at h
          have hc7 := hc
          clear hc
          refine WP.skip ?_
          refine QP.next ?_
          refine WP.pick [0, 1, 5] ?_
          refine WP.seq ?_
          refine WP.block ?_
          refine WP.seq ?_
          refine WP.any (N := 9) (S := [⟨some 17, [0], []⟩, ⟨some 18, [5], []⟩, ⟨some 19, [17, 18], [0, 1]⟩, ⟨some 20, [19], [2]⟩, ⟨some 21, [1], []⟩, ⟨some 22, [5], []⟩, ⟨some 23, [21, 22], [4, 5]⟩, ⟨some 24, [23], [6]⟩, ⟨some 25, [20, 24], [3, 7]⟩]) (kw := 9) (G0 := G) (Γ0 := Γ) mo (by kernel_rfl) (fun hS => ?_)
          refine WA.pure [0, 1, 4, 5] [0, 1, 5, 17, 18, 21, 22] (m := 5) (b' := 51) (L' := [(0, .slice Al0 l0.length cl0), (1, .slice Al1 l1.length cl1), (5, .int .i64 y4), (17, .slice Al0 l0.length cl0), (18, .int .i64 y4), (21, .slice Al1 l1.length cl1), (22, .int .i64 y4)]) (by kernel_rfl) (NoPanic.then (NoPanic.block (NoPanic.then (NoPanic.then (NoPanic.block (NoPanic.then (NoPanic.then (NoPanic.body)))))))) Under.refl hS (by kernel_rfl) ?_
          by_cases hb8 : 0 ≤ y4 ∧ y4 < (l0.length : Int)
          case neg => rw [if_neg hb8] at h; cases h
          rw [if_pos hb8] at h
          refine WA.tellD [] (i := 2) (m := 4) (b' := 55) (by kernel_rfl) (NoPanic.then (NoPanic.block (NoPanic.then (NoPanic.then (NoPanic.block (NoPanic.then (NoPanic.then (NoPanic.body)))))))) Under.refl hS (by kernel_rfl) (op := .indexAddr 32 (.tmp 17) (.tmp 18)) (ty := 0) (d := some 19) (g := none) (by kernel_rfl) (by kernel_rfl) (by kernel_rfl) (Tells.indexAddr (A := Al0) (n := l0.length) (c := cl0) (k := .i64) (j := y4) (by kernel_rfl) (by kernel_rfl) (Hl0.isSome hb8.1 hb8.2) hb8.1 hb8.2 sl32) ?_
          refine WA.tellDE [] (i := 3) (m := 3) (b' := 63) (by kernel_rfl) (NoPanic.then (NoPanic.block (NoPanic.then (NoPanic.then (NoPanic.block (NoPanic.then (NoPanic.then (NoPanic.body)))))))) Under.refl hS (by kernel_rfl) (op := .load 3 (.tmp 19)) (ty := 3) (d := some 20) (g := none) (by kernel_rfl) (by kernel_rfl) (by kernel_rfl) (Hl0.load (agg := false) hb8.1 hb8.2 0 ag3 (fun _ => rfl) (by kernel_rfl)) ?_
          rintro _ rfl
          by_cases hb9 : 0 ≤ y4 ∧ y4 < (l1.length : Int)
          case neg => rw [if_neg hb9] at h; cases h
          rw [if_pos hb9] at h
          refine WA.tellD [] (i := 6) (m := 2) (b' := 127) (by kernel_rfl) (NoPanic.then (NoPanic.block (NoPanic.then (NoPanic.then (NoPanic.block (NoPanic.then (NoPanic.then (NoPanic.body)))))))) Under.refl hS (by kernel_rfl) (op := .indexAddr 32 (.tmp 21) (.tmp 22)) (ty := 0) (d := some 23) (g := none) (by kernel_rfl) (by kernel_rfl) (by kernel_rfl) (Tells.indexAddr (A := Al1) (n := l1.length) (c := cl1) (k := .i64) (j := y4) (by kernel_rfl) (by kernel_rfl) (Hl1.isSome hb9.1 hb9.2) hb9.1 hb9.2 sl32) ?_
          refine WA.tellDE [] (i := 7) (m := 1) (b' := 255) (by kernel_rfl) (NoPanic.then (NoPanic.block (NoPanic.then (NoPanic.then (NoPanic.block (NoPanic.then (NoPanic.then (NoPanic.body)))))))) Under.refl hS (by kernel_rfl) (op := .load 3 (.tmp 23)) (ty := 3) (d := some 24) (g := none) (by kernel_rfl) (by kernel_rfl) (by kernel_rfl) (Hl1.load (agg := false) hb9.1 hb9.2 0 ag3 (fun _ => rfl) (by kernel_rfl)) ?_
          rintro _ rfl
          refine WA.pure [8] [0, 1, 5, 25] (m := 0) (b' := 511) (L' := [(0, .slice Al0 l0.length cl0), (1, .slice Al1 l1.length cl1), (5, .int .i64 y4), (25, .bool (decide ((l0.getD y4.toNat 0) > (l1.getD y4.toNat 0))))]) (by kernel_rfl) (NoPanic.then (NoPanic.block (NoPanic.then (NoPanic.then (NoPanic.block (NoPanic.then (NoPanic.then (NoPanic.body)))))))) Under.refl hS (by kernel_rfl) ?_
          refine WA.done hS (by kernel_rfl) ?_
          refine QP.pick [0, 1, 5, 25] ?_
          refine QP.next ?_
          refine WP.cond (b := decide ((l0.getD y4.toNat 0) > (l1.getD y4.toNat 0))) (by kernel_rfl) (fun hc => ?_) (fun hc => ?_)
          · replace hc := of_decide_eq_true hc
            rw [if_pos hc] at h
            have hc10 := hc
            clear hc
            refine WP.seqP [4] (L' := [(4, .bool false)]) (by kernel_rfl) ?_
            refine WP.ret ?_
            refine QP.blockR ?_
            refine QP.thenR ?_
            refine QP.thenR ?_
            refine QP.blockR ?_
            refine QP.thenR ?_
            refine QP.thenR ?_
            obtain rfl := Option.some.inj h
            obtain rfl := Option.some.inj (show some _ = some _ from hk3)
            exact QP.returned [4] [.bool false] _ (by kernel_rfl) (by kernel_rfl) (by kernel_rfl) (fun W hI => ⟨_, _, _, rfl, ⟨rfl, rfl, rfl⟩, hI⟩)
          · replace hc := of_decide_eq_false hc
            rw [if_neg hc] at h
            have hc10 := hc
            clear hc
            refine WP.skip ?_
            refine QP.blockN ?_
            refine QP.next ?_
            refine WP.pick [0, 1, 5] ?_
            refine WP.regionP [0, 1, 5] (L' := [(0, .slice Al0 l0.length cl0), (1, .slice Al1 l1.length cl1), (5, .int .i64 (IntKind.i64.wrap (y4 + 1)))]) (by kernel_rfl) ?_
            refine QP.pick [0, 1, 5] ?_
            exact QP.meet ⟨kn6, Nat.lt_succ_self _, (IntKind.i64.wrap (y4 + 1)), h, rfl, rfl, rfl⟩
        · replace hc := of_decide_eq_false hc
          rw [if_neg hc] at h
          have hc7 := hc
          clear hc
          refine WP.exit ?_
          refine QP.thenE ?_
          refine QP.thenE ?_
          refine QP.blockE ?_
          refine QP.pick [] ?_
          exact QP.meet ⟨_, Option.some.inj h, rfl, rfl, rfl⟩
    · rintro _ _ _ ⟨s2, rfl, rfl, rfl, rfl⟩
      clear h
      replace h := hk3
      refine QP.next ?_
      refine WP.pick [] ?_
      refine WP.seqP [4] (L' := [(4, .bool true)]) (by kernel_rfl) ?_
      refine WP.ret ?_
      obtain rfl := Option.some.inj h
      exact QP.returned [4] [.bool true] _ (by kernel_rfl) (by kernel_rfl) (by kernel_rfl) (fun W hI => ⟨_, _, _, rfl, ⟨rfl, rfl, rfl⟩, hI⟩)

/-! ### grapevine/grapevineref4.MayKey: function 93 -/
def grapevineref4_MayKey (a0 : T35) : Option Bool := ((if a0.f0 ≥ 0 then (if a0.f0 < 8 then (if a0.f1 ≥ 1 then some (decide (a0.f1 ≤ 1023)) else some false) else some false) else some false).bind fun s2 => some s2)
set_option maxHeartbeats 4000000 in
theorem grapevineref4_MayKey_calls {B : World} {G : GMap} {Γ : List Chunk} {W : World} (a0 : T35) (r : Bool) (h : grapevineref4_MayKey a0 = some r) (hI : Inv B G (Γ) W) :
    Calls Tryd.prog 93 [.agg #[.int .i64 a0.f0, .int .i64 a0.f1]].toArray W (Ret B (fun v G' Γ' => v = .bool r ∧ G = G' ∧ Γ = Γ')) := by
  refine calls_WP (Γ := Γ) (G := G) (B := B) Tryd.func93 rfl (by kernel_rfl) ?_ hI
  clear hI
  unfold grapevineref4_MayKey at h
  refine WP.seqR ?_
  refine WL.op (op := .box 35 (.tmp 0)) (ty := 0) (d := some 1) (g := none) (by kernel_rfl) (by kernel_rfl) (by kernel_rfl) (Does.new (o := .cells #[.int .i64 a0.f0, .int .i64 a0.f1] 35 (0, 0)) (v := fun r => .pointer (some ⟨r, 0, none⟩)) (fun r => by kernel_rfl)) ?_
  rintro _ _ _ ⟨b1, rfl, rfl, rfl⟩
  refine WL.restQ 1 [1] (L' := [(1, .pointer (some ⟨b1, 0, none⟩))]) (by kernel_rfl) ?_
  rw [Option.bind_eq_some_iff] at h
  obtain ⟨os2, h, hk3⟩ := h
  refine WP.cut (fun L' G' Γ' => ∃ s2 : Bool, s2 = os2 ∧ L' = [(2, .bool s2)] ∧ G = G' ∧ Γ = Γ') ?_ ?_
  · clear hk3
    refine WP.region ?_
    refine WL.pure 0 1 [1, 3] (L' := [(1, .pointer (some ⟨b1, 0, none⟩)), (3, .pointer (some ⟨b1, 0, none⟩))]) (by kernel_rfl) (by decide) ?_
    refine WL.tell (op := .load 3 (.tmp 3)) (ty := 3) (d := some 4) (g := none) (by kernel_rfl) (by kernel_rfl) (by kernel_rfl) (Tells.load_box (i := 0) (b := b1) (o := 0) (agg := false) (by rfl) ag3 (by kernel_rfl) (fun _ => rfl) (Nat.le_of_ble_eq_true rfl) (v := .int .i64 a0.f0) (by kernel_rfl)) ?_
    refine WL.pure 2 4 [1, 6] (L' := [(1, .pointer (some ⟨b1, 0, none⟩)), (6, .bool (decide (a0.f0 ≥ 0)))]) (by kernel_rfl) (by decide) ?_
    refine WL.split 6 (b := decide (a0.f0 ≥ 0)) (by kernel_rfl) (fun hc => ?_) (fun hc => ?_)
    · replace hc := of_decide_eq_true hc
      rw [if_pos hc] at h
      have hc4 := hc
      clear hc
      refine WL.pure 4 5 [1, 6, 7] (L' := [(1, .pointer (some ⟨b1, 0, none⟩)), (6, .bool true), (7, .pointer (some ⟨b1, 0, none⟩))]) (by kernel_rfl) (by decide) ?_
      refine WL.tell (op := .load 3 (.tmp 7)) (ty := 3) (d := some 8) (g := some (3, true)) (by kernel_rfl) (by kernel_rfl) (by kernel_rfl) (Tells.load_box (i := 0) (b := b1) (o := 0) (agg := false) (by rfl) ag3 (by kernel_rfl) (fun _ => rfl) (Nat.le_of_ble_eq_true rfl) (v := .int .i64 a0.f0) (by kernel_rfl)) ?_
      refine WL.pure 6 9 [1, 11] (L' := [(1, .pointer (some ⟨b1, 0, none⟩)), (11, .bool (decide (a0.f0 < 8)))]) (by kernel_rfl) (by decide) ?_
      refine WL.split 11 (b := decide (a0.f0 < 8)) (by kernel_rfl) (fun hc => ?_) (fun hc => ?_)
      · replace hc := of_decide_eq_true hc
        rw [if_pos hc] at h
        have hc5 := hc
        clear hc
        refine WL.pure 9 10 [1, 11, 12] (L' := [(1, .pointer (some ⟨b1, 0, none⟩)), (11, .bool true), (12, .pointer (some ⟨b1, 1, none⟩))]) (by kernel_rfl) (by decide) ?_
        refine WL.tell (op := .load 3 (.tmp 12)) (ty := 3) (d := some 13) (g := some (8, true)) (by kernel_rfl) (by kernel_rfl) (by kernel_rfl) (Tells.load_box (i := 0) (b := b1) (o := 1) (agg := false) (by rfl) ag3 (by kernel_rfl) (fun _ => rfl) (Nat.le_of_ble_eq_true rfl) (v := .int .i64 a0.f1) (by kernel_rfl)) ?_
        refine WL.pure 11 14 [1, 16] (L' := [(1, .pointer (some ⟨b1, 0, none⟩)), (16, .bool (decide (a0.f1 ≥ 1)))]) (by kernel_rfl) (by decide) ?_
        refine WL.split 16 (b := decide (a0.f1 ≥ 1)) (by kernel_rfl) (fun hc => ?_) (fun hc => ?_)
        · replace hc := of_decide_eq_true hc
          rw [if_pos hc] at h
          have hc6 := hc
          clear hc
          refine WL.pure 14 15 [16, 17] (L' := [(16, .bool true), (17, .pointer (some ⟨b1, 1, none⟩))]) (by kernel_rfl) (by decide) ?_
          refine WL.tell (op := .load 3 (.tmp 17)) (ty := 3) (d := some 18) (g := some (13, true)) (by kernel_rfl) (by kernel_rfl) (by kernel_rfl) (Tells.load_box (i := 0) (b := b1) (o := 1) (agg := false) (by rfl) ag3 (by kernel_rfl) (fun _ => rfl) (Nat.le_of_ble_eq_true rfl) (v := .int .i64 a0.f1) (by kernel_rfl)) ?_
          refine WL.rest 16 [2] (L' := [(2, .bool (decide (a0.f1 ≤ 1023)))]) (by kernel_rfl) ?_
          refine QP.dropAt 0 ?_
          refine QP.pick [2] ?_
          exact QP.meet ⟨_, Option.some.inj h, rfl, rfl, rfl⟩
        · replace hc := of_decide_eq_false hc
          rw [if_neg hc] at h
          have hc6 := hc
          clear hc
          refine WL.rest 14 [2] (L' := [(2, .bool false)]) (by kernel_rfl) ?_
          refine QP.dropAt 0 ?_
          refine QP.pick [2] ?_
          exact QP.meet ⟨_, Option.some.inj h, rfl, rfl, rfl⟩
      · replace hc := of_decide_eq_false hc
        rw [if_neg hc] at h
        have hc5 := hc
        clear hc
        refine WL.rest 9 [2] (L' := [(2, .bool false)]) (by kernel_rfl) ?_
        refine QP.dropAt 0 ?_
        refine QP.pick [2] ?_
        exact QP.meet ⟨_, Option.some.inj h, rfl, rfl, rfl⟩
    · replace hc := of_decide_eq_false hc
      rw [if_neg hc] at h
      have hc4 := hc
      clear hc
      refine WL.rest 4 [2] (L' := [(2, .bool false)]) (by kernel_rfl) ?_
      refine QP.dropAt 0 ?_
      refine QP.pick [2] ?_
      exact QP.meet ⟨_, Option.some.inj h, rfl, rfl, rfl⟩
  · rintro _ _ _ ⟨s2, rfl, rfl, rfl, rfl⟩
    clear h
    replace h := hk3
    refine WP.ret ?_
    obtain rfl := Option.some.inj h
    exact QP.returned [2] [.bool s2] _ (by kernel_rfl) (by kernel_rfl) (by kernel_rfl) (fun W hI => ⟨_, _, _, rfl, ⟨rfl, rfl, rfl⟩, hI⟩)

/-! ### grapevine/grapevineref2.in: function 98 -/
def grapevineref2_in (a0 : Int) (a1 : Int) : Option Bool := ((if a0 ≥ 0 then some (decide (a0 ≤ a1)) else some false).bind fun s1 => some s1)
set_option maxHeartbeats 4000000 in
theorem grapevineref2_in_calls {B : World} {G : GMap} {Γ : List Chunk} {W : World} (a0 : Int) (a1 : Int) (r : Bool) (h : grapevineref2_in a0 a1 = some r) (hI : Inv B G (Γ) W) :
    Calls Tryd.prog 98 [.int .i64 a0, .int .i64 a1].toArray W (Ret B (fun v G' Γ' => v = .bool r ∧ G = G' ∧ Γ = Γ')) := by
  refine calls_WP (Γ := Γ) (G := G) (B := B) Tryd.func98 rfl (by kernel_rfl) ?_ hI
  clear hI
  unfold grapevineref2_in at h
  refine WP.seqP [0, 1] (L' := [(0, .int .i64 a0), (1, .int .i64 a1)]) (by kernel_rfl) ?_
  rw [Option.bind_eq_some_iff] at h
  obtain ⟨os1, h, hk2⟩ := h
  refine WP.cut (fun L' G' Γ' => ∃ s1 : Bool, s1 = os1 ∧ L' = [(4, .bool s1)] ∧ G = G' ∧ Γ = Γ') ?_ ?_
  · clear hk2
    refine WP.region ?_
    refine WL.pure 0 3 [0, 1, 7] (L' := [(0, .int .i64 a0), (1, .int .i64 a1), (7, .bool (decide (a0 ≥ 0)))]) (by kernel_rfl) (by decide) ?_
    refine WL.split 7 (b := decide (a0 ≥ 0)) (by kernel_rfl) (fun hc => ?_) (fun hc => ?_)
    · replace hc := of_decide_eq_true hc
      rw [if_pos hc] at h
      have hc3 := hc
      clear hc
      refine WL.rest 3 [4] (L' := [(4, .bool (decide (a0 ≤ a1)))]) (by kernel_rfl) ?_
      refine QP.pick [4] ?_
      exact QP.meet ⟨_, Option.some.inj h, rfl, rfl, rfl⟩
    · replace hc := of_decide_eq_false hc
      rw [if_neg hc] at h
      have hc3 := hc
      clear hc
      refine WL.rest 3 [4] (L' := [(4, .bool false)]) (by kernel_rfl) ?_
      refine QP.pick [4] ?_
      exact QP.meet ⟨_, Option.some.inj h, rfl, rfl, rfl⟩
  · rintro _ _ _ ⟨s1, rfl, rfl, rfl, rfl⟩
    clear h
    replace h := hk2
    refine WP.ret ?_
    obtain rfl := Option.some.inj h
    exact QP.returned [4] [.bool s1] _ (by kernel_rfl) (by kernel_rfl) (by kernel_rfl) (fun W hI => ⟨_, _, _, rfl, ⟨rfl, rfl, rfl⟩, hI⟩)

/-! ### grapevine/grapevineref2.May: function 94 -/
def grapevineref2_May (a0 : T37) : Option Bool := (((grapevineref2_in a0.f0 1099511627776).bind fun t4 => (if t4 = true then ((grapevineref2_in a0.f1 65535).bind fun t9 => some t9) else some false)).bind fun s2 => some s2)
set_option maxHeartbeats 4000000 in
theorem grapevineref2_May_calls {B : World} {G : GMap} {Γ : List Chunk} {W : World} (a0 : T37) (r : Bool) (h : grapevineref2_May a0 = some r) (hI : Inv B G (Γ) W) :
    Calls Tryd.prog 94 [.agg #[.int .i64 a0.f0, .int .i64 a0.f1]].toArray W (Ret B (fun v G' Γ' => v = .bool r ∧ G = G' ∧ Γ = Γ')) := by
  refine calls_WP (Γ := Γ) (G := G) (B := B) Tryd.func94 rfl (by kernel_rfl) ?_ hI
  clear hI
  unfold grapevineref2_May at h
  refine WP.seqR ?_
  refine WL.op (op := .box 37 (.tmp 0)) (ty := 0) (d := some 1) (g := none) (by kernel_rfl) (by kernel_rfl) (by kernel_rfl) (Does.new (o := .cells #[.int .i64 a0.f0, .int .i64 a0.f1] 37 (0, 0)) (v := fun r => .pointer (some ⟨r, 0, none⟩)) (fun r => by kernel_rfl)) ?_
  rintro _ _ _ ⟨b1, rfl, rfl, rfl⟩
  refine WL.restQ 1 [1] (L' := [(1, .pointer (some ⟨b1, 0, none⟩))]) (by kernel_rfl) ?_
  rw [Option.bind_eq_some_iff] at h
  obtain ⟨os2, h, hk3⟩ := h
  refine WP.cut (fun L' G' Γ' => ∃ s2 : Bool, s2 = os2 ∧ L' = [(2, .bool s2)] ∧ G = G' ∧ Γ = Γ') ?_ ?_
  · clear hk3
    refine WP.region ?_
    refine WL.pure 0 1 [1, 3] (L' := [(1, .pointer (some ⟨b1, 0, none⟩)), (3, .pointer (some ⟨b1, 0, none⟩))]) (by kernel_rfl) (by decide) ?_
    refine WL.tell (op := .load 3 (.tmp 3)) (ty := 3) (d := some 4) (g := none) (by kernel_rfl) (by kernel_rfl) (by kernel_rfl) (Tells.load_box (i := 0) (b := b1) (o := 0) (agg := false) (by rfl) ag3 (by kernel_rfl) (fun _ => rfl) (Nat.le_of_ble_eq_true rfl) (v := .int .i64 a0.f0) (by kernel_rfl)) ?_
    rw [Option.bind_eq_some_iff] at h
    obtain ⟨t4, ht5, h⟩ := h
    refine WL.op (op := .call { callee := (.value (.func 98)), args := #[(.tmp 4), (.const (.int .i64 1099511627776))], argTypes := #[3, 3] }) (ty := 4) (d := some 5) (g := none) (by kernel_rfl) (by kernel_rfl) (by kernel_rfl) (Does.call (f := 98) (args := [.int .i64 a0.f0, .int .i64 1099511627776]) (by kernel_rfl) (fun W hI => (grapevineref2_in_calls a0.f0 1099511627776  t4 ht5 hI))) ?_
    rintro _ _ _ ⟨rfl, rfl, rfl⟩
    refine WL.pure 3 4 [1, 6] (L' := [(1, .pointer (some ⟨b1, 0, none⟩)), (6, .bool t4)]) (by kernel_rfl) (by decide) ?_
    refine WL.split 6 (b := t4) (by kernel_rfl) (fun hc => ?_) (fun hc => ?_)
    · replace hc := hc
      rw [if_pos hc] at h
      have hc8 := hc
      clear hc
      refine WL.pure 4 5 [6, 7] (L' := [(6, .bool true), (7, .pointer (some ⟨b1, 1, none⟩))]) (by kernel_rfl) (by decide) ?_
      refine WL.tell (op := .load 3 (.tmp 7)) (ty := 3) (d := some 8) (g := some (3, true)) (by kernel_rfl) (by kernel_rfl) (by kernel_rfl) (Tells.load_box (i := 0) (b := b1) (o := 1) (agg := false) (by rfl) ag3 (by kernel_rfl) (fun _ => rfl) (Nat.le_of_ble_eq_true rfl) (v := .int .i64 a0.f1) (by kernel_rfl)) ?_
      rw [Option.bind_eq_some_iff] at h
      obtain ⟨t9, ht10, h⟩ := h
      refine WL.op (op := .call { callee := (.value (.func 98)), args := #[(.tmp 8), (.const (.int .i64 65535))], argTypes := #[3, 3] }) (ty := 4) (d := some 9) (g := some (3, true)) (by kernel_rfl) (by kernel_rfl) (by kernel_rfl) (Does.call (f := 98) (args := [.int .i64 a0.f1, .int .i64 65535]) (by kernel_rfl) (fun W hI => (grapevineref2_in_calls a0.f1 65535  t9 ht10 hI))) ?_
      rintro _ _ _ ⟨rfl, rfl, rfl⟩
      refine WL.rest 7 [2] (L' := [(2, .bool t9)]) (by kernel_rfl) ?_
      refine QP.dropAt 0 ?_
      refine QP.pick [2] ?_
      exact QP.meet ⟨_, Option.some.inj h, rfl, rfl, rfl⟩
    · replace hc := (Bool.eq_false_iff.1 hc)
      rw [if_neg hc] at h
      have hc8 := hc
      clear hc
      refine WL.rest 4 [2] (L' := [(2, .bool false)]) (by kernel_rfl) ?_
      refine QP.dropAt 0 ?_
      refine QP.pick [2] ?_
      exact QP.meet ⟨_, Option.some.inj h, rfl, rfl, rfl⟩
  · rintro _ _ _ ⟨s2, rfl, rfl, rfl, rfl⟩
    clear h
    replace h := hk3
    refine WP.ret ?_
    obtain rfl := Option.some.inj h
    exact QP.returned [2] [.bool s2] _ (by kernel_rfl) (by kernel_rfl) (by kernel_rfl) (fun W hI => ⟨_, _, _, rfl, ⟨rfl, rfl, rfl⟩, hI⟩)

/-! ### grapevine/grapevineref1.May: function 95 -/
def grapevineref1_May (a0 : ByteArray) : Option Bool := ((if (a0.size : Int) ≤ 120 then ((utf8_ValidString a0).bind fun t4 => some t4) else some false).bind fun s1 => some s1)
set_option maxHeartbeats 4000000 in
theorem grapevineref1_May_calls {B : World} {G : GMap} {Γ : List Chunk} {W : World} (HT : Tabs B G) (a0 : ByteArray) (r : Bool) (h : grapevineref1_May a0 = some r) (hI : Inv B G (Γ) W) :
    Calls Tryd.prog 95 [.string a0].toArray W (Ret B (fun v G' Γ' => v = .bool r ∧ G = G' ∧ Γ = Γ')) := by
  refine calls_WP (Γ := Γ) (G := G) (B := B) Tryd.func95 rfl (by kernel_rfl) ?_ hI
  clear hI
  unfold grapevineref1_May at h
  refine WP.seqP [0] (L' := [(0, .string a0)]) (by kernel_rfl) ?_
  rw [Option.bind_eq_some_iff] at h
  obtain ⟨os1, h, hk2⟩ := h
  refine WP.cut (fun L' G' Γ' => ∃ s1 : Bool, s1 = os1 ∧ L' = [(2, .bool s1)] ∧ G = G' ∧ Γ = Γ') ?_ ?_
  · clear hk2
    refine WP.region ?_
    refine WL.pure 0 4 [0, 6] (L' := [(0, .string a0), (6, .bool (decide ((a0.size : Int) ≤ 120)))]) (by kernel_rfl) (by decide) ?_
    refine WL.split 6 (b := decide ((a0.size : Int) ≤ 120)) (by kernel_rfl) (fun hc => ?_) (fun hc => ?_)
    · replace hc := of_decide_eq_true hc
      rw [if_pos hc] at h
      have hc3 := hc
      clear hc
      refine WL.pure 4 5 [6, 7] (L' := [(6, .bool true), (7, .string a0)]) (by kernel_rfl) (by decide) ?_
      rw [Option.bind_eq_some_iff] at h
      obtain ⟨t4, ht5, h⟩ := h
      refine WL.op (op := .call { callee := (.value (.func 91)), args := #[(.tmp 7)], argTypes := #[9] }) (ty := 4) (d := some 8) (g := some (3, true)) (by kernel_rfl) (by kernel_rfl) (by kernel_rfl) (Does.call (f := 91) (args := [.string a0]) (by kernel_rfl) (fun W hI => (utf8_ValidString_calls HT a0  t4 ht5 hI))) ?_
      rintro _ _ _ ⟨rfl, rfl, rfl⟩
      refine WL.rest 6 [2] (L' := [(2, .bool t4)]) (by kernel_rfl) ?_
      refine QP.pick [2] ?_
      exact QP.meet ⟨_, Option.some.inj h, rfl, rfl, rfl⟩
    · replace hc := of_decide_eq_false hc
      rw [if_neg hc] at h
      have hc3 := hc
      clear hc
      refine WL.rest 4 [2] (L' := [(2, .bool false)]) (by kernel_rfl) ?_
      refine QP.pick [2] ?_
      exact QP.meet ⟨_, Option.some.inj h, rfl, rfl, rfl⟩
  · rintro _ _ _ ⟨s1, rfl, rfl, rfl, rfl⟩
    clear h
    replace h := hk2
    refine WP.ret ?_
    obtain rfl := Option.some.inj h
    exact QP.returned [2] [.bool s1] _ (by kernel_rfl) (by kernel_rfl) (by kernel_rfl) (fun W hI => ⟨_, _, _, rfl, ⟨rfl, rfl, rfl⟩, hI⟩)

/-! ### grapevine/grapevineref4.May: function 85 -/
def grapevineref4_May (a0 : T39) : Option Bool := (((grapevineref4_MayKey (⟨a0.f0, a0.f1⟩ : T35)).bind fun t4 => (if t4 = true then ((grapevineref2_May (⟨a0.f2, a0.f3⟩ : T37)).bind fun t9 => (if t9 = true then ((grapevineref1_May a0.f4).bind fun t14 => some t14) else some false)) else some false)).bind fun s2 => some s2)
set_option maxHeartbeats 4000000 in
theorem grapevineref4_May_calls {B : World} {G : GMap} {Γ : List Chunk} {W : World} (HT : Tabs B G) (a0 : T39) (r : Bool) (h : grapevineref4_May a0 = some r) (hI : Inv B G (Γ) W) :
    Calls Tryd.prog 85 [.agg #[.int .i64 a0.f0, .int .i64 a0.f1, .int .i64 a0.f2, .int .i64 a0.f3, .string a0.f4]].toArray W (Ret B (fun v G' Γ' => v = .bool r ∧ G = G' ∧ Γ = Γ')) := by
  refine calls_WP (Γ := Γ) (G := G) (B := B) Tryd.func85 rfl (by kernel_rfl) ?_ hI
  clear hI
  unfold grapevineref4_May at h
  refine WP.seqR ?_
  refine WL.op (op := .box 39 (.tmp 0)) (ty := 0) (d := some 1) (g := none) (by kernel_rfl) (by kernel_rfl) (by kernel_rfl) (Does.new (o := .cells #[.int .i64 a0.f0, .int .i64 a0.f1, .int .i64 a0.f2, .int .i64 a0.f3, .string a0.f4] 39 (0, 0)) (v := fun r => .pointer (some ⟨r, 0, none⟩)) (fun r => by kernel_rfl)) ?_
  rintro _ _ _ ⟨b1, rfl, rfl, rfl⟩
  refine WL.restQ 1 [1] (L' := [(1, .pointer (some ⟨b1, 0, none⟩))]) (by kernel_rfl) ?_
  rw [Option.bind_eq_some_iff] at h
  obtain ⟨os2, h, hk3⟩ := h
  refine WP.cut (fun L' G' Γ' => ∃ s2 : Bool, s2 = os2 ∧ L' = [(2, .bool s2)] ∧ G = G' ∧ Γ = Γ') ?_ ?_
  · clear hk3
    refine WP.region ?_
    refine WL.pure 0 1 [1, 3] (L' := [(1, .pointer (some ⟨b1, 0, none⟩)), (3, .pointer (some ⟨b1, 0, none⟩))]) (by kernel_rfl) (by decide) ?_
    refine WL.tell (op := .load 35 (.tmp 3)) (ty := 35) (d := some 4) (g := none) (by kernel_rfl) (by kernel_rfl) (by kernel_rfl) (Tells.load_box (i := 0) (b := b1) (o := 0) (agg := true) (by rfl) ag35 (by kernel_rfl) (fun h => by cases h) (Nat.le_of_ble_eq_true rfl) (v := .agg #[.int .i64 a0.f0, .int .i64 a0.f1]) (by kernel_rfl)) ?_
    rw [Option.bind_eq_some_iff] at h
    obtain ⟨t4, ht5, h⟩ := h
    refine WL.op (op := .call { callee := (.value (.func 93)), args := #[(.tmp 4)], argTypes := #[35] }) (ty := 4) (d := some 5) (g := none) (by kernel_rfl) (by kernel_rfl) (by kernel_rfl) (Does.call (f := 93) (args := [.agg #[.int .i64 a0.f0, .int .i64 a0.f1]]) (by kernel_rfl) (fun W hI => (grapevineref4_MayKey_calls (⟨a0.f0, a0.f1⟩ : T35)  t4 ht5 hI))) ?_
    rintro _ _ _ ⟨rfl, rfl, rfl⟩
    refine WL.pure 3 4 [1, 6] (L' := [(1, .pointer (some ⟨b1, 0, none⟩)), (6, .bool t4)]) (by kernel_rfl) (by decide) ?_
    refine WL.split 6 (b := t4) (by kernel_rfl) (fun hc => ?_) (fun hc => ?_)
    · replace hc := hc
      rw [if_pos hc] at h
      have hc8 := hc
      clear hc
      refine WL.pure 4 5 [1, 6, 7] (L' := [(1, .pointer (some ⟨b1, 0, none⟩)), (6, .bool true), (7, .pointer (some ⟨b1, 2, none⟩))]) (by kernel_rfl) (by decide) ?_
      refine WL.tell (op := .load 37 (.tmp 7)) (ty := 37) (d := some 8) (g := some (3, true)) (by kernel_rfl) (by kernel_rfl) (by kernel_rfl) (Tells.load_box (i := 0) (b := b1) (o := 2) (agg := true) (by rfl) ag37 (by kernel_rfl) (fun h => by cases h) (Nat.le_of_ble_eq_true rfl) (v := .agg #[.int .i64 a0.f2, .int .i64 a0.f3]) (by kernel_rfl)) ?_
      rw [Option.bind_eq_some_iff] at h
      obtain ⟨t9, ht10, h⟩ := h
      refine WL.op (op := .call { callee := (.value (.func 94)), args := #[(.tmp 8)], argTypes := #[37] }) (ty := 4) (d := some 9) (g := some (3, true)) (by kernel_rfl) (by kernel_rfl) (by kernel_rfl) (Does.call (f := 94) (args := [.agg #[.int .i64 a0.f2, .int .i64 a0.f3]]) (by kernel_rfl) (fun W hI => (grapevineref2_May_calls (⟨a0.f2, a0.f3⟩ : T37)  t9 ht10 hI))) ?_
      rintro _ _ _ ⟨rfl, rfl, rfl⟩
      refine WL.pure 7 9 [1, 11] (L' := [(1, .pointer (some ⟨b1, 0, none⟩)), (11, .bool t9)]) (by kernel_rfl) (by decide) ?_
      refine WL.split 11 (b := t9) (by kernel_rfl) (fun hc => ?_) (fun hc => ?_)
      · replace hc := hc
        rw [if_pos hc] at h
        have hc13 := hc
        clear hc
        refine WL.pure 9 10 [11, 12] (L' := [(11, .bool true), (12, .pointer (some ⟨b1, 4, none⟩))]) (by kernel_rfl) (by decide) ?_
        refine WL.tell (op := .load 9 (.tmp 12)) (ty := 9) (d := some 13) (g := some (8, true)) (by kernel_rfl) (by kernel_rfl) (by kernel_rfl) (Tells.load_box (i := 0) (b := b1) (o := 4) (agg := false) (by rfl) ag9 (by kernel_rfl) (fun _ => rfl) (Nat.le_of_ble_eq_true rfl) (v := .string a0.f4) (by kernel_rfl)) ?_
        rw [Option.bind_eq_some_iff] at h
        obtain ⟨t14, ht15, h⟩ := h
        refine WL.op (op := .call { callee := (.value (.func 95)), args := #[(.tmp 13)], argTypes := #[9] }) (ty := 4) (d := some 14) (g := some (8, true)) (by kernel_rfl) (by kernel_rfl) (by kernel_rfl) (Does.call (f := 95) (args := [.string a0.f4]) (by kernel_rfl) (fun W hI => (grapevineref1_May_calls HT a0.f4  t14 ht15 hI))) ?_
        rintro _ _ _ ⟨rfl, rfl, rfl⟩
        refine WL.rest 12 [2] (L' := [(2, .bool t14)]) (by kernel_rfl) ?_
        refine QP.dropAt 0 ?_
        refine QP.pick [2] ?_
        exact QP.meet ⟨_, Option.some.inj h, rfl, rfl, rfl⟩
      · replace hc := (Bool.eq_false_iff.1 hc)
        rw [if_neg hc] at h
        have hc13 := hc
        clear hc
        refine WL.rest 9 [2] (L' := [(2, .bool false)]) (by kernel_rfl) ?_
        refine QP.dropAt 0 ?_
        refine QP.pick [2] ?_
        exact QP.meet ⟨_, Option.some.inj h, rfl, rfl, rfl⟩
    · replace hc := (Bool.eq_false_iff.1 hc)
      rw [if_neg hc] at h
      have hc8 := hc
      clear hc
      refine WL.rest 4 [2] (L' := [(2, .bool false)]) (by kernel_rfl) ?_
      refine QP.dropAt 0 ?_
      refine QP.pick [2] ?_
      exact QP.meet ⟨_, Option.some.inj h, rfl, rfl, rfl⟩
  · rintro _ _ _ ⟨s2, rfl, rfl, rfl, rfl⟩
    clear h
    replace h := hk3
    refine WP.ret ?_
    obtain rfl := Option.some.inj h
    exact QP.returned [2] [.bool s2] _ (by kernel_rfl) (by kernel_rfl) (by kernel_rfl) (fun W hI => ⟨_, _, _, rfl, ⟨rfl, rfl, rfl⟩, hI⟩)
end Go.Proofs.YtfocilpnbiciaaaDoor.Gf
