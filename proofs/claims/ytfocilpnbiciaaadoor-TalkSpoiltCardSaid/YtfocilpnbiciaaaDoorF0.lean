/- Walks of Go functions: what each tells, as a plain Lean function, and that the Go code comes to it. Written by gg.py of this repo. -/
import Derived.Test.YtfocilpnbiciaaaDoorT
namespace Go.Proofs.YtfocilpnbiciaaaDoor.Gf
open Go Go.Gg
set_option maxRecDepth 100000
set_option linter.unusedVariables false
set_option linter.unusedSimpArgs false

/-! ### grapevine/vector.May: function 43 -/
def vector_May_l0 (l0 : List Int) : Nat → Int → Option (Sum Bool Unit)
  | 0, _ => none
  | k + 1, y8 => (if y8 < (l0.length : Int) then (if 0 ≤ y8 ∧ y8 < (l0.length : Int) then ((if (l0.getD y8.toNat 0) < 0 then some true else some (decide ((l0.getD y8.toNat 0) > 1023))).bind fun s13 => (if s13 = true then some (Sum.inl false) else vector_May_l0 l0 k (IntKind.i64.wrap (y8 + 1)))) else none) else some (Sum.inr ()))
def vector_May (k : Nat) (l0 : List Int) (a1 : Int) : Option Bool := ((if a1 < 1 then some true else (if a1 > 8 then some true else some ((l0.length : Int) != a1))).bind fun s1 => (if s1 = true then some false else ((vector_May_l0 l0 k 0).bind fun os6 => match os6 with | Sum.inl r => some r | Sum.inr s6 => some true)))
set_option maxHeartbeats 4000000 in
theorem vector_May_calls {B : World} {G : GMap} {Γ : List Chunk} {W : World} (k : Nat) (l0 : List Int) (a1 : Int) (Al0 : Option Addr) (cl0 : Nat) (Hl0 : Rd (kInt .i64) G Al0 cl0 l0) (r : Bool) (h : vector_May k l0 a1 = some r) (hI : Inv B G (Γ) W) :
    Calls Tryd.prog 43 [.slice Al0 l0.length cl0, .int .i64 a1].toArray W (Ret B (fun v G' Γ' => v = .bool r ∧ G = G' ∧ Γ = Γ')) := by
  refine calls_WP (Γ := Γ) (G := G) (B := B) Tryd.func43 rfl (by kernel_rfl) ?_ hI
  clear hI
  unfold vector_May at h
  refine WP.seqP [0, 1] (L' := [(0, .slice Al0 l0.length cl0), (1, .int .i64 a1)]) (by kernel_rfl) ?_
  refine WP.seq ?_
  rw [Option.bind_eq_some_iff] at h
  obtain ⟨os1, h, hk2⟩ := h
  refine WP.cut (fun L' G' Γ' => ∃ s1 : Bool, s1 = os1 ∧ L' = [(0, .slice Al0 l0.length cl0), (18, .bool s1)] ∧ G = G' ∧ Γ = Γ') ?_ ?_
  · clear hk2
    refine WP.region ?_
    refine WL.pure 0 3 [0, 1, 9] (L' := [(0, .slice Al0 l0.length cl0), (1, .int .i64 a1), (9, .bool (decide (a1 < 1)))]) (by kernel_rfl) (by decide) ?_
    refine WL.split 9 (b := decide (a1 < 1)) (by kernel_rfl) (fun hc => ?_) (fun hc => ?_)
    · replace hc := of_decide_eq_true hc
      rw [if_pos hc] at h
      have hc3 := hc
      clear hc
      refine WL.rest 3 [0, 18] (L' := [(0, .slice Al0 l0.length cl0), (18, .bool true)]) (by kernel_rfl) ?_
      refine QP.pick [0, 18] ?_
      exact QP.meet ⟨_, Option.some.inj h, rfl, rfl, rfl⟩
    · replace hc := of_decide_eq_false hc
      rw [if_neg hc] at h
      have hc3 := hc
      clear hc
      refine WL.pure 3 7 [0, 1, 13] (L' := [(0, .slice Al0 l0.length cl0), (1, .int .i64 a1), (13, .bool (decide (a1 > 8)))]) (by kernel_rfl) (by decide) ?_
      refine WL.split 13 (b := decide (a1 > 8)) (by kernel_rfl) (fun hc => ?_) (fun hc => ?_)
      · replace hc := of_decide_eq_true hc
        rw [if_pos hc] at h
        have hc4 := hc
        clear hc
        refine WL.rest 7 [0, 18] (L' := [(0, .slice Al0 l0.length cl0), (18, .bool true)]) (by kernel_rfl) ?_
        refine QP.pick [0, 18] ?_
        exact QP.meet ⟨_, Option.some.inj h, rfl, rfl, rfl⟩
      · replace hc := of_decide_eq_false hc
        rw [if_neg hc] at h
        have hc4 := hc
        clear hc
        refine WL.rest 7 [0, 18] (L' := [(0, .slice Al0 l0.length cl0), (18, .bool ((l0.length : Int) != a1))]) (by kernel_rfl) ?_
        refine QP.pick [0, 18] ?_
        exact QP.meet ⟨_, Option.some.inj h, rfl, rfl, rfl⟩
  · rintro _ _ _ ⟨s1, rfl, rfl, rfl, rfl⟩
    clear h
    replace h := hk2
    refine WP.cond (b := s1) (by kernel_rfl) (fun hc => ?_) (fun hc => ?_)
    · replace hc := hc
      rw [if_pos hc] at h
      have hc5 := hc
      clear hc
      refine WP.seqP [4] (L' := [(4, .bool false)]) (by kernel_rfl) ?_
      refine WP.ret ?_
      refine QP.thenR ?_
      obtain rfl := Option.some.inj h
      exact QP.returned [4] [.bool false] _ (by kernel_rfl) (by kernel_rfl) (by kernel_rfl) (fun W hI => ⟨_, _, _, rfl, ⟨rfl, rfl, rfl⟩, hI⟩)
    · replace hc := (Bool.eq_false_iff.1 hc)
      rw [if_neg hc] at h
      have hc5 := hc
      clear hc
      refine WP.skip ?_
      refine QP.next ?_
      refine WP.pick [0] ?_
      refine WP.seq ?_
      refine WP.seqP [19, 20, 21] (L' := [(19, .slice Al0 l0.length cl0), (20, .int .i64 (l0.length : Int)), (21, .int .i64 0)]) (by kernel_rfl) ?_
      rw [Option.bind_eq_some_iff] at h
      obtain ⟨os6, h, hk7⟩ := h
      refine WP.cutQ (fun L' G' Γ' => ∃ s6 : Unit, Sum.inr s6 = os6 ∧ L' = [] ∧ G = G' ∧ Γ = Γ') ?_ ?_
      · skip
        refine WP.block ?_
        refine WP.pick [19, 20, 21] ?_
        refine WP.loopF (fun kn9 L' G' Γ' => ∃ (y8 : Int), vector_May_l0 l0 kn9 y8 = some os6 ∧ L' = [(19, .slice Al0 l0.length cl0), (20, .int .i64 (l0.length : Int)), (21, .int .i64 y8)] ∧ G = G' ∧ Γ = Γ') ?_ k ⟨0, h, rfl, rfl, rfl⟩
        clear h
        rintro kn10 _ _ _ ⟨y8, h, rfl, rfl, rfl⟩
        cases kn10 with
        | zero => exact absurd h (by simp [vector_May_l0])
        | succ kn10 =>
          simp only [vector_May_l0] at h
          refine WP.seqP [19, 20, 21, 22] (L' := [(19, .slice Al0 l0.length cl0), (20, .int .i64 (l0.length : Int)), (21, .int .i64 y8), (22, .bool (decide (y8 < (l0.length : Int))))]) (by kernel_rfl) ?_
          refine WP.seq ?_
          refine WP.cond (b := decide (y8 < (l0.length : Int))) (by kernel_rfl) (fun hc => ?_) (fun hc => ?_)
          · replace hc := of_decide_eq_true hc
            rw [if_pos hc] at h
            have hc11 := hc
            clear hc
            refine WP.skip ?_
            refine QP.next ?_
            refine WP.pick [19, 20, 21] ?_
            refine WP.seq ?_
            refine WP.block ?_
            refine WP.seqR ?_
            by_cases hb12 : 0 ≤ y8 ∧ y8 < (l0.length : Int)
            case neg => rw [if_neg hb12] at h; cases h
            rw [if_pos hb12] at h
            refine WL.tell (op := .indexAddr 32 (.tmp 19) (.tmp 21)) (ty := 0) (d := some 23) (g := none) (by kernel_rfl) (by kernel_rfl) (by kernel_rfl) (Tells.indexAddr (A := Al0) (n := l0.length) (c := cl0) (k := .i64) (j := y8) (by kernel_rfl) (by kernel_rfl) (Hl0.isSome hb12.1 hb12.2) hb12.1 hb12.2 sl32) ?_
            refine WL.tellE (op := .load 3 (.tmp 23)) (ty := 3) (d := some 24) (g := none) (by kernel_rfl) (by kernel_rfl) (by kernel_rfl) (Hl0.load (agg := false) hb12.1 hb12.2 0 ag3 (fun _ => rfl) (by kernel_rfl)) ?_
            rintro _ rfl
            refine WL.restQ 2 [6, 19, 20, 21] (L' := [(6, .int .i64 (l0.getD y8.toNat 0)), (19, .slice Al0 l0.length cl0), (20, .int .i64 (l0.length : Int)), (21, .int .i64 y8)]) (by kernel_rfl) ?_
            rw [Option.bind_eq_some_iff] at h
            obtain ⟨os13, h, hk14⟩ := h
            refine WP.cut (fun L' G' Γ' => ∃ s13 : Bool, s13 = os13 ∧ L' = [(19, .slice Al0 l0.length cl0), (20, .int .i64 (l0.length : Int)), (21, .int .i64 y8), (30, .bool s13)] ∧ G = G' ∧ Γ = Γ') ?_ ?_
            · clear hk14
              refine WP.region ?_
              refine WL.pure 0 3 [6, 19, 20, 21, 27] (L' := [(6, .int .i64 (l0.getD y8.toNat 0)), (19, .slice Al0 l0.length cl0), (20, .int .i64 (l0.length : Int)), (21, .int .i64 y8), (27, .bool (decide ((l0.getD y8.toNat 0) < 0)))]) (by kernel_rfl) (by decide) ?_
              refine WL.split 27 (b := decide ((l0.getD y8.toNat 0) < 0)) (by kernel_rfl) (fun hc => ?_) (fun hc => ?_)
              · replace hc := of_decide_eq_true hc
                rw [if_pos hc] at h
                have hc15 := hc
                clear hc
                refine WL.rest 3 [19, 20, 21, 30] (L' := [(19, .slice Al0 l0.length cl0), (20, .int .i64 (l0.length : Int)), (21, .int .i64 y8), (30, .bool true)]) (by kernel_rfl) ?_
                refine QP.pick [19, 20, 21, 30] ?_
                exact QP.meet ⟨_, Option.some.inj h, rfl, rfl, rfl⟩
              · replace hc := of_decide_eq_false hc
                rw [if_neg hc] at h
                have hc15 := hc
                clear hc
                refine WL.rest 3 [19, 20, 21, 30] (L' := [(19, .slice Al0 l0.length cl0), (20, .int .i64 (l0.length : Int)), (21, .int .i64 y8), (30, .bool (decide ((l0.getD y8.toNat 0) > 1023)))]) (by kernel_rfl) ?_
                refine QP.pick [19, 20, 21, 30] ?_
                exact QP.meet ⟨_, Option.some.inj h, rfl, rfl, rfl⟩
            · rintro _ _ _ ⟨s13, rfl, rfl, rfl, rfl⟩
              clear h
              replace h := hk14
              refine WP.cond (b := s13) (by kernel_rfl) (fun hc => ?_) (fun hc => ?_)
              · replace hc := hc
                rw [if_pos hc] at h
                have hc16 := hc
                clear hc
                refine WP.seqP [4] (L' := [(4, .bool false)]) (by kernel_rfl) ?_
                refine WP.ret ?_
                refine QP.blockR ?_
                refine QP.thenR ?_
                refine QP.thenR ?_
                refine QP.blockR ?_
                refine QP.thenR ?_
                refine QP.thenR ?_
                obtain rfl := Option.some.inj h
                obtain rfl := Option.some.inj (show some _ = some _ from hk7)
                exact QP.returned [4] [.bool false] _ (by kernel_rfl) (by kernel_rfl) (by kernel_rfl) (fun W hI => ⟨_, _, _, rfl, ⟨rfl, rfl, rfl⟩, hI⟩)
              · replace hc := (Bool.eq_false_iff.1 hc)
                rw [if_neg hc] at h
                have hc16 := hc
                clear hc
                refine WP.skip ?_
                refine QP.blockN ?_
                refine QP.next ?_
                refine WP.pick [19, 20, 21] ?_
                refine WP.regionP [19, 20, 21] (L' := [(19, .slice Al0 l0.length cl0), (20, .int .i64 (l0.length : Int)), (21, .int .i64 (IntKind.i64.wrap (y8 + 1)))]) (by kernel_rfl) ?_
                refine QP.pick [19, 20, 21] ?_
                exact QP.meet ⟨kn10, Nat.lt_succ_self _, (IntKind.i64.wrap (y8 + 1)), h, rfl, rfl, rfl⟩
          · replace hc := of_decide_eq_false hc
            rw [if_neg hc] at h
            have hc11 := hc
            clear hc
            refine WP.exit ?_
            refine QP.thenE ?_
            refine QP.thenE ?_
            refine QP.blockE ?_
            refine QP.pick [] ?_
            exact QP.meet ⟨_, Option.some.inj h, rfl, rfl, rfl⟩
      · rintro _ _ _ ⟨s6, rfl, rfl, rfl, rfl⟩
        clear h
        replace h := hk7
        refine QP.next ?_
        refine WP.pick [] ?_
        refine WP.seqP [4] (L' := [(4, .bool true)]) (by kernel_rfl) ?_
        refine WP.ret ?_
        obtain rfl := Option.some.inj h
        exact QP.returned [4] [.bool true] _ (by kernel_rfl) (by kernel_rfl) (by kernel_rfl) (fun W hI => ⟨_, _, _, rfl, ⟨rfl, rfl, rfl⟩, hI⟩)

/-! ### grapevine/vector.Below: function 44 -/
def vector_Below_l0 (l0 : List Int) (l1 : List Int) : Nat → Int → Option (Sum Bool Unit)
  | 0, _ => none
  | k + 1, y4 => (if y4 < (l0.length : Int) then (if 0 ≤ y4 ∧ y4 < (l0.length : Int) then (if 0 ≤ y4 ∧ y4 < (l1.length : Int) then (if (l0.getD y4.toNat 0) > (l1.getD y4.toNat 0) then some (Sum.inl false) else vector_Below_l0 l0 l1 k (IntKind.i64.wrap (y4 + 1))) else none) else none) else some (Sum.inr ()))
def vector_Below (k : Nat) (l0 : List Int) (l1 : List Int) : Option Bool := (if ¬ (l0.length : Int) = (l1.length : Int) then some false else ((vector_Below_l0 l0 l1 k 0).bind fun os2 => match os2 with | Sum.inl r => some r | Sum.inr s2 => some true))
set_option maxHeartbeats 4000000 in
theorem vector_Below_calls {B : World} {G : GMap} {Γ : List Chunk} {W : World} (k : Nat) (l0 : List Int) (l1 : List Int) (Al0 : Option Addr) (cl0 : Nat) (Hl0 : Rd (kInt .i64) G Al0 cl0 l0) (Al1 : Option Addr) (cl1 : Nat) (Hl1 : Rd (kInt .i64) G Al1 cl1 l1) (r : Bool) (h : vector_Below k l0 l1 = some r) (hI : Inv B G (Γ) W) :
    Calls Tryd.prog 44 [.slice Al0 l0.length cl0, .slice Al1 l1.length cl1].toArray W (Ret B (fun v G' Γ' => v = .bool r ∧ G = G' ∧ Γ = Γ')) := by
  refine calls_WP (Γ := Γ) (G := G) (B := B) Tryd.func44 rfl (by kernel_rfl) ?_ hI
  clear hI
  unfold vector_Below at h
  refine WP.seqP [0, 1] (L' := [(0, .slice Al0 l0.length cl0), (1, .slice Al1 l1.length cl1)]) (by kernel_rfl) ?_
  refine WP.seq ?_
  refine WP.seqP [0, 1, 10] (L' := [(0, .slice Al0 l0.length cl0), (1, .slice Al1 l1.length cl1), (10, .bool ((l0.length : Int) != (l1.length : Int)))]) (by kernel_rfl) ?_
  refine WP.cond (b := ((l0.length : Int) != (l1.length : Int))) (by kernel_rfl) (fun hc => ?_) (fun hc => ?_)
  · replace hc := (bne_iff_ne.1 hc)
    rw [if_pos hc] at h
    have hc1 := hc
    clear hc
    refine WP.seqP [4] (L' := [(4, .bool false)]) (by kernel_rfl) ?_
    refine WP.ret ?_
    refine QP.thenR ?_
    obtain rfl := Option.some.inj h
    exact QP.returned [4] [.bool false] _ (by kernel_rfl) (by kernel_rfl) (by kernel_rfl) (fun W hI => ⟨_, _, _, rfl, ⟨rfl, rfl, rfl⟩, hI⟩)
  · replace hc := (not_not_intro (bne_eq_false_iff_eq.1 hc))
    rw [if_neg hc] at h
    have hc1 := hc
    clear hc
    refine WP.skip ?_
    refine QP.next ?_
    refine WP.pick [0, 1] ?_
    refine WP.seq ?_
    refine WP.seqP [0, 1, 12, 13] (L' := [(0, .slice Al0 l0.length cl0), (1, .slice Al1 l1.length cl1), (12, .int .i64 (l0.length : Int)), (13, .int .i64 0)]) (by kernel_rfl) ?_
    rw [Option.bind_eq_some_iff] at h
    obtain ⟨os2, h, hk3⟩ := h
    refine WP.cutQ (fun L' G' Γ' => ∃ s2 : Unit, Sum.inr s2 = os2 ∧ L' = [] ∧ G = G' ∧ Γ = Γ') ?_ ?_
    · skip
      refine WP.block ?_
      refine WP.pick [0, 1, 12, 13] ?_
      refine WP.loopF (fun kn5 L' G' Γ' => ∃ (y4 : Int), vector_Below_l0 l0 l1 kn5 y4 = some os2 ∧ L' = [(0, .slice Al0 l0.length cl0), (1, .slice Al1 l1.length cl1), (12, .int .i64 (l0.length : Int)), (13, .int .i64 y4)] ∧ G = G' ∧ Γ = Γ') ?_ k ⟨0, h, rfl, rfl, rfl⟩
      clear h
      rintro kn6 _ _ _ ⟨y4, h, rfl, rfl, rfl⟩
      cases kn6 with
      | zero => exact absurd h (by simp [vector_Below_l0])
      | succ kn6 =>
        simp only [vector_Below_l0] at h
        refine WP.seqP [0, 1, 12, 13, 14] (L' := [(0, .slice Al0 l0.length cl0), (1, .slice Al1 l1.length cl1), (12, .int .i64 (l0.length : Int)), (13, .int .i64 y4), (14, .bool (decide (y4 < (l0.length : Int))))]) (by kernel_rfl) ?_
        refine WP.seq ?_
        refine WP.cond (b := decide (y4 < (l0.length : Int))) (by kernel_rfl) (fun hc => ?_) (fun hc => ?_)
        · replace hc := of_decide_eq_true hc
          rw [if_pos hc] at h
          have hc7 := hc
          clear hc
          refine WP.skip ?_
          refine QP.next ?_
          refine WP.pick [0, 1, 12, 13] ?_
          refine WP.seq ?_
          refine WP.block ?_
          refine WP.seqP [0, 1, 5, 12, 13] (L' := [(0, .slice Al0 l0.length cl0), (1, .slice Al1 l1.length cl1), (5, .int .i64 y4), (12, .int .i64 (l0.length : Int)), (13, .int .i64 y4)]) (by kernel_rfl) ?_
          refine WP.seq ?_
          refine WP.any (N := 9) (S := [⟨some 16, [0], []⟩, ⟨some 17, [5], []⟩, ⟨some 18, [16, 17], [0, 1]⟩, ⟨some 19, [18], [2]⟩, ⟨some 20, [1], []⟩, ⟨some 21, [5], []⟩, ⟨some 22, [20, 21], [4, 5]⟩, ⟨some 23, [22], [6]⟩, ⟨some 24, [19, 23], [3, 7]⟩]) (kw := 9) (G0 := G) (Γ0 := Γ) mo (by kernel_rfl) (fun hS => ?_)
          refine WA.pure [0, 1, 4, 5] [0, 1, 12, 13, 16, 17, 20, 21] (m := 5) (b' := 51) (L' := [(0, .slice Al0 l0.length cl0), (1, .slice Al1 l1.length cl1), (12, .int .i64 (l0.length : Int)), (13, .int .i64 y4), (16, .slice Al0 l0.length cl0), (17, .int .i64 y4), (20, .slice Al1 l1.length cl1), (21, .int .i64 y4)]) (by kernel_rfl) (NoPanic.then (NoPanic.block (NoPanic.then (NoPanic.then (NoPanic.block (NoPanic.then (NoPanic.then (NoPanic.body)))))))) Under.refl hS (by kernel_rfl) ?_
          by_cases hb8 : 0 ≤ y4 ∧ y4 < (l0.length : Int)
          case neg => rw [if_neg hb8] at h; cases h
          rw [if_pos hb8] at h
          refine WA.tellD [] (i := 2) (m := 4) (b' := 55) (by kernel_rfl) (NoPanic.then (NoPanic.block (NoPanic.then (NoPanic.then (NoPanic.block (NoPanic.then (NoPanic.then (NoPanic.body)))))))) Under.refl hS (by kernel_rfl) (op := .indexAddr 32 (.tmp 16) (.tmp 17)) (ty := 0) (d := some 18) (g := none) (by kernel_rfl) (by kernel_rfl) (by kernel_rfl) (Tells.indexAddr (A := Al0) (n := l0.length) (c := cl0) (k := .i64) (j := y4) (by kernel_rfl) (by kernel_rfl) (Hl0.isSome hb8.1 hb8.2) hb8.1 hb8.2 sl32) ?_
          refine WA.tellDE [] (i := 3) (m := 3) (b' := 63) (by kernel_rfl) (NoPanic.then (NoPanic.block (NoPanic.then (NoPanic.then (NoPanic.block (NoPanic.then (NoPanic.then (NoPanic.body)))))))) Under.refl hS (by kernel_rfl) (op := .load 3 (.tmp 18)) (ty := 3) (d := some 19) (g := none) (by kernel_rfl) (by kernel_rfl) (by kernel_rfl) (Hl0.load (agg := false) hb8.1 hb8.2 0 ag3 (fun _ => rfl) (by kernel_rfl)) ?_
          rintro _ rfl
          by_cases hb9 : 0 ≤ y4 ∧ y4 < (l1.length : Int)
          case neg => rw [if_neg hb9] at h; cases h
          rw [if_pos hb9] at h
          refine WA.tellD [] (i := 6) (m := 2) (b' := 127) (by kernel_rfl) (NoPanic.then (NoPanic.block (NoPanic.then (NoPanic.then (NoPanic.block (NoPanic.then (NoPanic.then (NoPanic.body)))))))) Under.refl hS (by kernel_rfl) (op := .indexAddr 32 (.tmp 20) (.tmp 21)) (ty := 0) (d := some 22) (g := none) (by kernel_rfl) (by kernel_rfl) (by kernel_rfl) (Tells.indexAddr (A := Al1) (n := l1.length) (c := cl1) (k := .i64) (j := y4) (by kernel_rfl) (by kernel_rfl) (Hl1.isSome hb9.1 hb9.2) hb9.1 hb9.2 sl32) ?_
          refine WA.tellDE [] (i := 7) (m := 1) (b' := 255) (by kernel_rfl) (NoPanic.then (NoPanic.block (NoPanic.then (NoPanic.then (NoPanic.block (NoPanic.then (NoPanic.then (NoPanic.body)))))))) Under.refl hS (by kernel_rfl) (op := .load 3 (.tmp 22)) (ty := 3) (d := some 23) (g := none) (by kernel_rfl) (by kernel_rfl) (by kernel_rfl) (Hl1.load (agg := false) hb9.1 hb9.2 0 ag3 (fun _ => rfl) (by kernel_rfl)) ?_
          rintro _ rfl
          refine WA.pure [8] [0, 1, 12, 13, 24] (m := 0) (b' := 511) (L' := [(0, .slice Al0 l0.length cl0), (1, .slice Al1 l1.length cl1), (12, .int .i64 (l0.length : Int)), (13, .int .i64 y4), (24, .bool (decide ((l0.getD y4.toNat 0) > (l1.getD y4.toNat 0))))]) (by kernel_rfl) (NoPanic.then (NoPanic.block (NoPanic.then (NoPanic.then (NoPanic.block (NoPanic.then (NoPanic.then (NoPanic.body)))))))) Under.refl hS (by kernel_rfl) ?_
          refine WA.done hS (by kernel_rfl) ?_
          refine QP.pick [0, 1, 12, 13, 24] ?_
          refine QP.next ?_
          refine WP.cond (b := decide ((l0.getD y4.toNat 0) > (l1.getD y4.toNat 0))) (by kernel_rfl) (fun hc => ?_) (fun hc => ?_)
          · replace hc := of_decide_eq_true hc
            rw [if_pos hc] at h
            have hc10 := hc
            clear hc
            refine WP.seqP [4] (L' := [(4, .bool false)]) (by kernel_rfl) ?_
            refine WP.ret ?_
            refine QP.blockR ?_
            refine QP.thenR ?_
            refine QP.thenR ?_
            refine QP.blockR ?_
            refine QP.thenR ?_
            refine QP.thenR ?_
            obtain rfl := Option.some.inj h
            obtain rfl := Option.some.inj (show some _ = some _ from hk3)
            exact QP.returned [4] [.bool false] _ (by kernel_rfl) (by kernel_rfl) (by kernel_rfl) (fun W hI => ⟨_, _, _, rfl, ⟨rfl, rfl, rfl⟩, hI⟩)
          · replace hc := of_decide_eq_false hc
            rw [if_neg hc] at h
            have hc10 := hc
            clear hc
            refine WP.skip ?_
            refine QP.blockN ?_
            refine QP.next ?_
            refine WP.pick [0, 1, 12, 13] ?_
            refine WP.regionP [0, 1, 12, 13] (L' := [(0, .slice Al0 l0.length cl0), (1, .slice Al1 l1.length cl1), (12, .int .i64 (l0.length : Int)), (13, .int .i64 (IntKind.i64.wrap (y4 + 1)))]) (by kernel_rfl) ?_
            refine QP.pick [0, 1, 12, 13] ?_
            exact QP.meet ⟨kn6, Nat.lt_succ_self _, (IntKind.i64.wrap (y4 + 1)), h, rfl, rfl, rfl⟩
        · replace hc := of_decide_eq_false hc
          rw [if_neg hc] at h
          have hc7 := hc
          clear hc
          refine WP.exit ?_
          refine QP.thenE ?_
          refine QP.thenE ?_
          refine QP.blockE ?_
          refine QP.pick [] ?_
          exact QP.meet ⟨_, Option.some.inj h, rfl, rfl, rfl⟩
    · rintro _ _ _ ⟨s2, rfl, rfl, rfl, rfl⟩
      clear h
      replace h := hk3
      refine QP.next ?_
      refine WP.pick [] ?_
      refine WP.seqP [4] (L' := [(4, .bool true)]) (by kernel_rfl) ?_
      refine WP.ret ?_
      obtain rfl := Option.some.inj h
      exact QP.returned [4] [.bool true] _ (by kernel_rfl) (by kernel_rfl) (by kernel_rfl) (fun W hI => ⟨_, _, _, rfl, ⟨rfl, rfl, rfl⟩, hI⟩)

/-! ### grapevine/stamp.wall: function 90 -/
def stamp_wall (a0 : Int) : Option Bool := ((if a0 ≥ 0 then some (decide (a0 ≤ 1099511627776)) else some false).bind fun s1 => some s1)
set_option maxHeartbeats 4000000 in
theorem stamp_wall_calls {B : World} {G : GMap} {Γ : List Chunk} {W : World} (a0 : Int) (r : Bool) (h : stamp_wall a0 = some r) (hI : Inv B G (Γ) W) :
    Calls Tryd.prog 90 [.int .i64 a0].toArray W (Ret B (fun v G' Γ' => v = .bool r ∧ G = G' ∧ Γ = Γ')) := by
  refine calls_WP (Γ := Γ) (G := G) (B := B) Tryd.func90 rfl (by kernel_rfl) ?_ hI
  clear hI
  unfold stamp_wall at h
  refine WP.seqP [0] (L' := [(0, .int .i64 a0)]) (by kernel_rfl) ?_
  rw [Option.bind_eq_some_iff] at h
  obtain ⟨os1, h, hk2⟩ := h
  refine WP.cut (fun L' G' Γ' => ∃ s1 : Bool, s1 = os1 ∧ L' = [(2, .bool s1)] ∧ G = G' ∧ Γ = Γ') ?_ ?_
  · clear hk2
    refine WP.region ?_
    refine WL.pure 0 3 [0, 5] (L' := [(0, .int .i64 a0), (5, .bool (decide (a0 ≥ 0)))]) (by kernel_rfl) (by decide) ?_
    refine WL.split 5 (b := decide (a0 ≥ 0)) (by kernel_rfl) (fun hc => ?_) (fun hc => ?_)
    · replace hc := of_decide_eq_true hc
      rw [if_pos hc] at h
      have hc3 := hc
      clear hc
      refine WL.rest 3 [2] (L' := [(2, .bool (decide (a0 ≤ 1099511627776)))]) (by kernel_rfl) ?_
      refine QP.pick [2] ?_
      exact QP.meet ⟨_, Option.some.inj h, rfl, rfl, rfl⟩
    · replace hc := of_decide_eq_false hc
      rw [if_neg hc] at h
      have hc3 := hc
      clear hc
      refine WL.rest 3 [2] (L' := [(2, .bool false)]) (by kernel_rfl) ?_
      refine QP.pick [2] ?_
      exact QP.meet ⟨_, Option.some.inj h, rfl, rfl, rfl⟩
  · rintro _ _ _ ⟨s1, rfl, rfl, rfl, rfl⟩
    clear h
    replace h := hk2
    refine WP.ret ?_
    obtain rfl := Option.some.inj h
    exact QP.returned [2] [.bool s1] _ (by kernel_rfl) (by kernel_rfl) (by kernel_rfl) (fun W hI => ⟨_, _, _, rfl, ⟨rfl, rfl, rfl⟩, hI⟩)

/-! ### grapevine/stamp.May: function 79 -/
def stamp_May (a0 : T37) : Option Bool := (((stamp_wall a0.f0).bind fun t4 => (if t4 = true then (if a0.f1 ≥ 0 then some (decide (a0.f1 ≤ 65535)) else some false) else some false)).bind fun s2 => some s2)
set_option maxHeartbeats 4000000 in
theorem stamp_May_calls {B : World} {G : GMap} {Γ : List Chunk} {W : World} (a0 : T37) (r : Bool) (h : stamp_May a0 = some r) (hI : Inv B G (Γ) W) :
    Calls Tryd.prog 79 [.agg #[.int .i64 a0.f0, .int .i64 a0.f1]].toArray W (Ret B (fun v G' Γ' => v = .bool r ∧ G = G' ∧ Γ = Γ')) := by
  refine calls_WP (Γ := Γ) (G := G) (B := B) Tryd.func79 rfl (by kernel_rfl) ?_ hI
  clear hI
  unfold stamp_May at h
  refine WP.seqR ?_
  refine WL.op (op := .box 37 (.tmp 0)) (ty := 0) (d := some 1) (g := none) (by kernel_rfl) (by kernel_rfl) (by kernel_rfl) (Does.new (o := .cells #[.int .i64 a0.f0, .int .i64 a0.f1] 37 (0, 0)) (v := fun r => .pointer (some ⟨r, 0, none⟩)) (fun r => by kernel_rfl)) ?_
  rintro _ _ _ ⟨b1, rfl, rfl, rfl⟩
  refine WL.restQ 1 [1] (L' := [(1, .pointer (some ⟨b1, 0, none⟩))]) (by kernel_rfl) ?_
  rw [Option.bind_eq_some_iff] at h
  obtain ⟨os2, h, hk3⟩ := h
  refine WP.cut (fun L' G' Γ' => ∃ s2 : Bool, s2 = os2 ∧ L' = [(2, .bool s2)] ∧ G = G' ∧ Γ = Γ') ?_ ?_
  · clear hk3
    refine WP.region ?_
    refine WL.pure 0 1 [1, 3] (L' := [(1, .pointer (some ⟨b1, 0, none⟩)), (3, .pointer (some ⟨b1, 0, none⟩))]) (by kernel_rfl) (by decide) ?_
    refine WL.tell (op := .load 3 (.tmp 3)) (ty := 3) (d := some 4) (g := none) (by kernel_rfl) (by kernel_rfl) (by kernel_rfl) (Tells.load_box (i := 0) (b := b1) (o := 0) (agg := false) (by rfl) ag3 (by kernel_rfl) (fun _ => rfl) (Nat.le_of_ble_eq_true rfl) (v := .int .i64 a0.f0) (by kernel_rfl)) ?_
    rw [Option.bind_eq_some_iff] at h
    obtain ⟨t4, ht5, h⟩ := h
    refine WL.op (op := .call { callee := (.value (.func 90)), args := #[(.tmp 4)], argTypes := #[3] }) (ty := 4) (d := some 5) (g := none) (by kernel_rfl) (by kernel_rfl) (by kernel_rfl) (Does.call (f := 90) (args := [.int .i64 a0.f0]) (by kernel_rfl) (fun W hI => (stamp_wall_calls a0.f0  t4 ht5 hI))) ?_
    rintro _ _ _ ⟨rfl, rfl, rfl⟩
    refine WL.pure 3 4 [1, 6] (L' := [(1, .pointer (some ⟨b1, 0, none⟩)), (6, .bool t4)]) (by kernel_rfl) (by decide) ?_
    refine WL.split 6 (b := t4) (by kernel_rfl) (fun hc => ?_) (fun hc => ?_)
    · replace hc := hc
      rw [if_pos hc] at h
      have hc8 := hc
      clear hc
      refine WL.pure 4 5 [1, 6, 7] (L' := [(1, .pointer (some ⟨b1, 0, none⟩)), (6, .bool true), (7, .pointer (some ⟨b1, 1, none⟩))]) (by kernel_rfl) (by decide) ?_
      refine WL.tell (op := .load 3 (.tmp 7)) (ty := 3) (d := some 8) (g := some (3, true)) (by kernel_rfl) (by kernel_rfl) (by kernel_rfl) (Tells.load_box (i := 0) (b := b1) (o := 1) (agg := false) (by rfl) ag3 (by kernel_rfl) (fun _ => rfl) (Nat.le_of_ble_eq_true rfl) (v := .int .i64 a0.f1) (by kernel_rfl)) ?_
      refine WL.pure 6 9 [1, 11] (L' := [(1, .pointer (some ⟨b1, 0, none⟩)), (11, .bool (decide (a0.f1 ≥ 0)))]) (by kernel_rfl) (by decide) ?_
      refine WL.split 11 (b := decide (a0.f1 ≥ 0)) (by kernel_rfl) (fun hc => ?_) (fun hc => ?_)
      · replace hc := of_decide_eq_true hc
        rw [if_pos hc] at h
        have hc9 := hc
        clear hc
        refine WL.pure 9 10 [11, 12] (L' := [(11, .bool true), (12, .pointer (some ⟨b1, 1, none⟩))]) (by kernel_rfl) (by decide) ?_
        refine WL.tell (op := .load 3 (.tmp 12)) (ty := 3) (d := some 13) (g := some (8, true)) (by kernel_rfl) (by kernel_rfl) (by kernel_rfl) (Tells.load_box (i := 0) (b := b1) (o := 1) (agg := false) (by rfl) ag3 (by kernel_rfl) (fun _ => rfl) (Nat.le_of_ble_eq_true rfl) (v := .int .i64 a0.f1) (by kernel_rfl)) ?_
        refine WL.rest 11 [2] (L' := [(2, .bool (decide (a0.f1 ≤ 65535)))]) (by kernel_rfl) ?_
        refine QP.dropAt 0 ?_
        refine QP.pick [2] ?_
        exact QP.meet ⟨_, Option.some.inj h, rfl, rfl, rfl⟩
      · replace hc := of_decide_eq_false hc
        rw [if_neg hc] at h
        have hc9 := hc
        clear hc
        refine WL.rest 9 [2] (L' := [(2, .bool false)]) (by kernel_rfl) ?_
        refine QP.dropAt 0 ?_
        refine QP.pick [2] ?_
        exact QP.meet ⟨_, Option.some.inj h, rfl, rfl, rfl⟩
    · replace hc := (Bool.eq_false_iff.1 hc)
      rw [if_neg hc] at h
      have hc8 := hc
      clear hc
      refine WL.rest 4 [2] (L' := [(2, .bool false)]) (by kernel_rfl) ?_
      refine QP.dropAt 0 ?_
      refine QP.pick [2] ?_
      exact QP.meet ⟨_, Option.some.inj h, rfl, rfl, rfl⟩
  · rintro _ _ _ ⟨s2, rfl, rfl, rfl, rfl⟩
    clear h
    replace h := hk3
    refine WP.ret ?_
    obtain rfl := Option.some.inj h
    exact QP.returned [2] [.bool s2] _ (by kernel_rfl) (by kernel_rfl) (by kernel_rfl) (fun W hI => ⟨_, _, _, rfl, ⟨rfl, rfl, rfl⟩, hI⟩)

/-! ### unicode/utf8.ValidString: function 91 -/
def utf8_ValidString (a0 : ByteArray) : Option Bool := (if a0.size ≤ 9223372036854775807 then some (Lib.validD a0.data.toList) else none)
set_option maxHeartbeats 4000000 in
theorem utf8_ValidString_calls {B : World} {G : GMap} {Γ : List Chunk} {W : World} (HT : Tabs B G) (a0 : ByteArray) (r : Bool) (h : utf8_ValidString a0 = some r) (hI : Inv B G (Γ) W) :
    Calls Tryd.prog 91 [.string a0].toArray W (Ret B (fun v G' Γ' => v = .bool r ∧ G = G' ∧ Γ = Γ')) := by
  unfold utf8_ValidString at h
  by_cases hs : a0.size ≤ 9223372036854775807
  case neg => rw [if_neg hs] at h; cases h
  rw [if_pos hs] at h
  obtain rfl := Option.some.inj h
  exact Calls.kept (Any.utf8_ValidString Tryd.laysValid a0 W hs (HT _ _ hI)) hI

/-! ### grapevine/tokens.May: function 80 -/
def tokens_May (a0 : ByteArray) : Option Bool := ((if (a0.size : Int) ≤ 120 then ((utf8_ValidString a0).bind fun t4 => some t4) else some false).bind fun s1 => some s1)
set_option maxHeartbeats 4000000 in
theorem tokens_May_calls {B : World} {G : GMap} {Γ : List Chunk} {W : World} (HT : Tabs B G) (a0 : ByteArray) (r : Bool) (h : tokens_May a0 = some r) (hI : Inv B G (Γ) W) :
    Calls Tryd.prog 80 [.string a0].toArray W (Ret B (fun v G' Γ' => v = .bool r ∧ G = G' ∧ Γ = Γ')) := by
  refine calls_WP (Γ := Γ) (G := G) (B := B) Tryd.func80 rfl (by kernel_rfl) ?_ hI
  clear hI
  unfold tokens_May at h
  refine WP.seqP [0] (L' := [(0, .string a0)]) (by kernel_rfl) ?_
  rw [Option.bind_eq_some_iff] at h
  obtain ⟨os1, h, hk2⟩ := h
  refine WP.cut (fun L' G' Γ' => ∃ s1 : Bool, s1 = os1 ∧ L' = [(2, .bool s1)] ∧ G = G' ∧ Γ = Γ') ?_ ?_
  · clear hk2
    refine WP.region ?_
    refine WL.pure 0 4 [0, 6] (L' := [(0, .string a0), (6, .bool (decide ((a0.size : Int) ≤ 120)))]) (by kernel_rfl) (by decide) ?_
    refine WL.split 6 (b := decide ((a0.size : Int) ≤ 120)) (by kernel_rfl) (fun hc => ?_) (fun hc => ?_)
    · replace hc := of_decide_eq_true hc
      rw [if_pos hc] at h
      have hc3 := hc
      clear hc
      refine WL.pure 4 5 [6, 7] (L' := [(6, .bool true), (7, .string a0)]) (by kernel_rfl) (by decide) ?_
      rw [Option.bind_eq_some_iff] at h
      obtain ⟨t4, ht5, h⟩ := h
      refine WL.op (op := .call { callee := (.value (.func 91)), args := #[(.tmp 7)], argTypes := #[9] }) (ty := 4) (d := some 8) (g := some (3, true)) (by kernel_rfl) (by kernel_rfl) (by kernel_rfl) (Does.call (f := 91) (args := [.string a0]) (by kernel_rfl) (fun W hI => (utf8_ValidString_calls HT a0  t4 ht5 hI))) ?_
      rintro _ _ _ ⟨rfl, rfl, rfl⟩
      refine WL.rest 6 [2] (L' := [(2, .bool t4)]) (by kernel_rfl) ?_
      refine QP.pick [2] ?_
      exact QP.meet ⟨_, Option.some.inj h, rfl, rfl, rfl⟩
    · replace hc := of_decide_eq_false hc
      rw [if_neg hc] at h
      have hc3 := hc
      clear hc
      refine WL.rest 4 [2] (L' := [(2, .bool false)]) (by kernel_rfl) ?_
      refine QP.pick [2] ?_
      exact QP.meet ⟨_, Option.some.inj h, rfl, rfl, rfl⟩
  · rintro _ _ _ ⟨s1, rfl, rfl, rfl, rfl⟩
    clear h
    replace h := hk2
    refine WP.ret ?_
    obtain rfl := Option.some.inj h
    exact QP.returned [2] [.bool s1] _ (by kernel_rfl) (by kernel_rfl) (by kernel_rfl) (fun W hI => ⟨_, _, _, rfl, ⟨rfl, rfl, rfl⟩, hI⟩)

/-! ### grapevine/record.May: function 45 -/
def record_May (a0 : T39) : Option Bool := ((if a0.f0 ≥ 0 then (if a0.f0 < 8 then (if a0.f1 ≥ 1 then (if a0.f1 ≤ 1023 then ((stamp_May (⟨a0.f2, a0.f3⟩ : T37)).bind fun t8 => (if t8 = true then ((tokens_May a0.f4).bind fun t13 => some t13) else some false)) else some false) else some false) else some false) else some false).bind fun s2 => some s2)
set_option maxHeartbeats 4000000 in
theorem record_May_calls {B : World} {G : GMap} {Γ : List Chunk} {W : World} (HT : Tabs B G) (a0 : T39) (r : Bool) (h : record_May a0 = some r) (hI : Inv B G (Γ) W) :
    Calls Tryd.prog 45 [.agg #[.int .i64 a0.f0, .int .i64 a0.f1, .int .i64 a0.f2, .int .i64 a0.f3, .string a0.f4]].toArray W (Ret B (fun v G' Γ' => v = .bool r ∧ G = G' ∧ Γ = Γ')) := by
  refine calls_WP (Γ := Γ) (G := G) (B := B) Tryd.func45 rfl (by kernel_rfl) ?_ hI
  clear hI
  unfold record_May at h
  refine WP.seqR ?_
  refine WL.op (op := .box 39 (.tmp 0)) (ty := 0) (d := some 1) (g := none) (by kernel_rfl) (by kernel_rfl) (by kernel_rfl) (Does.new (o := .cells #[.int .i64 a0.f0, .int .i64 a0.f1, .int .i64 a0.f2, .int .i64 a0.f3, .string a0.f4] 39 (0, 0)) (v := fun r => .pointer (some ⟨r, 0, none⟩)) (fun r => by kernel_rfl)) ?_
  rintro _ _ _ ⟨b1, rfl, rfl, rfl⟩
  refine WL.restQ 1 [1] (L' := [(1, .pointer (some ⟨b1, 0, none⟩))]) (by kernel_rfl) ?_
  rw [Option.bind_eq_some_iff] at h
  obtain ⟨os2, h, hk3⟩ := h
  refine WP.cut (fun L' G' Γ' => ∃ s2 : Bool, s2 = os2 ∧ L' = [(2, .bool s2)] ∧ G = G' ∧ Γ = Γ') ?_ ?_
  · clear hk3
    refine WP.region ?_
    refine WL.pure 0 2 [1, 4] (L' := [(1, .pointer (some ⟨b1, 0, none⟩)), (4, .pointer (some ⟨b1, 0, none⟩))]) (by kernel_rfl) (by decide) ?_
    refine WL.tell (op := .load 3 (.tmp 4)) (ty := 3) (d := some 5) (g := none) (by kernel_rfl) (by kernel_rfl) (by kernel_rfl) (Tells.load_box (i := 0) (b := b1) (o := 0) (agg := false) (by rfl) ag3 (by kernel_rfl) (fun _ => rfl) (Nat.le_of_ble_eq_true rfl) (v := .int .i64 a0.f0) (by kernel_rfl)) ?_
    refine WL.pure 3 5 [1, 7] (L' := [(1, .pointer (some ⟨b1, 0, none⟩)), (7, .bool (decide (a0.f0 ≥ 0)))]) (by kernel_rfl) (by decide) ?_
    refine WL.split 7 (b := decide (a0.f0 ≥ 0)) (by kernel_rfl) (fun hc => ?_) (fun hc => ?_)
    · replace hc := of_decide_eq_true hc
      rw [if_pos hc] at h
      have hc4 := hc
      clear hc
      refine WL.pure 5 7 [1, 7, 9] (L' := [(1, .pointer (some ⟨b1, 0, none⟩)), (7, .bool true), (9, .pointer (some ⟨b1, 0, none⟩))]) (by kernel_rfl) (by decide) ?_
      refine WL.tell (op := .load 3 (.tmp 9)) (ty := 3) (d := some 10) (g := some (4, true)) (by kernel_rfl) (by kernel_rfl) (by kernel_rfl) (Tells.load_box (i := 0) (b := b1) (o := 0) (agg := false) (by rfl) ag3 (by kernel_rfl) (fun _ => rfl) (Nat.le_of_ble_eq_true rfl) (v := .int .i64 a0.f0) (by kernel_rfl)) ?_
      refine WL.pure 8 11 [1, 13] (L' := [(1, .pointer (some ⟨b1, 0, none⟩)), (13, .bool (decide (a0.f0 < 8)))]) (by kernel_rfl) (by decide) ?_
      refine WL.split 13 (b := decide (a0.f0 < 8)) (by kernel_rfl) (fun hc => ?_) (fun hc => ?_)
      · replace hc := of_decide_eq_true hc
        rw [if_pos hc] at h
        have hc5 := hc
        clear hc
        refine WL.pure 11 13 [1, 13, 15] (L' := [(1, .pointer (some ⟨b1, 0, none⟩)), (13, .bool true), (15, .pointer (some ⟨b1, 1, none⟩))]) (by kernel_rfl) (by decide) ?_
        refine WL.tell (op := .load 3 (.tmp 15)) (ty := 3) (d := some 16) (g := some (10, true)) (by kernel_rfl) (by kernel_rfl) (by kernel_rfl) (Tells.load_box (i := 0) (b := b1) (o := 1) (agg := false) (by rfl) ag3 (by kernel_rfl) (fun _ => rfl) (Nat.le_of_ble_eq_true rfl) (v := .int .i64 a0.f1) (by kernel_rfl)) ?_
        refine WL.pure 14 17 [1, 19] (L' := [(1, .pointer (some ⟨b1, 0, none⟩)), (19, .bool (decide (a0.f1 ≥ 1)))]) (by kernel_rfl) (by decide) ?_
        refine WL.split 19 (b := decide (a0.f1 ≥ 1)) (by kernel_rfl) (fun hc => ?_) (fun hc => ?_)
        · replace hc := of_decide_eq_true hc
          rw [if_pos hc] at h
          have hc6 := hc
          clear hc
          refine WL.pure 17 19 [1, 19, 21] (L' := [(1, .pointer (some ⟨b1, 0, none⟩)), (19, .bool true), (21, .pointer (some ⟨b1, 1, none⟩))]) (by kernel_rfl) (by decide) ?_
          refine WL.tell (op := .load 3 (.tmp 21)) (ty := 3) (d := some 22) (g := some (16, true)) (by kernel_rfl) (by kernel_rfl) (by kernel_rfl) (Tells.load_box (i := 0) (b := b1) (o := 1) (agg := false) (by rfl) ag3 (by kernel_rfl) (fun _ => rfl) (Nat.le_of_ble_eq_true rfl) (v := .int .i64 a0.f1) (by kernel_rfl)) ?_
          refine WL.pure 20 23 [1, 25] (L' := [(1, .pointer (some ⟨b1, 0, none⟩)), (25, .bool (decide (a0.f1 ≤ 1023)))]) (by kernel_rfl) (by decide) ?_
          refine WL.split 25 (b := decide (a0.f1 ≤ 1023)) (by kernel_rfl) (fun hc => ?_) (fun hc => ?_)
          · replace hc := of_decide_eq_true hc
            rw [if_pos hc] at h
            have hc7 := hc
            clear hc
            refine WL.pure 23 24 [1, 25, 26] (L' := [(1, .pointer (some ⟨b1, 0, none⟩)), (25, .bool true), (26, .pointer (some ⟨b1, 2, none⟩))]) (by kernel_rfl) (by decide) ?_
            refine WL.tell (op := .load 37 (.tmp 26)) (ty := 37) (d := some 27) (g := some (22, true)) (by kernel_rfl) (by kernel_rfl) (by kernel_rfl) (Tells.load_box (i := 0) (b := b1) (o := 2) (agg := true) (by rfl) ag37 (by kernel_rfl) (fun h => by cases h) (Nat.le_of_ble_eq_true rfl) (v := .agg #[.int .i64 a0.f2, .int .i64 a0.f3]) (by kernel_rfl)) ?_
            rw [Option.bind_eq_some_iff] at h
            obtain ⟨t8, ht9, h⟩ := h
            refine WL.op (op := .call { callee := (.value (.func 79)), args := #[(.tmp 27)], argTypes := #[37] }) (ty := 4) (d := some 28) (g := some (22, true)) (by kernel_rfl) (by kernel_rfl) (by kernel_rfl) (Does.call (f := 79) (args := [.agg #[.int .i64 a0.f2, .int .i64 a0.f3]]) (by kernel_rfl) (fun W hI => (stamp_May_calls (⟨a0.f2, a0.f3⟩ : T37)  t8 ht9 hI))) ?_
            rintro _ _ _ ⟨rfl, rfl, rfl⟩
            refine WL.pure 26 28 [1, 30] (L' := [(1, .pointer (some ⟨b1, 0, none⟩)), (30, .bool t8)]) (by kernel_rfl) (by decide) ?_
            refine WL.split 30 (b := t8) (by kernel_rfl) (fun hc => ?_) (fun hc => ?_)
            · replace hc := hc
              rw [if_pos hc] at h
              have hc12 := hc
              clear hc
              refine WL.pure 28 29 [30, 31] (L' := [(30, .bool true), (31, .pointer (some ⟨b1, 4, none⟩))]) (by kernel_rfl) (by decide) ?_
              refine WL.tell (op := .load 9 (.tmp 31)) (ty := 9) (d := some 32) (g := some (27, true)) (by kernel_rfl) (by kernel_rfl) (by kernel_rfl) (Tells.load_box (i := 0) (b := b1) (o := 4) (agg := false) (by rfl) ag9 (by kernel_rfl) (fun _ => rfl) (Nat.le_of_ble_eq_true rfl) (v := .string a0.f4) (by kernel_rfl)) ?_
              rw [Option.bind_eq_some_iff] at h
              obtain ⟨t13, ht14, h⟩ := h
              refine WL.op (op := .call { callee := (.value (.func 80)), args := #[(.tmp 32)], argTypes := #[9] }) (ty := 4) (d := some 33) (g := some (27, true)) (by kernel_rfl) (by kernel_rfl) (by kernel_rfl) (Does.call (f := 80) (args := [.string a0.f4]) (by kernel_rfl) (fun W hI => (tokens_May_calls HT a0.f4  t13 ht14 hI))) ?_
              rintro _ _ _ ⟨rfl, rfl, rfl⟩
              refine WL.rest 31 [2] (L' := [(2, .bool t13)]) (by kernel_rfl) ?_
              refine QP.dropAt 0 ?_
              refine QP.pick [2] ?_
              exact QP.meet ⟨_, Option.some.inj h, rfl, rfl, rfl⟩
            · replace hc := (Bool.eq_false_iff.1 hc)
              rw [if_neg hc] at h
              have hc12 := hc
              clear hc
              refine WL.rest 28 [2] (L' := [(2, .bool false)]) (by kernel_rfl) ?_
              refine QP.dropAt 0 ?_
              refine QP.pick [2] ?_
              exact QP.meet ⟨_, Option.some.inj h, rfl, rfl, rfl⟩
          · replace hc := of_decide_eq_false hc
            rw [if_neg hc] at h
            have hc7 := hc
            clear hc
            refine WL.rest 23 [2] (L' := [(2, .bool false)]) (by kernel_rfl) ?_
            refine QP.dropAt 0 ?_
            refine QP.pick [2] ?_
            exact QP.meet ⟨_, Option.some.inj h, rfl, rfl, rfl⟩
        · replace hc := of_decide_eq_false hc
          rw [if_neg hc] at h
          have hc6 := hc
          clear hc
          refine WL.rest 17 [2] (L' := [(2, .bool false)]) (by kernel_rfl) ?_
          refine QP.dropAt 0 ?_
          refine QP.pick [2] ?_
          exact QP.meet ⟨_, Option.some.inj h, rfl, rfl, rfl⟩
      · replace hc := of_decide_eq_false hc
        rw [if_neg hc] at h
        have hc5 := hc
        clear hc
        refine WL.rest 11 [2] (L' := [(2, .bool false)]) (by kernel_rfl) ?_
        refine QP.dropAt 0 ?_
        refine QP.pick [2] ?_
        exact QP.meet ⟨_, Option.some.inj h, rfl, rfl, rfl⟩
    · replace hc := of_decide_eq_false hc
      rw [if_neg hc] at h
      have hc4 := hc
      clear hc
      refine WL.rest 5 [2] (L' := [(2, .bool false)]) (by kernel_rfl) ?_
      refine QP.dropAt 0 ?_
      refine QP.pick [2] ?_
      exact QP.meet ⟨_, Option.some.inj h, rfl, rfl, rfl⟩
  · rintro _ _ _ ⟨s2, rfl, rfl, rfl, rfl⟩
    clear h
    replace h := hk3
    refine WP.ret ?_
    obtain rfl := Option.some.inj h
    exact QP.returned [2] [.bool s2] _ (by kernel_rfl) (by kernel_rfl) (by kernel_rfl) (fun W hI => ⟨_, _, _, rfl, ⟨rfl, rfl, rfl⟩, hI⟩)

/-! ### grapevine/digest.Of: function 73 -/
def digest_Of_l1 (l0 : List (List Int)) (y4 : Int) : Nat → Int → Int → Option Int
  | 0, _, _ => none
  | k + 1, y12, y13 => (if y13 < ((l0.getD y4.toNat []).length : Int) then (if 0 ≤ y13 ∧ y13 < ((l0.getD y4.toNat []).length : Int) then ((some ((l0.getD y4.toNat []).getD y13.toNat 0)).bind fun v18 => digest_Of_l1 l0 y4 k (IntKind.u64.wrap ((Go.bits .xor .u64 y12 (IntKind.u64.wrap v18)) * 1099511628211)) (IntKind.i64.wrap (y13 + 1))) else none) else some y12)
def digest_Of_l0 (l0 : List (List Int)) : Nat → Int → Int → Option Int
  | 0, _, _ => none
  | k + 1, y3, y4 => (if y4 < (l0.length : Int) then (if 0 ≤ y4 ∧ y4 < (l0.length : Int) then ((digest_Of_l1 l0 y4 k y3 0).bind fun s10 => digest_Of_l0 l0 k s10 (IntKind.i64.wrap (y4 + 1))) else none) else some y3)
def digest_Of (k : Nat) (l0 : List (List Int)) : Option Int := ((digest_Of_l0 l0 k 14695981039346656037 0).bind fun s1 => some s1)
set_option maxHeartbeats 4000000 in
theorem digest_Of_calls {B : World} {G : GMap} {Γ : List Chunk} {W : World} (k : Nat) (l0 : List (List Int)) (Al0 : Option Addr) (cl0 : Nat) (Hl0 : Rd (kSlice (kInt .u8)) G Al0 cl0 l0) (r : Int) (h : digest_Of k l0 = some r) (hI : Inv B G (Γ) W) :
    Calls Tryd.prog 73 [.slice Al0 l0.length cl0].toArray W (Ret B (fun v G' Γ' => v = .int .u64 r ∧ G = G' ∧ Γ = Γ')) := by
  refine calls_WP (Γ := Γ) (G := G) (B := B) Tryd.func73 rfl (by kernel_rfl) ?_ hI
  clear hI
  unfold digest_Of at h
  refine WP.seqP [0] (L' := [(0, .slice Al0 l0.length cl0)]) (by kernel_rfl) ?_
  refine WP.seqP [0, 3] (L' := [(0, .slice Al0 l0.length cl0), (3, .int .u64 14695981039346656037)]) (by kernel_rfl) ?_
  refine WP.seq ?_
  refine WP.seqP [3, 8, 9, 10] (L' := [(3, .int .u64 14695981039346656037), (8, .slice Al0 l0.length cl0), (9, .int .i64 (l0.length : Int)), (10, .int .i64 0)]) (by kernel_rfl) ?_
  rw [Option.bind_eq_some_iff] at h
  obtain ⟨os1, h, hk2⟩ := h
  refine WP.cutQ (fun L' G' Γ' => ∃ s1 : Int, s1 = os1 ∧ L' = [(3, .int .u64 s1)] ∧ G = G' ∧ Γ = Γ') ?_ ?_
  · clear hk2
    refine WP.block ?_
    refine WP.pick [3, 8, 9, 10] ?_
    refine WP.loopF (fun kn5 L' G' Γ' => ∃ (y3 : Int), ∃ (y4 : Int), digest_Of_l0 l0 kn5 y3 y4 = some os1 ∧ L' = [(3, .int .u64 y3), (8, .slice Al0 l0.length cl0), (9, .int .i64 (l0.length : Int)), (10, .int .i64 y4)] ∧ G = G' ∧ Γ = Γ') ?_ k ⟨14695981039346656037, 0, h, rfl, rfl, rfl⟩
    clear h
    rintro kn6 _ _ _ ⟨y3, y4, h, rfl, rfl, rfl⟩
    cases kn6 with
    | zero => exact absurd h (by simp [digest_Of_l0])
    | succ kn6 =>
      simp only [digest_Of_l0] at h
      refine WP.seqP [3, 8, 9, 10, 11] (L' := [(3, .int .u64 y3), (8, .slice Al0 l0.length cl0), (9, .int .i64 (l0.length : Int)), (10, .int .i64 y4), (11, .bool (decide (y4 < (l0.length : Int))))]) (by kernel_rfl) ?_
      refine WP.seq ?_
      refine WP.cond (b := decide (y4 < (l0.length : Int))) (by kernel_rfl) (fun hc => ?_) (fun hc => ?_)
      · replace hc := of_decide_eq_true hc
        rw [if_pos hc] at h
        have hc7 := hc
        clear hc
        refine WP.skip ?_
        refine QP.next ?_
        refine WP.pick [3, 8, 9, 10] ?_
        refine WP.seq ?_
        refine WP.block ?_
        refine WP.seqR ?_
        by_cases hb8 : 0 ≤ y4 ∧ y4 < (l0.length : Int)
        case neg => rw [if_neg hb8] at h; cases h
        rw [if_pos hb8] at h
        refine WL.tell (op := .indexAddr 121 (.tmp 8) (.tmp 10)) (ty := 0) (d := some 12) (g := none) (by kernel_rfl) (by kernel_rfl) (by kernel_rfl) (Tells.indexAddr (A := Al0) (n := l0.length) (c := cl0) (k := .i64) (j := y4) (by kernel_rfl) (by kernel_rfl) (Hl0.isSome hb8.1 hb8.2) hb8.1 hb8.2 sl121) ?_
        refine WL.tellE (op := .load 22 (.tmp 12)) (ty := 22) (d := some 13) (g := none) (by kernel_rfl) (by kernel_rfl) (by kernel_rfl) (Hl0.load (agg := false) hb8.1 hb8.2 [] ag22 (fun _ => rfl) (by kernel_rfl)) ?_
        rintro _ ⟨Ae9, ce9, rfl, He9⟩
        refine WL.restQ 2 [3, 5, 8, 9, 10] (L' := [(3, .int .u64 y3), (5, .slice Ae9 (l0.getD y4.toNat []).length ce9), (8, .slice Al0 l0.length cl0), (9, .int .i64 (l0.length : Int)), (10, .int .i64 y4)]) (by kernel_rfl) ?_
        refine WP.seqP [3, 8, 9, 10, 14, 15, 16] (L' := [(3, .int .u64 y3), (8, .slice Al0 l0.length cl0), (9, .int .i64 (l0.length : Int)), (10, .int .i64 y4), (14, .slice Ae9 (l0.getD y4.toNat []).length ce9), (15, .int .i64 ((l0.getD y4.toNat []).length : Int)), (16, .int .i64 0)]) (by kernel_rfl) ?_
        rw [Option.bind_eq_some_iff] at h
        obtain ⟨os10, h, hk11⟩ := h
        refine WP.cutQ (fun L' G' Γ' => ∃ s10 : Int, s10 = os10 ∧ L' = [(3, .int .u64 s10), (8, .slice Al0 l0.length cl0), (9, .int .i64 (l0.length : Int)), (10, .int .i64 y4)] ∧ G = G' ∧ Γ = Γ') ?_ ?_
        · clear hk11
          refine WP.block ?_
          refine WP.pick [3, 8, 9, 10, 14, 15, 16] ?_
          refine WP.loopF (fun kn14 L' G' Γ' => ∃ (y12 : Int), ∃ (y13 : Int), digest_Of_l1 l0 y4 kn14 y12 y13 = some os10 ∧ L' = [(3, .int .u64 y12), (8, .slice Al0 l0.length cl0), (9, .int .i64 (l0.length : Int)), (10, .int .i64 y4), (14, .slice Ae9 (l0.getD y4.toNat []).length ce9), (15, .int .i64 ((l0.getD y4.toNat []).length : Int)), (16, .int .i64 y13)] ∧ G = G' ∧ Γ = Γ') ?_ kn6 ⟨y3, 0, h, rfl, rfl, rfl⟩
          clear h
          rintro kn15 _ _ _ ⟨y12, y13, h, rfl, rfl, rfl⟩
          cases kn15 with
          | zero => exact absurd h (by simp [digest_Of_l1])
          | succ kn15 =>
            simp only [digest_Of_l1] at h
            refine WP.seqP [3, 8, 9, 10, 14, 15, 16, 17] (L' := [(3, .int .u64 y12), (8, .slice Al0 l0.length cl0), (9, .int .i64 (l0.length : Int)), (10, .int .i64 y4), (14, .slice Ae9 (l0.getD y4.toNat []).length ce9), (15, .int .i64 ((l0.getD y4.toNat []).length : Int)), (16, .int .i64 y13), (17, .bool (decide (y13 < ((l0.getD y4.toNat []).length : Int))))]) (by kernel_rfl) ?_
            refine WP.seq ?_
            refine WP.cond (b := decide (y13 < ((l0.getD y4.toNat []).length : Int))) (by kernel_rfl) (fun hc => ?_) (fun hc => ?_)
            · replace hc := of_decide_eq_true hc
              rw [if_pos hc] at h
              have hc16 := hc
              clear hc
              refine WP.skip ?_
              refine QP.next ?_
              refine WP.pick [3, 8, 9, 10, 14, 15, 16] ?_
              refine WP.seq ?_
              refine WP.block ?_
              refine WP.seqR ?_
              by_cases hb17 : 0 ≤ y13 ∧ y13 < ((l0.getD y4.toNat []).length : Int)
              case neg => rw [if_neg hb17] at h; cases h
              rw [if_pos hb17] at h
              refine WL.tell (op := .indexAddr 22 (.tmp 14) (.tmp 16)) (ty := 0) (d := some 18) (g := none) (by kernel_rfl) (by kernel_rfl) (by kernel_rfl) (Tells.indexAddr (A := Ae9) (n := (l0.getD y4.toNat []).length) (c := ce9) (k := .i64) (j := y13) (by kernel_rfl) (by kernel_rfl) (He9.isSome hb17.1 hb17.2) hb17.1 hb17.2 sl22) ?_
              refine WL.tellE (op := .load 5 (.tmp 18)) (ty := 5) (d := some 19) (g := none) (by kernel_rfl) (by kernel_rfl) (by kernel_rfl) (He9.load (agg := false) hb17.1 hb17.2 0 ag5 (fun _ => rfl) (by kernel_rfl)) ?_
              rintro _ rfl
              refine WL.restQ 2 [3, 7, 8, 9, 10, 14, 15, 16] (L' := [(3, .int .u64 y12), (7, .int .u8 ((l0.getD y4.toNat []).getD y13.toNat 0)), (8, .slice Al0 l0.length cl0), (9, .int .i64 (l0.length : Int)), (10, .int .i64 y4), (14, .slice Ae9 (l0.getD y4.toNat []).length ce9), (15, .int .i64 ((l0.getD y4.toNat []).length : Int)), (16, .int .i64 y13)]) (by kernel_rfl) ?_
              obtain ⟨v18, hv19, h⟩ := Option.bind_eq_some_iff.1 h
              replace hv19 := Option.some.inj hv19
              refine WP.reput 7 (v := .int .u8 ((l0.getD y4.toNat []).getD y13.toNat 0)) (v' := .int .u8 v18) (by kernel_rfl) (by subst hv19; rfl) ?_
              refine WP.pick [3, 7, 8, 9, 10, 14, 15, 16] ?_
              refine WP.regionP [3, 8, 9, 10, 14, 15, 16] (L' := [(3, .int .u64 (IntKind.u64.wrap ((Go.bits .xor .u64 y12 (IntKind.u64.wrap v18)) * 1099511628211))), (8, .slice Al0 l0.length cl0), (9, .int .i64 (l0.length : Int)), (10, .int .i64 y4), (14, .slice Ae9 (l0.getD y4.toNat []).length ce9), (15, .int .i64 ((l0.getD y4.toNat []).length : Int)), (16, .int .i64 y13)]) (by kernel_rfl) ?_
              refine QP.blockN ?_
              refine QP.next ?_
              refine WP.pick [3, 8, 9, 10, 14, 15, 16] ?_
              refine WP.regionP [3, 8, 9, 10, 14, 15, 16] (L' := [(3, .int .u64 (IntKind.u64.wrap ((Go.bits .xor .u64 y12 (IntKind.u64.wrap v18)) * 1099511628211))), (8, .slice Al0 l0.length cl0), (9, .int .i64 (l0.length : Int)), (10, .int .i64 y4), (14, .slice Ae9 (l0.getD y4.toNat []).length ce9), (15, .int .i64 ((l0.getD y4.toNat []).length : Int)), (16, .int .i64 (IntKind.i64.wrap (y13 + 1)))]) (by kernel_rfl) ?_
              refine QP.pick [3, 8, 9, 10, 14, 15, 16] ?_
              exact QP.meet ⟨kn15, Nat.lt_succ_self _, (IntKind.u64.wrap ((Go.bits .xor .u64 y12 (IntKind.u64.wrap v18)) * 1099511628211)), (IntKind.i64.wrap (y13 + 1)), h, rfl, rfl, rfl⟩
            · replace hc := of_decide_eq_false hc
              rw [if_neg hc] at h
              have hc16 := hc
              clear hc
              refine WP.exit ?_
              refine QP.thenE ?_
              refine QP.thenE ?_
              refine QP.blockE ?_
              refine QP.pick [3, 8, 9, 10] ?_
              exact QP.meet ⟨_, Option.some.inj h, rfl, rfl, rfl⟩
        · rintro _ _ _ ⟨s10, rfl, rfl, rfl, rfl⟩
          clear h
          replace h := hk11
          refine QP.blockN ?_
          refine QP.next ?_
          refine WP.pick [3, 8, 9, 10] ?_
          refine WP.regionP [3, 8, 9, 10] (L' := [(3, .int .u64 s10), (8, .slice Al0 l0.length cl0), (9, .int .i64 (l0.length : Int)), (10, .int .i64 (IntKind.i64.wrap (y4 + 1)))]) (by kernel_rfl) ?_
          refine QP.pick [3, 8, 9, 10] ?_
          exact QP.meet ⟨kn6, Nat.lt_succ_self _, s10, (IntKind.i64.wrap (y4 + 1)), h, rfl, rfl, rfl⟩
      · replace hc := of_decide_eq_false hc
        rw [if_neg hc] at h
        have hc7 := hc
        clear hc
        refine WP.exit ?_
        refine QP.thenE ?_
        refine QP.thenE ?_
        refine QP.blockE ?_
        refine QP.pick [3] ?_
        exact QP.meet ⟨_, Option.some.inj h, rfl, rfl, rfl⟩
  · rintro _ _ _ ⟨s1, rfl, rfl, rfl, rfl⟩
    clear h
    replace h := hk2
    refine QP.next ?_
    refine WP.pick [3] ?_
    refine WP.seqP [2] (L' := [(2, .int .u64 s1)]) (by kernel_rfl) ?_
    refine WP.ret ?_
    obtain rfl := Option.some.inj h
    exact QP.returned [2] [.int .u64 s1] _ (by kernel_rfl) (by kernel_rfl) (by kernel_rfl) (fun W hI => ⟨_, _, _, rfl, ⟨rfl, rfl, rfl⟩, hI⟩)

/-! ### grapevine/frame.seal: function 82 -/
def frame_seal_l0 (t4 : Int) : Nat → (List Int) → Int → Option (List Int)
  | 0, _, _ => none
  | k + 1, y12, y13 => (if y13 ≥ 0 then (if 0 ≤ y13 then (if y12.length + ([IntKind.u8.wrap (shrK .u64 t4 y13)] : List Int).length ≤ 1073741824 then frame_seal_l0 t4 k (y12 ++ ([IntKind.u8.wrap (shrK .u64 t4 y13)] : List Int)) (IntKind.i64.wrap (y13 - 8)) else none) else none) else some y12)
def frame_seal (k : Nat) (l0 : List Int) : Option (List Int) := ((digest_Of k ([l0] : List (List Int))).bind fun t4 => ((frame_seal_l0 t4 k l0 56).bind fun s10 => some s10))
set_option maxHeartbeats 4000000 in
theorem frame_seal_calls {B : World} {G : GMap} {Γ : List Chunk} {W : World} (k : Nat) (l0 : List Int) (Al0 : Option Addr) (cl0 : Nat) (Cl0 : Chunk) (Hl0 : Ow (kInt .u8) G Al0 cl0 l0 Cl0) (r : List Int) (h : frame_seal k l0 = some r) (hI : Inv B G (Cl0 :: Γ) W) :
    Calls Tryd.prog 82 [.slice Al0 l0.length cl0].toArray W (Ret B (fun v G' Γ' => ∃ (AR : Option Addr), ∃ (cR : Nat), ∃ (CR : Chunk), v = .slice AR r.length cR ∧ Ow (kInt .u8) G' AR cR r CR ∧ G = G' ∧ CR :: Γ = Γ')) := by
  refine calls_WP (Γ := Cl0 :: Γ) (G := G) (B := B) Tryd.func82 rfl (by kernel_rfl) ?_ hI
  clear hI
  unfold frame_seal at h
  refine WP.seqP [0] (L' := [(0, .slice Al0 l0.length cl0)]) (by kernel_rfl) ?_
  refine WP.seqR ?_
  refine WL.pure 0 1 [0, 5] (L' := [(0, .slice Al0 l0.length cl0), (5, .slice Al0 l0.length cl0)]) (by kernel_rfl) (by decide) ?_
  refine WL.op (op := .buildSlice 121 1 #[(0, (.tmp 5))]) (ty := 121) (d := some 6) (g := none) (by kernel_rfl) (by kernel_rfl) (by kernel_rfl) (Does.new (o := .cells #[.slice Al0 l0.length cl0] 22 (0, 0)) (v := fun r => .slice (some ⟨r, 0, none⟩) 1 1) (fun r => by kernel_rfl)) ?_
  rintro _ _ _ ⟨b1, rfl, rfl, rfl⟩
  rw [Option.bind_eq_some_iff] at h
  obtain ⟨t4, ht5, h⟩ := h
  refine WL.op (op := .call { callee := (.value (.func 73)), args := #[(.tmp 6)], argTypes := #[121] }) (ty := 109) (d := some 7) (g := none) (by kernel_rfl) (by kernel_rfl) (by kernel_rfl) (Does.call (Φ := fun v' G' Γ' => v' = .int .u64 t4 ∧ G = G' ∧ [(b1, .cells #[.slice Al0 l0.length cl0] 22 (0, 0))] :: Cl0 :: Γ = Γ') (f := 73) (args := [.slice (some ⟨b1, 0, none⟩) ([l0] : List (List Int)).length 1]) (by kernel_rfl) (fun W hI => (Calls.lendN (Φ := fun v' N => v' = .int .u64 t4 ∧ N = []) (H := []) (i := 1) rfl hI (fun _ e l8 nl8 hI => by subst e; exact Calls.lendN (Φ := fun v' N => v' = .int .u64 t4 ∧ N = []) (H := []) (i := 0) rfl hI (fun _ e l9 nl9 hI => by subst e; exact (((digest_Of_calls k ([l0] : List (List Int)) (some ⟨b1, 0, none⟩) 1 ((Ow.lit (kd := (kSlice (kInt .u8))) (b := b1) (T := 22) (xs := ([l0] : List (List Int))) (cs := [.slice Al0 l0.length cl0]) (.cons (x := l0) (cs := [.slice Al0 l0.length cl0]) ⟨Al0, cl0, rfl, (Hl0.rdN l8 nl8)⟩ .nil)).rdN l9 nl9) t4 ht5 hI)).mono fun _ _ hr => by obtain ⟨_, _, _, rfl, hd, hI⟩ := hr; obtain ⟨rfl, rfl, rfl⟩ := hd; exact ⟨_, _, _, rfl, ⟨[], ⟨rfl, rfl⟩, rfl, rfl⟩, hI⟩)))).mono fun _ _ hr => by obtain ⟨_, _, _, rfl, ⟨_, hd, rfl, rfl⟩, hI⟩ := hr; obtain ⟨rfl, rfl⟩ := hd; exact ⟨_, _, _, rfl, ⟨rfl, rfl, rfl⟩, hI⟩)) ?_
  rintro _ _ _ ⟨rfl, rfl, rfl⟩
  refine WL.restQ 3 [0, 3] (L' := [(0, .slice Al0 l0.length cl0), (3, .int .u64 t4)]) (by kernel_rfl) ?_
  refine WP.dropAt 0 ?_
  refine WP.seq ?_
  refine WP.seqP [0, 3, 4] (L' := [(0, .slice Al0 l0.length cl0), (3, .int .u64 t4), (4, .int .i64 56)]) (by kernel_rfl) ?_
  rw [Option.bind_eq_some_iff] at h
  obtain ⟨os10, h, hk11⟩ := h
  refine WP.cutQ (fun L' G' Γ' => ∃ s10 : (List Int), s10 = os10 ∧ ∃ (As10 : Option Addr), ∃ (cs10 : Nat), ∃ (Cs10 : Chunk), L' = [(0, .slice As10 s10.length cs10)] ∧ G = G' ∧ Cs10 :: Γ = Γ' ∧ Ow (kInt .u8) G As10 cs10 s10 Cs10) ?_ ?_
  · clear hk11
    refine WP.block ?_
    refine WP.pick [0, 3, 4] ?_
    refine WP.loopF (fun kn14 L' G' Γ' => ∃ (y12 : List Int), ∃ (y13 : Int), frame_seal_l0 t4 kn14 y12 y13 = some os10 ∧ ∃ (Ay12 : Option Addr), ∃ (cy12 : Nat), ∃ (Cy12 : Chunk), L' = [(0, .slice Ay12 y12.length cy12), (3, .int .u64 t4), (4, .int .i64 y13)] ∧ G = G' ∧ Cy12 :: Γ = Γ' ∧ Ow (kInt .u8) G Ay12 cy12 y12 Cy12) ?_ k ⟨l0, 56, h, Al0, cl0, Cl0, rfl, rfl, rfl, Hl0⟩
    clear h
    rintro kn15 _ _ _ ⟨y12, y13, h, Ay12, cy12, Cy12, rfl, rfl, rfl, Hy12⟩
    cases kn15 with
    | zero => exact absurd h (by simp [frame_seal_l0])
    | succ kn15 =>
      simp only [frame_seal_l0] at h
      refine WP.seq ?_
      refine WP.seqP [0, 3, 4, 9] (L' := [(0, .slice Ay12 y12.length cy12), (3, .int .u64 t4), (4, .int .i64 y13), (9, .bool (decide (y13 ≥ 0)))]) (by kernel_rfl) ?_
      refine WP.cond (b := decide (y13 ≥ 0)) (by kernel_rfl) (fun hc => ?_) (fun hc => ?_)
      · replace hc := of_decide_eq_true hc
        rw [if_pos hc] at h
        have hc16 := hc
        clear hc
        refine WP.skip ?_
        refine QP.next ?_
        refine WP.pick [0, 3, 4] ?_
        refine WP.seq ?_
        refine WP.block ?_
        refine WP.region ?_
        refine WL.pure 0 3 [0, 3, 4, 12, 13, 14] (L' := [(0, .slice Ay12 y12.length cy12), (3, .int .u64 t4), (4, .int .i64 y13), (12, .slice Ay12 y12.length cy12), (13, .int .u64 t4), (14, .int .i64 y13)]) (by kernel_rfl) (by decide) ?_
        by_cases hb17 : 0 ≤ y13
        case neg => rw [if_neg hb17] at h; cases h
        rw [if_pos hb17] at h
        refine WL.tell (op := .binOp .shr 109 (.tmp 13) (.tmp 14) 3) (ty := 109) (d := some 15) (g := none) (by kernel_rfl) (by kernel_rfl) (by kernel_rfl) (Tells.shr (k := .u64) (k' := .i64) (a := t4) (b := y13) (by kernel_rfl) (by kernel_rfl) hb17) ?_
        refine WL.pure 4 5 [0, 3, 4, 12, 16] (L' := [(0, .slice Ay12 y12.length cy12), (3, .int .u64 t4), (4, .int .i64 y13), (12, .slice Ay12 y12.length cy12), (16, .int .u8 (IntKind.u8.wrap (shrK .u64 t4 y13)))]) (by kernel_rfl) (by decide) ?_
        refine WL.op (op := .buildSlice 22 1 #[(0, (.tmp 16))]) (ty := 22) (d := some 17) (g := none) (by kernel_rfl) (by kernel_rfl) (by kernel_rfl) (Does.new (o := .cells #[.int .u8 (IntKind.u8.wrap (shrK .u64 t4 y13))] 5 (0, 0)) (v := fun r => .slice (some ⟨r, 0, none⟩) 1 1) (fun r => by kernel_rfl)) ?_
        rintro _ _ _ ⟨b18, rfl, rfl, rfl⟩
        have Ho20 : Ow (kInt .u8) G (some ⟨b18, 0, none⟩) 1 ([IntKind.u8.wrap (shrK .u64 t4 y13)] : List Int) [(b18, .cells #[.int .u8 (IntKind.u8.wrap (shrK .u64 t4 y13))] 5 (0, 0))] := Ow.lit (kd := (kInt .u8)) (G := G) (b := b18) (T := 5) (xs := ([IntKind.u8.wrap (shrK .u64 t4 y13)] : List Int)) (cs := [.int .u8 (IntKind.u8.wrap (shrK .u64 t4 y13))]) (.cons (x := (IntKind.u8.wrap (shrK .u64 t4 y13))) (cs := [.int .u8 (IntKind.u8.wrap (shrK .u64 t4 y13))]) (by exact rfl) .nil)
        by_cases hb21 : y12.length + ([IntKind.u8.wrap (shrK .u64 t4 y13)] : List Int).length ≤ 1073741824
        case neg => rw [if_neg hb21] at h; cases h
        rw [if_pos hb21] at h
        refine WL.op (op := .call { callee := (.builtin .append), args := #[(.tmp 12), (.tmp 17)], argTypes := #[22, 22] }) (ty := 22) (d := some 18) (g := none) (by kernel_rfl) (by kernel_rfl) (by kernel_rfl) (Ow.append (ys := ([IntKind.u8.wrap (shrK .u64 t4 y13)] : List Int)) (v := .slice (some ⟨b18, 0, none⟩) ([IntKind.u8.wrap (shrK .u64 t4 y13)] : List Int).length 1) Hy12 (i := 1) rfl (by kernel_rfl) (by kernel_rfl) (Ho20.src (i := 0) rfl) sl22 ze5 nt22 (by decide) hb21) ?_
        rintro _ _ _ ⟨rfl, AN22, cN22, CN22, rfl, HN22, rfl⟩
        refine WL.rest 7 [0, 3, 4] (L' := [(0, .slice AN22 (y12 ++ ([IntKind.u8.wrap (shrK .u64 t4 y13)] : List Int)).length cN22), (3, .int .u64 t4), (4, .int .i64 y13)]) (by kernel_rfl) ?_
        refine QP.blockN ?_
        refine QP.next ?_
        refine WP.pick [0, 3, 4] ?_
        refine WP.regionP [0, 3, 4] (L' := [(0, .slice AN22 (y12 ++ ([IntKind.u8.wrap (shrK .u64 t4 y13)] : List Int)).length cN22), (3, .int .u64 t4), (4, .int .i64 (IntKind.i64.wrap (y13 - 8)))]) (by kernel_rfl) ?_
        refine QP.dropAt 0 ?_
        refine QP.pick [0, 3, 4] ?_
        exact QP.meet ⟨kn15, Nat.lt_succ_self _, (y12 ++ ([IntKind.u8.wrap (shrK .u64 t4 y13)] : List Int)), (IntKind.i64.wrap (y13 - 8)), h, AN22, cN22, CN22, rfl, rfl, rfl, HN22⟩
      · replace hc := of_decide_eq_false hc
        rw [if_neg hc] at h
        have hc16 := hc
        clear hc
        refine WP.exit ?_
        refine QP.thenE ?_
        refine QP.thenE ?_
        refine QP.blockE ?_
        refine QP.pick [0] ?_
        exact QP.meet ⟨_, Option.some.inj h, Ay12, cy12, Cy12, rfl, rfl, rfl, Hy12⟩
  · rintro _ _ _ ⟨s10, rfl, As10, cs10, Cs10, rfl, rfl, rfl, Hs10⟩
    clear h
    replace h := hk11
    refine QP.next ?_
    refine WP.pick [0] ?_
    refine WP.seqP [2] (L' := [(2, .slice As10 s10.length cs10)]) (by kernel_rfl) ?_
    refine WP.ret ?_
    obtain rfl := Option.some.inj h
    exact QP.returned [2] [.slice As10 s10.length cs10] _ (by kernel_rfl) (by kernel_rfl) (by kernel_rfl) (fun W hI => ⟨_, _, _, rfl, ⟨As10, cs10, Cs10, rfl, Hs10, rfl, rfl⟩, hI⟩)

/-! ### grapevine/frame.Lay: function 48 -/
def frame_Lay (k : Nat) (a0 : Int) (l1 : List Int) : Option ((List Int) × Int) := ((if a0 < 1 then some true else (if a0 > 255 then some true else some (decide ((l1.length : Int) > 65535)))).bind fun s1 => (if s1 = true then some (([] : List Int), 2) else (if ([71, IntKind.u8.wrap a0, IntKind.u8.wrap (shrK .i64 (l1.length : Int) 8), IntKind.u8.wrap (l1.length : Int)] : List Int).length + l1.length ≤ 1073741824 then ((some (([71, IntKind.u8.wrap a0, IntKind.u8.wrap (shrK .i64 (l1.length : Int) 8), IntKind.u8.wrap (l1.length : Int)] : List Int) ++ l1)).bind fun v11 => ((frame_seal k v11).bind fun t14 => some (t14, 0))) else none)))
set_option maxHeartbeats 4000000 in
theorem frame_Lay_calls {B : World} {G : GMap} {Γ : List Chunk} {W : World} (k : Nat) (a0 : Int) (l1 : List Int) (Al1 : Option Addr) (cl1 : Nat) (Hl1 : Rd (kInt .u8) G Al1 cl1 l1) (r : (List Int) × Int) (h : frame_Lay k a0 l1 = some r) (hI : Inv B G (Γ) W) :
    Calls Tryd.prog 48 [.int .i64 a0, .slice Al1 l1.length cl1].toArray W (Ret B (fun v G' Γ' => ∃ (AR0 : Option Addr), ∃ (cR0 : Nat), ∃ (CR0 : Chunk), v = .tuple #[.slice AR0 r.1.length cR0, .int .i64 r.2] ∧ Ow (kInt .u8) G' AR0 cR0 r.1 CR0 ∧ G = G' ∧ CR0 :: Γ = Γ')) := by
  refine calls_WP (Γ := Γ) (G := G) (B := B) Tryd.func48 rfl (by kernel_rfl) ?_ hI
  clear hI
  unfold frame_Lay at h
  refine WP.seqP [0, 1] (L' := [(0, .int .i64 a0), (1, .slice Al1 l1.length cl1)]) (by kernel_rfl) ?_
  refine WP.seq ?_
  rw [Option.bind_eq_some_iff] at h
  obtain ⟨os1, h, hk2⟩ := h
  refine WP.cut (fun L' G' Γ' => ∃ s1 : Bool, s1 = os1 ∧ L' = [(0, .int .i64 a0), (1, .slice Al1 l1.length cl1), (17, .bool s1)] ∧ G = G' ∧ Γ = Γ') ?_ ?_
  · clear hk2
    refine WP.region ?_
    refine WL.pure 0 3 [0, 1, 9] (L' := [(0, .int .i64 a0), (1, .slice Al1 l1.length cl1), (9, .bool (decide (a0 < 1)))]) (by kernel_rfl) (by decide) ?_
    refine WL.split 9 (b := decide (a0 < 1)) (by kernel_rfl) (fun hc => ?_) (fun hc => ?_)
    · replace hc := of_decide_eq_true hc
      rw [if_pos hc] at h
      have hc3 := hc
      clear hc
      refine WL.rest 3 [0, 1, 17] (L' := [(0, .int .i64 a0), (1, .slice Al1 l1.length cl1), (17, .bool true)]) (by kernel_rfl) ?_
      refine QP.pick [0, 1, 17] ?_
      exact QP.meet ⟨_, Option.some.inj h, rfl, rfl, rfl⟩
    · replace hc := of_decide_eq_false hc
      rw [if_neg hc] at h
      have hc3 := hc
      clear hc
      refine WL.pure 3 7 [0, 1, 13] (L' := [(0, .int .i64 a0), (1, .slice Al1 l1.length cl1), (13, .bool (decide (a0 > 255)))]) (by kernel_rfl) (by decide) ?_
      refine WL.split 13 (b := decide (a0 > 255)) (by kernel_rfl) (fun hc => ?_) (fun hc => ?_)
      · replace hc := of_decide_eq_true hc
        rw [if_pos hc] at h
        have hc4 := hc
        clear hc
        refine WL.rest 7 [0, 1, 17] (L' := [(0, .int .i64 a0), (1, .slice Al1 l1.length cl1), (17, .bool true)]) (by kernel_rfl) ?_
        refine QP.pick [0, 1, 17] ?_
        exact QP.meet ⟨_, Option.some.inj h, rfl, rfl, rfl⟩
      · replace hc := of_decide_eq_false hc
        rw [if_neg hc] at h
        have hc4 := hc
        clear hc
        refine WL.rest 7 [0, 1, 17] (L' := [(0, .int .i64 a0), (1, .slice Al1 l1.length cl1), (17, .bool (decide ((l1.length : Int) > 65535)))]) (by kernel_rfl) ?_
        refine QP.pick [0, 1, 17] ?_
        exact QP.meet ⟨_, Option.some.inj h, rfl, rfl, rfl⟩
  · rintro _ _ _ ⟨s1, rfl, rfl, rfl, rfl⟩
    clear h
    replace h := hk2
    refine WP.cond (b := s1) (by kernel_rfl) (fun hc => ?_) (fun hc => ?_)
    · replace hc := hc
      rw [if_pos hc] at h
      have hc5 := hc
      clear hc
      refine WP.seqP [4, 5] (L' := [(4, .slice none 0 0), (5, .int .i64 2)]) (by kernel_rfl) ?_
      refine WP.ret ?_
      refine QP.thenR ?_
      obtain rfl := Option.some.inj h
      refine QP.addNil ?_
      exact QP.returned [4, 5] [.slice none ([] : List Int).length 0, .int .i64 2] _ (by kernel_rfl) (by kernel_rfl) (by kernel_rfl) (fun W hI => ⟨_, _, _, rfl, ⟨none, 0, [], rfl, (Ow.nil (kInt .u8) _), rfl, rfl⟩, hI⟩)
    · replace hc := (Bool.eq_false_iff.1 hc)
      rw [if_neg hc] at h
      have hc5 := hc
      clear hc
      refine WP.skip ?_
      refine QP.next ?_
      refine WP.pick [0, 1] ?_
      refine WP.seqR ?_
      refine WL.pure 0 9 [1, 19, 23, 26] (L' := [(1, .slice Al1 l1.length cl1), (19, .int .u8 (IntKind.u8.wrap a0)), (23, .int .u8 (IntKind.u8.wrap (shrK .i64 (l1.length : Int) 8))), (26, .int .u8 (IntKind.u8.wrap (l1.length : Int)))]) (by kernel_rfl) (by decide) ?_
      refine WL.op (op := .buildSlice 22 4 #[(0, (.const (.int .u8 71))), (1, (.tmp 19)), (2, (.tmp 23)), (3, (.tmp 26))]) (ty := 22) (d := some 27) (g := none) (by kernel_rfl) (by kernel_rfl) (by kernel_rfl) (Does.new (o := .cells #[.int .u8 71, .int .u8 (IntKind.u8.wrap a0), .int .u8 (IntKind.u8.wrap (shrK .i64 (l1.length : Int) 8)), .int .u8 (IntKind.u8.wrap (l1.length : Int))] 5 (0, 0)) (v := fun r => .slice (some ⟨r, 0, none⟩) 4 4) (fun r => by kernel_rfl)) ?_
      rintro _ _ _ ⟨b6, rfl, rfl, rfl⟩
      have Ho8 : Ow (kInt .u8) G (some ⟨b6, 0, none⟩) 4 ([71, IntKind.u8.wrap a0, IntKind.u8.wrap (shrK .i64 (l1.length : Int) 8), IntKind.u8.wrap (l1.length : Int)] : List Int) [(b6, .cells #[.int .u8 71, .int .u8 (IntKind.u8.wrap a0), .int .u8 (IntKind.u8.wrap (shrK .i64 (l1.length : Int) 8)), .int .u8 (IntKind.u8.wrap (l1.length : Int))] 5 (0, 0))] := Ow.lit (kd := (kInt .u8)) (G := G) (b := b6) (T := 5) (xs := ([71, IntKind.u8.wrap a0, IntKind.u8.wrap (shrK .i64 (l1.length : Int) 8), IntKind.u8.wrap (l1.length : Int)] : List Int)) (cs := [.int .u8 71, .int .u8 (IntKind.u8.wrap a0), .int .u8 (IntKind.u8.wrap (shrK .i64 (l1.length : Int) 8)), .int .u8 (IntKind.u8.wrap (l1.length : Int))]) (.cons (x := 71) (cs := [.int .u8 71]) (by exact rfl) (.cons (x := (IntKind.u8.wrap a0)) (cs := [.int .u8 (IntKind.u8.wrap a0)]) (by exact rfl) (.cons (x := (IntKind.u8.wrap (shrK .i64 (l1.length : Int) 8))) (cs := [.int .u8 (IntKind.u8.wrap (shrK .i64 (l1.length : Int) 8))]) (by exact rfl) (.cons (x := (IntKind.u8.wrap (l1.length : Int))) (cs := [.int .u8 (IntKind.u8.wrap (l1.length : Int))]) (by exact rfl) .nil))))
      refine WL.pure 10 11 [27, 28] (L' := [(27, .slice (some ⟨b6, 0, none⟩) ([71, IntKind.u8.wrap a0, IntKind.u8.wrap (shrK .i64 (l1.length : Int) 8), IntKind.u8.wrap (l1.length : Int)] : List Int).length 4), (28, .slice Al1 l1.length cl1)]) (by kernel_rfl) (by decide) ?_
      by_cases hb9 : ([71, IntKind.u8.wrap a0, IntKind.u8.wrap (shrK .i64 (l1.length : Int) 8), IntKind.u8.wrap (l1.length : Int)] : List Int).length + l1.length ≤ 1073741824
      case neg => rw [if_neg hb9] at h; cases h
      rw [if_pos hb9] at h
      refine WL.op (op := .call { callee := (.builtin .append), args := #[(.tmp 27), (.tmp 28)], argTypes := #[22, 22] }) (ty := 22) (d := some 29) (g := none) (by kernel_rfl) (by kernel_rfl) (by kernel_rfl) (Ow.append (ys := l1) (v := .slice Al1 l1.length cl1) Ho8 (i := 0) rfl (by kernel_rfl) (by kernel_rfl) Hl1.src sl22 ze5 nt22 (by decide) hb9) ?_
      rintro _ _ _ ⟨rfl, AN10, cN10, CN10, rfl, HN10, rfl⟩
      refine WL.restQ 12 [6] (L' := [(6, .slice AN10 (([71, IntKind.u8.wrap a0, IntKind.u8.wrap (shrK .i64 (l1.length : Int) 8), IntKind.u8.wrap (l1.length : Int)] : List Int) ++ l1).length cN10)]) (by kernel_rfl) ?_
      obtain ⟨v11, hv12, h⟩ := Option.bind_eq_some_iff.1 h
      replace hv12 := Option.some.inj hv12
      have Hn13 := HN10
      rw [hv12] at Hn13
      refine WP.reput 6 (v := .slice AN10 (([71, IntKind.u8.wrap a0, IntKind.u8.wrap (shrK .i64 (l1.length : Int) 8), IntKind.u8.wrap (l1.length : Int)] : List Int) ++ l1).length cN10) (v' := .slice AN10 v11.length cN10) (by kernel_rfl) (by subst hv12; rfl) ?_
      refine WP.pick [6] ?_
      refine WP.seqR ?_
      refine WL.pure 0 1 [30] (L' := [(30, .slice AN10 v11.length cN10)]) (by kernel_rfl) (by decide) ?_
      rw [Option.bind_eq_some_iff] at h
      obtain ⟨t14, ht15, h⟩ := h
      refine WL.op (op := .call { callee := (.value (.func 82)), args := #[(.tmp 30)], argTypes := #[22] }) (ty := 22) (d := some 31) (g := none) (by kernel_rfl) (by kernel_rfl) (by kernel_rfl) (Does.call (f := 82) (args := [.slice AN10 v11.length cN10]) (by kernel_rfl) (fun W hI => (frame_seal_calls k v11 AN10 cN10 CN10 Hn13 t14 ht15 hI))) ?_
      rintro _ _ _ ⟨AR16, cR16, CR16, rfl, HR16, rfl, rfl⟩
      refine WL.restQ 2 [4, 5] (L' := [(4, .slice AR16 t14.length cR16), (5, .int .i64 0)]) (by kernel_rfl) ?_
      refine WP.ret ?_
      obtain rfl := Option.some.inj h
      exact QP.returned [4, 5] [.slice AR16 t14.length cR16, .int .i64 0] _ (by kernel_rfl) (by kernel_rfl) (by kernel_rfl) (fun W hI => ⟨_, _, _, rfl, ⟨AR16, cR16, CR16, rfl, HR16, rfl, rfl⟩, hI⟩)

/-! ### grapevine/record.put: function 81 -/
def record_put_l0 (a1 : Int) : Nat → (List Int) → Int → Option (List Int)
  | 0, _, _ => none
  | k + 1, y3, y4 => (if y4 > 0 then (if 0 ≤ (IntKind.i64.wrap (8 * (IntKind.i64.wrap (y4 - 1)))) then (if y3.length + ([IntKind.u8.wrap (shrK .i64 a1 (IntKind.i64.wrap (8 * (IntKind.i64.wrap (y4 - 1)))))] : List Int).length ≤ 1073741824 then record_put_l0 a1 k (y3 ++ ([IntKind.u8.wrap (shrK .i64 a1 (IntKind.i64.wrap (8 * (IntKind.i64.wrap (y4 - 1)))))] : List Int)) (IntKind.i64.wrap (y4 - 1)) else none) else none) else some y3)
def record_put (k : Nat) (l0 : List Int) (a1 : Int) (a2 : Int) : Option (List Int) := ((record_put_l0 a1 k l0 a2).bind fun s1 => some s1)
set_option maxHeartbeats 4000000 in
theorem record_put_calls {B : World} {G : GMap} {Γ : List Chunk} {W : World} (k : Nat) (l0 : List Int) (a1 : Int) (a2 : Int) (Al0 : Option Addr) (cl0 : Nat) (Cl0 : Chunk) (Hl0 : Ow (kInt .u8) G Al0 cl0 l0 Cl0) (r : List Int) (h : record_put k l0 a1 a2 = some r) (hI : Inv B G (Cl0 :: Γ) W) :
    Calls Tryd.prog 81 [.slice Al0 l0.length cl0, .int .i64 a1, .int .i64 a2].toArray W (Ret B (fun v G' Γ' => ∃ (AR : Option Addr), ∃ (cR : Nat), ∃ (CR : Chunk), v = .slice AR r.length cR ∧ Ow (kInt .u8) G' AR cR r CR ∧ G = G' ∧ CR :: Γ = Γ')) := by
  refine calls_WP (Γ := Cl0 :: Γ) (G := G) (B := B) Tryd.func81 rfl (by kernel_rfl) ?_ hI
  clear hI
  unfold record_put at h
  refine WP.seqP [0, 1, 2] (L' := [(0, .slice Al0 l0.length cl0), (1, .int .i64 a1), (2, .int .i64 a2)]) (by kernel_rfl) ?_
  rw [Option.bind_eq_some_iff] at h
  obtain ⟨os1, h, hk2⟩ := h
  refine WP.cut (fun L' G' Γ' => ∃ s1 : (List Int), s1 = os1 ∧ ∃ (As1 : Option Addr), ∃ (cs1 : Nat), ∃ (Cs1 : Chunk), L' = [(0, .slice As1 s1.length cs1)] ∧ G = G' ∧ Cs1 :: Γ = Γ' ∧ Ow (kInt .u8) G As1 cs1 s1 Cs1) ?_ ?_
  · clear hk2
    refine WP.block ?_
    refine WP.pick [0, 1, 2] ?_
    refine WP.loopF (fun kn5 L' G' Γ' => ∃ (y3 : List Int), ∃ (y4 : Int), record_put_l0 a1 kn5 y3 y4 = some os1 ∧ ∃ (Ay3 : Option Addr), ∃ (cy3 : Nat), ∃ (Cy3 : Chunk), L' = [(0, .slice Ay3 y3.length cy3), (1, .int .i64 a1), (2, .int .i64 y4)] ∧ G = G' ∧ Cy3 :: Γ = Γ' ∧ Ow (kInt .u8) G Ay3 cy3 y3 Cy3) ?_ k ⟨l0, a2, h, Al0, cl0, Cl0, rfl, rfl, rfl, Hl0⟩
    clear h
    rintro kn6 _ _ _ ⟨y3, y4, h, Ay3, cy3, Cy3, rfl, rfl, rfl, Hy3⟩
    cases kn6 with
    | zero => exact absurd h (by simp [record_put_l0])
    | succ kn6 =>
      simp only [record_put_l0] at h
      refine WP.seq ?_
      refine WP.seqP [0, 1, 2, 8] (L' := [(0, .slice Ay3 y3.length cy3), (1, .int .i64 a1), (2, .int .i64 y4), (8, .bool (decide (y4 > 0)))]) (by kernel_rfl) ?_
      refine WP.cond (b := decide (y4 > 0)) (by kernel_rfl) (fun hc => ?_) (fun hc => ?_)
      · replace hc := of_decide_eq_true hc
        rw [if_pos hc] at h
        have hc7 := hc
        clear hc
        refine WP.skip ?_
        refine QP.next ?_
        refine WP.pick [0, 1, 2] ?_
        refine WP.block ?_
        refine WP.seqP [0, 1, 2] (L' := [(0, .slice Ay3 y3.length cy3), (1, .int .i64 a1), (2, .int .i64 (IntKind.i64.wrap (y4 - 1)))]) (by kernel_rfl) ?_
        refine WP.region ?_
        refine WL.pure 0 4 [0, 1, 2, 11, 12, 14] (L' := [(0, .slice Ay3 y3.length cy3), (1, .int .i64 a1), (2, .int .i64 (IntKind.i64.wrap (y4 - 1))), (11, .slice Ay3 y3.length cy3), (12, .int .i64 a1), (14, .int .i64 (IntKind.i64.wrap (8 * (IntKind.i64.wrap (y4 - 1)))))]) (by kernel_rfl) (by decide) ?_
        by_cases hb8 : 0 ≤ (IntKind.i64.wrap (8 * (IntKind.i64.wrap (y4 - 1))))
        case neg => rw [if_neg hb8] at h; cases h
        rw [if_pos hb8] at h
        refine WL.tell (op := .binOp .shr 3 (.tmp 12) (.tmp 14) 3) (ty := 3) (d := some 15) (g := none) (by kernel_rfl) (by kernel_rfl) (by kernel_rfl) (Tells.shr (k := .i64) (k' := .i64) (a := a1) (b := (IntKind.i64.wrap (8 * (IntKind.i64.wrap (y4 - 1))))) (by kernel_rfl) (by kernel_rfl) hb8) ?_
        refine WL.pure 5 6 [0, 1, 2, 11, 16] (L' := [(0, .slice Ay3 y3.length cy3), (1, .int .i64 a1), (2, .int .i64 (IntKind.i64.wrap (y4 - 1))), (11, .slice Ay3 y3.length cy3), (16, .int .u8 (IntKind.u8.wrap (shrK .i64 a1 (IntKind.i64.wrap (8 * (IntKind.i64.wrap (y4 - 1)))))))]) (by kernel_rfl) (by decide) ?_
        refine WL.op (op := .buildSlice 22 1 #[(0, (.tmp 16))]) (ty := 22) (d := some 17) (g := none) (by kernel_rfl) (by kernel_rfl) (by kernel_rfl) (Does.new (o := .cells #[.int .u8 (IntKind.u8.wrap (shrK .i64 a1 (IntKind.i64.wrap (8 * (IntKind.i64.wrap (y4 - 1))))))] 5 (0, 0)) (v := fun r => .slice (some ⟨r, 0, none⟩) 1 1) (fun r => by kernel_rfl)) ?_
        rintro _ _ _ ⟨b9, rfl, rfl, rfl⟩
        have Ho11 : Ow (kInt .u8) G (some ⟨b9, 0, none⟩) 1 ([IntKind.u8.wrap (shrK .i64 a1 (IntKind.i64.wrap (8 * (IntKind.i64.wrap (y4 - 1)))))] : List Int) [(b9, .cells #[.int .u8 (IntKind.u8.wrap (shrK .i64 a1 (IntKind.i64.wrap (8 * (IntKind.i64.wrap (y4 - 1))))))] 5 (0, 0))] := Ow.lit (kd := (kInt .u8)) (G := G) (b := b9) (T := 5) (xs := ([IntKind.u8.wrap (shrK .i64 a1 (IntKind.i64.wrap (8 * (IntKind.i64.wrap (y4 - 1)))))] : List Int)) (cs := [.int .u8 (IntKind.u8.wrap (shrK .i64 a1 (IntKind.i64.wrap (8 * (IntKind.i64.wrap (y4 - 1))))))]) (.cons (x := (IntKind.u8.wrap (shrK .i64 a1 (IntKind.i64.wrap (8 * (IntKind.i64.wrap (y4 - 1))))))) (cs := [.int .u8 (IntKind.u8.wrap (shrK .i64 a1 (IntKind.i64.wrap (8 * (IntKind.i64.wrap (y4 - 1))))))]) (by exact rfl) .nil)
        by_cases hb12 : y3.length + ([IntKind.u8.wrap (shrK .i64 a1 (IntKind.i64.wrap (8 * (IntKind.i64.wrap (y4 - 1)))))] : List Int).length ≤ 1073741824
        case neg => rw [if_neg hb12] at h; cases h
        rw [if_pos hb12] at h
        refine WL.op (op := .call { callee := (.builtin .append), args := #[(.tmp 11), (.tmp 17)], argTypes := #[22, 22] }) (ty := 22) (d := some 18) (g := none) (by kernel_rfl) (by kernel_rfl) (by kernel_rfl) (Ow.append (ys := ([IntKind.u8.wrap (shrK .i64 a1 (IntKind.i64.wrap (8 * (IntKind.i64.wrap (y4 - 1)))))] : List Int)) (v := .slice (some ⟨b9, 0, none⟩) ([IntKind.u8.wrap (shrK .i64 a1 (IntKind.i64.wrap (8 * (IntKind.i64.wrap (y4 - 1)))))] : List Int).length 1) Hy3 (i := 1) rfl (by kernel_rfl) (by kernel_rfl) (Ho11.src (i := 0) rfl) sl22 ze5 nt22 (by decide) hb12) ?_
        rintro _ _ _ ⟨rfl, AN13, cN13, CN13, rfl, HN13, rfl⟩
        refine WL.rest 8 [0, 1, 2] (L' := [(0, .slice AN13 (y3 ++ ([IntKind.u8.wrap (shrK .i64 a1 (IntKind.i64.wrap (8 * (IntKind.i64.wrap (y4 - 1)))))] : List Int)).length cN13), (1, .int .i64 a1), (2, .int .i64 (IntKind.i64.wrap (y4 - 1)))]) (by kernel_rfl) ?_
        refine QP.blockN ?_
        refine QP.dropAt 0 ?_
        refine QP.pick [0, 1, 2] ?_
        exact QP.meet ⟨kn6, Nat.lt_succ_self _, (y3 ++ ([IntKind.u8.wrap (shrK .i64 a1 (IntKind.i64.wrap (8 * (IntKind.i64.wrap (y4 - 1)))))] : List Int)), (IntKind.i64.wrap (y4 - 1)), h, AN13, cN13, CN13, rfl, rfl, rfl, HN13⟩
      · replace hc := of_decide_eq_false hc
        rw [if_neg hc] at h
        have hc7 := hc
        clear hc
        refine WP.exit ?_
        refine QP.thenE ?_
        refine QP.thenE ?_
        refine QP.blockE ?_
        refine QP.pick [0] ?_
        exact QP.meet ⟨_, Option.some.inj h, Ay3, cy3, Cy3, rfl, rfl, rfl, Hy3⟩
  · rintro _ _ _ ⟨s1, rfl, As1, cs1, Cs1, rfl, rfl, rfl, Hs1⟩
    clear h
    replace h := hk2
    refine WP.seqP [6] (L' := [(6, .slice As1 s1.length cs1)]) (by kernel_rfl) ?_
    refine WP.ret ?_
    obtain rfl := Option.some.inj h
    exact QP.returned [6] [.slice As1 s1.length cs1] _ (by kernel_rfl) (by kernel_rfl) (by kernel_rfl) (fun W hI => ⟨_, _, _, rfl, ⟨As1, cs1, Cs1, rfl, Hs1, rfl, rfl⟩, hI⟩)

/-! ### grapevine/record.Lay: function 47 -/
def record_Lay (k : Nat) (a0 : T39) : Option ((List Int) × Int) := ((record_May a0).bind fun t2 => (if (!t2) = true then some (([] : List Int), 2) else ((record_put k ([] : List Int) a0.f0 1).bind fun t7 => ((record_put k t7 a0.f1 2).bind fun t11 => ((record_put k t11 a0.f2 6).bind fun t15 => ((record_put k t15 a0.f3 2).bind fun t19 => ((record_put k t19 (a0.f4.size : Int) 1).bind fun t23 => (if t23.length + (bytesOf a0.f4).length ≤ 1073741824 then some ((t23 ++ (bytesOf a0.f4)), 0) else none))))))))
set_option maxHeartbeats 4000000 in
theorem record_Lay_calls {B : World} {G : GMap} {Γ : List Chunk} {W : World} (HT : Tabs B G) (k : Nat) (a0 : T39) (r : (List Int) × Int) (h : record_Lay k a0 = some r) (hI : Inv B G (Γ) W) :
    Calls Tryd.prog 47 [.agg #[.int .i64 a0.f0, .int .i64 a0.f1, .int .i64 a0.f2, .int .i64 a0.f3, .string a0.f4]].toArray W (Ret B (fun v G' Γ' => ∃ (AR0 : Option Addr), ∃ (cR0 : Nat), ∃ (CR0 : Chunk), v = .tuple #[.slice AR0 r.1.length cR0, .int .i64 r.2] ∧ Ow (kInt .u8) G' AR0 cR0 r.1 CR0 ∧ G = G' ∧ CR0 :: Γ = Γ')) := by
  refine calls_WP (Γ := Γ) (G := G) (B := B) Tryd.func47 rfl (by kernel_rfl) ?_ hI
  clear hI
  unfold record_Lay at h
  refine WP.seqR ?_
  refine WL.op (op := .box 39 (.tmp 0)) (ty := 0) (d := some 1) (g := none) (by kernel_rfl) (by kernel_rfl) (by kernel_rfl) (Does.new (o := .cells #[.int .i64 a0.f0, .int .i64 a0.f1, .int .i64 a0.f2, .int .i64 a0.f3, .string a0.f4] 39 (0, 0)) (v := fun r => .pointer (some ⟨r, 0, none⟩)) (fun r => by kernel_rfl)) ?_
  rintro _ _ _ ⟨b1, rfl, rfl, rfl⟩
  refine WL.restQ 1 [1] (L' := [(1, .pointer (some ⟨b1, 0, none⟩))]) (by kernel_rfl) ?_
  refine WP.seq ?_
  refine WP.seqR ?_
  refine WL.tell (op := .load 39 (.tmp 1)) (ty := 39) (d := some 5) (g := none) (by kernel_rfl) (by kernel_rfl) (by kernel_rfl) (Tells.load_box (i := 0) (b := b1) (o := 0) (agg := true) (by rfl) ag39 (by kernel_rfl) (fun h => by cases h) (Nat.le_of_ble_eq_true rfl) (v := .agg #[.int .i64 a0.f0, .int .i64 a0.f1, .int .i64 a0.f2, .int .i64 a0.f3, .string a0.f4]) (by kernel_rfl)) ?_
  rw [Option.bind_eq_some_iff] at h
  obtain ⟨t2, ht3, h⟩ := h
  refine WL.op (op := .call { callee := (.value (.func 45)), args := #[(.tmp 5)], argTypes := #[39] }) (ty := 4) (d := some 6) (g := none) (by kernel_rfl) (by kernel_rfl) (by kernel_rfl) (Does.call (f := 45) (args := [.agg #[.int .i64 a0.f0, .int .i64 a0.f1, .int .i64 a0.f2, .int .i64 a0.f3, .string a0.f4]]) (by kernel_rfl) (fun W hI => (record_May_calls HT a0  t2 ht3 hI))) ?_
  rintro _ _ _ ⟨rfl, rfl, rfl⟩
  refine WL.restQ 2 [1, 7] (L' := [(1, .pointer (some ⟨b1, 0, none⟩)), (7, .bool (!t2))]) (by kernel_rfl) ?_
  refine WP.cond (b := (!t2)) (by kernel_rfl) (fun hc => ?_) (fun hc => ?_)
  · replace hc := hc
    rw [if_pos hc] at h
    have hc6 := hc
    clear hc
    refine WP.seqP [2, 3] (L' := [(2, .slice none 0 0), (3, .int .i64 2)]) (by kernel_rfl) ?_
    refine WP.dropAt 0 ?_
    refine WP.ret ?_
    refine QP.thenR ?_
    obtain rfl := Option.some.inj h
    refine QP.addNil ?_
    exact QP.returned [2, 3] [.slice none ([] : List Int).length 0, .int .i64 2] _ (by kernel_rfl) (by kernel_rfl) (by kernel_rfl) (fun W hI => ⟨_, _, _, rfl, ⟨none, 0, [], rfl, (Ow.nil (kInt .u8) _), rfl, rfl⟩, hI⟩)
  · replace hc := (Bool.eq_false_iff.1 hc)
    rw [if_neg hc] at h
    have hc6 := hc
    clear hc
    refine WP.skip ?_
    refine QP.next ?_
    refine WP.pick [1] ?_
    refine WP.seq ?_
    refine WP.any (N := 9) (S := [⟨some 8, [1], []⟩, ⟨some 9, [8], [0]⟩, ⟨some 10, [9], [1]⟩, ⟨some 11, [10], [2]⟩, ⟨some 12, [1], []⟩, ⟨some 13, [12], [4]⟩, ⟨some 14, [13], [5]⟩, ⟨some 15, [11, 14], [3, 6]⟩, ⟨some 4, [15], [0, 1, 2, 3, 4, 5, 6, 7]⟩]) (kw := 9) (G0 := G) (Γ0 := [[(b1, .cells #[.int .i64 a0.f0, .int .i64 a0.f1, .int .i64 a0.f2, .int .i64 a0.f3, .string a0.f4] 39 (0, 0))]]) mo (by kernel_rfl) (fun hS => ?_)
    refine WA.pure [0, 1, 4, 5] [1, 9, 13] (m := 5) (b' := 51) (L' := [(1, .pointer (some ⟨b1, 0, none⟩)), (9, .pointer (some ⟨b1, 0, none⟩)), (13, .pointer (some ⟨b1, 1, none⟩))]) (by kernel_rfl) (NoPanic.then (NoPanic.body)) (Under.mem (C := [(b1, .cells #[.int .i64 a0.f0, .int .i64 a0.f1, .int .i64 a0.f2, .int .i64 a0.f3, .string a0.f4] 39 (0, 0))]) (by repeat first | exact List.Mem.head _ | apply List.Mem.tail)) hS (by kernel_rfl) ?_
    refine WA.tellD [] (i := 2) (m := 4) (b' := 55) (by kernel_rfl) (NoPanic.then (NoPanic.body)) (Under.mem (C := [(b1, .cells #[.int .i64 a0.f0, .int .i64 a0.f1, .int .i64 a0.f2, .int .i64 a0.f3, .string a0.f4] 39 (0, 0))]) (by repeat first | exact List.Mem.head _ | apply List.Mem.tail)) hS (by kernel_rfl) (op := .load 3 (.tmp 9)) (ty := 3) (d := some 10) (g := none) (by kernel_rfl) (by kernel_rfl) (by kernel_rfl) (Tells.load_box (i := 0) (b := b1) (o := 0) (agg := false) (by rfl) ag3 (by kernel_rfl) (fun _ => rfl) (Nat.le_of_ble_eq_true rfl) (v := .int .i64 a0.f0) (by kernel_rfl)) ?_
    refine WA.tellD [] (i := 6) (m := 3) (b' := 119) (by kernel_rfl) (NoPanic.then (NoPanic.body)) (Under.mem (C := [(b1, .cells #[.int .i64 a0.f0, .int .i64 a0.f1, .int .i64 a0.f2, .int .i64 a0.f3, .string a0.f4] 39 (0, 0))]) (by repeat first | exact List.Mem.head _ | apply List.Mem.tail)) hS (by kernel_rfl) (op := .load 3 (.tmp 13)) (ty := 3) (d := some 14) (g := none) (by kernel_rfl) (by kernel_rfl) (by kernel_rfl) (Tells.load_box (i := 0) (b := b1) (o := 1) (agg := false) (by rfl) ag3 (by kernel_rfl) (fun _ => rfl) (Nat.le_of_ble_eq_true rfl) (v := .int .i64 a0.f1) (by kernel_rfl)) ?_
    refine WA.addNil ?_
    rw [Option.bind_eq_some_iff] at h
    obtain ⟨t7, ht8, h⟩ := h
    refine WA.op (i := 3) (m := 2) (b' := 127) (by kernel_rfl) hS (by kernel_rfl) (op := .call { callee := (.value (.func 81)), args := #[(.const (.slice none 0 0)), (.tmp 10), (.const (.int .i64 1))], argTypes := #[22, 3, 3] }) (ty := 22) (d := some 11) (g := none) (by kernel_rfl) (by kernel_rfl) (by kernel_rfl) (Does.call (f := 81) (args := [.slice none ([] : List Int).length 0, .int .i64 a0.f0, .int .i64 1]) (by kernel_rfl) (fun W hI => (record_put_calls k ([] : List Int) a0.f0 1 none 0 [] (Ow.nil (kInt .u8) G) t7 ht8 hI))) ?_
    rintro _ _ _ ⟨AR9, cR9, CR9, rfl, HR9, rfl, rfl⟩
    refine ⟨_, _, Under.refl, (Under.mem (C := [(b1, .cells #[.int .i64 a0.f0, .int .i64 a0.f1, .int .i64 a0.f2, .int .i64 a0.f3, .string a0.f4] 39 (0, 0))]) (by repeat first | exact List.Mem.head _ | apply List.Mem.tail)), ?_⟩
    rw [Option.bind_eq_some_iff] at h
    obtain ⟨t11, ht12, h⟩ := h
    refine WA.op (i := 7) (m := 1) (b' := 255) (by kernel_rfl) hS (by kernel_rfl) (op := .call { callee := (.value (.func 81)), args := #[(.tmp 11), (.tmp 14), (.const (.int .i64 2))], argTypes := #[22, 3, 3] }) (ty := 22) (d := some 15) (g := none) (by kernel_rfl) (by kernel_rfl) (by kernel_rfl) (Does.call (f := 81) (args := [.slice AR9 t7.length cR9, .int .i64 a0.f1, .int .i64 2]) (by kernel_rfl) (fun W hI => (record_put_calls k t7 a0.f1 2 AR9 cR9 CR9 HR9 t11 ht12 hI))) ?_
    rintro _ _ _ ⟨AR13, cR13, CR13, rfl, HR13, rfl, rfl⟩
    refine ⟨_, _, Under.refl, (Under.mem (C := [(b1, .cells #[.int .i64 a0.f0, .int .i64 a0.f1, .int .i64 a0.f2, .int .i64 a0.f3, .string a0.f4] 39 (0, 0))]) (by repeat first | exact List.Mem.head _ | apply List.Mem.tail)), ?_⟩
    refine WA.pure [8] [1, 4] (m := 0) (b' := 511) (L' := [(1, .pointer (some ⟨b1, 0, none⟩)), (4, .slice AR13 t11.length cR13)]) (by kernel_rfl) (NoPanic.then (NoPanic.body)) (Under.mem (C := [(b1, .cells #[.int .i64 a0.f0, .int .i64 a0.f1, .int .i64 a0.f2, .int .i64 a0.f3, .string a0.f4] 39 (0, 0))]) (by repeat first | exact List.Mem.head _ | apply List.Mem.tail)) hS (by kernel_rfl) ?_
    refine WA.done hS (by kernel_rfl) ?_
    refine QP.pick [1, 4] ?_
    refine QP.next ?_
    refine WP.seq ?_
    refine WP.any (N := 14) (S := [⟨some 16, [4], []⟩, ⟨some 17, [1], []⟩, ⟨some 18, [17], [1]⟩, ⟨some 19, [18], [2]⟩, ⟨some 20, [16, 19], [0, 3]⟩, ⟨some 21, [1], []⟩, ⟨some 22, [21], [5]⟩, ⟨some 23, [22], [6]⟩, ⟨some 24, [20, 23], [4, 7]⟩, ⟨some 25, [1], []⟩, ⟨some 26, [25], [9]⟩, ⟨some 27, [26], [10]⟩, ⟨some 28, [24, 27], [8, 11]⟩, ⟨some 4, [28], [0, 1, 2, 3, 4, 5, 6, 7, 8, 9, 10, 11, 12]⟩]) (kw := 14) (G0 := G) (Γ0 := [[(b1, .cells #[.int .i64 a0.f0, .int .i64 a0.f1, .int .i64 a0.f2, .int .i64 a0.f3, .string a0.f4] 39 (0, 0))]]) mo (by kernel_rfl) (fun hS => ?_)
    refine WA.pure [0, 1, 2, 5, 6, 9] [1, 4, 16, 18, 22, 25] (m := 8) (b' := 615) (L' := [(1, .pointer (some ⟨b1, 0, none⟩)), (4, .slice AR13 t11.length cR13), (16, .slice AR13 t11.length cR13), (18, .pointer (some ⟨b1, 2, none⟩)), (22, .pointer (some ⟨b1, 3, none⟩)), (25, .pointer (some ⟨b1, 4, none⟩))]) (by kernel_rfl) (NoPanic.then (NoPanic.body)) (Under.mem (C := [(b1, .cells #[.int .i64 a0.f0, .int .i64 a0.f1, .int .i64 a0.f2, .int .i64 a0.f3, .string a0.f4] 39 (0, 0))]) (by repeat first | exact List.Mem.head _ | apply List.Mem.tail)) hS (by kernel_rfl) ?_
    refine WA.tellD [] (i := 3) (m := 7) (b' := 623) (by kernel_rfl) (NoPanic.then (NoPanic.body)) (Under.mem (C := [(b1, .cells #[.int .i64 a0.f0, .int .i64 a0.f1, .int .i64 a0.f2, .int .i64 a0.f3, .string a0.f4] 39 (0, 0))]) (by repeat first | exact List.Mem.head _ | apply List.Mem.tail)) hS (by kernel_rfl) (op := .load 3 (.tmp 18)) (ty := 3) (d := some 19) (g := none) (by kernel_rfl) (by kernel_rfl) (by kernel_rfl) (Tells.load_box (i := 0) (b := b1) (o := 2) (agg := false) (by rfl) ag3 (by kernel_rfl) (fun _ => rfl) (Nat.le_of_ble_eq_true rfl) (v := .int .i64 a0.f2) (by kernel_rfl)) ?_
    refine WA.tellD [] (i := 7) (m := 6) (b' := 751) (by kernel_rfl) (NoPanic.then (NoPanic.body)) (Under.mem (C := [(b1, .cells #[.int .i64 a0.f0, .int .i64 a0.f1, .int .i64 a0.f2, .int .i64 a0.f3, .string a0.f4] 39 (0, 0))]) (by repeat first | exact List.Mem.head _ | apply List.Mem.tail)) hS (by kernel_rfl) (op := .load 3 (.tmp 22)) (ty := 3) (d := some 23) (g := none) (by kernel_rfl) (by kernel_rfl) (by kernel_rfl) (Tells.load_box (i := 0) (b := b1) (o := 3) (agg := false) (by rfl) ag3 (by kernel_rfl) (fun _ => rfl) (Nat.le_of_ble_eq_true rfl) (v := .int .i64 a0.f3) (by kernel_rfl)) ?_
    refine WA.tellD [] (i := 10) (m := 5) (b' := 1775) (by kernel_rfl) (NoPanic.then (NoPanic.body)) (Under.mem (C := [(b1, .cells #[.int .i64 a0.f0, .int .i64 a0.f1, .int .i64 a0.f2, .int .i64 a0.f3, .string a0.f4] 39 (0, 0))]) (by repeat first | exact List.Mem.head _ | apply List.Mem.tail)) hS (by kernel_rfl) (op := .load 9 (.tmp 25)) (ty := 9) (d := some 26) (g := none) (by kernel_rfl) (by kernel_rfl) (by kernel_rfl) (Tells.load_box (i := 0) (b := b1) (o := 4) (agg := false) (by rfl) ag9 (by kernel_rfl) (fun _ => rfl) (Nat.le_of_ble_eq_true rfl) (v := .string a0.f4) (by kernel_rfl)) ?_
    refine WA.pure [11] [1, 4, 16, 19, 23, 27] (m := 4) (b' := 3823) (L' := [(1, .pointer (some ⟨b1, 0, none⟩)), (4, .slice AR13 t11.length cR13), (16, .slice AR13 t11.length cR13), (19, .int .i64 a0.f2), (23, .int .i64 a0.f3), (27, .int .i64 (a0.f4.size : Int))]) (by kernel_rfl) (NoPanic.then (NoPanic.body)) (Under.mem (C := [(b1, .cells #[.int .i64 a0.f0, .int .i64 a0.f1, .int .i64 a0.f2, .int .i64 a0.f3, .string a0.f4] 39 (0, 0))]) (by repeat first | exact List.Mem.head _ | apply List.Mem.tail)) hS (by kernel_rfl) ?_
    rw [Option.bind_eq_some_iff] at h
    obtain ⟨t15, ht16, h⟩ := h
    refine WA.op (i := 4) (m := 3) (b' := 3839) (by kernel_rfl) hS (by kernel_rfl) (op := .call { callee := (.value (.func 81)), args := #[(.tmp 16), (.tmp 19), (.const (.int .i64 6))], argTypes := #[22, 3, 3] }) (ty := 22) (d := some 20) (g := none) (by kernel_rfl) (by kernel_rfl) (by kernel_rfl) (Does.call (f := 81) (args := [.slice AR13 t11.length cR13, .int .i64 a0.f2, .int .i64 6]) (by kernel_rfl) (fun W hI => (record_put_calls k t11 a0.f2 6 AR13 cR13 CR13 HR13 t15 ht16 hI))) ?_
    rintro _ _ _ ⟨AR17, cR17, CR17, rfl, HR17, rfl, rfl⟩
    refine ⟨_, _, Under.refl, (Under.mem (C := [(b1, .cells #[.int .i64 a0.f0, .int .i64 a0.f1, .int .i64 a0.f2, .int .i64 a0.f3, .string a0.f4] 39 (0, 0))]) (by repeat first | exact List.Mem.head _ | apply List.Mem.tail)), ?_⟩
    rw [Option.bind_eq_some_iff] at h
    obtain ⟨t19, ht20, h⟩ := h
    refine WA.op (i := 8) (m := 2) (b' := 4095) (by kernel_rfl) hS (by kernel_rfl) (op := .call { callee := (.value (.func 81)), args := #[(.tmp 20), (.tmp 23), (.const (.int .i64 2))], argTypes := #[22, 3, 3] }) (ty := 22) (d := some 24) (g := none) (by kernel_rfl) (by kernel_rfl) (by kernel_rfl) (Does.call (f := 81) (args := [.slice AR17 t15.length cR17, .int .i64 a0.f3, .int .i64 2]) (by kernel_rfl) (fun W hI => (record_put_calls k t15 a0.f3 2 AR17 cR17 CR17 HR17 t19 ht20 hI))) ?_
    rintro _ _ _ ⟨AR21, cR21, CR21, rfl, HR21, rfl, rfl⟩
    refine ⟨_, _, Under.refl, (Under.mem (C := [(b1, .cells #[.int .i64 a0.f0, .int .i64 a0.f1, .int .i64 a0.f2, .int .i64 a0.f3, .string a0.f4] 39 (0, 0))]) (by repeat first | exact List.Mem.head _ | apply List.Mem.tail)), ?_⟩
    rw [Option.bind_eq_some_iff] at h
    obtain ⟨t23, ht24, h⟩ := h
    refine WA.op (i := 12) (m := 1) (b' := 8191) (by kernel_rfl) hS (by kernel_rfl) (op := .call { callee := (.value (.func 81)), args := #[(.tmp 24), (.tmp 27), (.const (.int .i64 1))], argTypes := #[22, 3, 3] }) (ty := 22) (d := some 28) (g := none) (by kernel_rfl) (by kernel_rfl) (by kernel_rfl) (Does.call (f := 81) (args := [.slice AR21 t19.length cR21, .int .i64 (a0.f4.size : Int), .int .i64 1]) (by kernel_rfl) (fun W hI => (record_put_calls k t19 (a0.f4.size : Int) 1 AR21 cR21 CR21 HR21 t23 ht24 hI))) ?_
    rintro _ _ _ ⟨AR25, cR25, CR25, rfl, HR25, rfl, rfl⟩
    refine ⟨_, _, Under.refl, (Under.mem (C := [(b1, .cells #[.int .i64 a0.f0, .int .i64 a0.f1, .int .i64 a0.f2, .int .i64 a0.f3, .string a0.f4] 39 (0, 0))]) (by repeat first | exact List.Mem.head _ | apply List.Mem.tail)), ?_⟩
    refine WA.pure [13] [1, 4] (m := 0) (b' := 16383) (L' := [(1, .pointer (some ⟨b1, 0, none⟩)), (4, .slice AR25 t23.length cR25)]) (by kernel_rfl) (NoPanic.then (NoPanic.body)) (Under.mem (C := [(b1, .cells #[.int .i64 a0.f0, .int .i64 a0.f1, .int .i64 a0.f2, .int .i64 a0.f3, .string a0.f4] 39 (0, 0))]) (by repeat first | exact List.Mem.head _ | apply List.Mem.tail)) hS (by kernel_rfl) ?_
    refine WA.done hS (by kernel_rfl) ?_
    refine QP.pick [1, 4] ?_
    refine QP.next ?_
    refine WP.seqR ?_
    refine WL.pure 0 2 [29, 30] (L' := [(29, .slice AR25 t23.length cR25), (30, .pointer (some ⟨b1, 4, none⟩))]) (by kernel_rfl) (by decide) ?_
    refine WL.tell (op := .load 9 (.tmp 30)) (ty := 9) (d := some 31) (g := none) (by kernel_rfl) (by kernel_rfl) (by kernel_rfl) (Tells.load_box (i := 1) (b := b1) (o := 4) (agg := false) (by rfl) ag9 (by kernel_rfl) (fun _ => rfl) (Nat.le_of_ble_eq_true rfl) (v := .string a0.f4) (by kernel_rfl)) ?_
    by_cases hb27 : t23.length + (bytesOf a0.f4).length ≤ 1073741824
    case neg => rw [if_neg hb27] at h; cases h
    rw [if_pos hb27] at h
    refine WL.op (op := .call { callee := (.builtin .append), args := #[(.tmp 29), (.tmp 31)], argTypes := #[22, 9] }) (ty := 22) (d := some 32) (g := none) (by kernel_rfl) (by kernel_rfl) (by kernel_rfl) (Ow.append (ys := (bytesOf a0.f4)) (v := .string a0.f4) HR25 (i := 0) rfl (by kernel_rfl) (by kernel_rfl) (Src.str a0.f4) sl22 ze5 nt9 (by decide) hb27) ?_
    rintro _ _ _ ⟨rfl, AN28, cN28, CN28, rfl, HN28, rfl⟩
    refine WL.restQ 4 [2, 3] (L' := [(2, .slice AN28 (t23 ++ (bytesOf a0.f4)).length cN28), (3, .int .i64 0)]) (by kernel_rfl) ?_
    refine WP.dropAt 1 ?_
    refine WP.ret ?_
    obtain rfl := Option.some.inj h
    exact QP.returned [2, 3] [.slice AN28 (t23 ++ (bytesOf a0.f4)).length cN28, .int .i64 0] _ (by kernel_rfl) (by kernel_rfl) (by kernel_rfl) (fun W hI => ⟨_, _, _, rfl, ⟨AN28, cN28, CN28, rfl, HN28, rfl, rfl⟩, hI⟩)

/-! ### slices.Clone[[]byte,byte]: function 74 -/
def slices_Clone_byte_byte (l0 : List Int) : Option (List Int) := if l0.length ≤ 1073741824 then some l0 else none
set_option maxHeartbeats 4000000 in
theorem slices_Clone_byte_byte_calls {B : World} {G : GMap} {Γ : List Chunk} {W : World} (l0 : List Int) (Al0 : Option Addr) (cl0 : Nat) (Hl0 : Rd (kInt .u8) G Al0 cl0 l0) (r : List Int) (h : slices_Clone_byte_byte l0 = some r) (hI : Inv B G Γ W) :
    Calls Tryd.prog 74 [.slice Al0 l0.length cl0].toArray W (Ret B (fun v G' Γ' => ∃ (AR : Option Addr), ∃ (cR : Nat), ∃ (CR : Chunk), v = .slice AR r.length cR ∧ Ow (kInt .u8) G' AR cR r CR ∧ G = G' ∧ CR :: Γ = Γ')) := by
  refine calls_WP (Γ := Γ) (G := G) (B := B) Tryd.func74 rfl (by kernel_rfl) ?_ hI
  clear hI
  unfold slices_Clone_byte_byte at h
  by_cases hb : l0.length ≤ 1073741824
  case neg => rw [if_neg hb] at h; cases h
  rw [if_pos hb] at h
  obtain rfl := Option.some.inj h
  refine WP.seqP [0] (L' := [(0, .slice Al0 l0.length cl0)]) (by kernel_rfl) ?_
  refine WP.seq ?_
  cases Al0 with
  | none =>
    obtain rfl : l0 = [] := by
      cases l0 with
      | nil => rfl
      | cons x xs => obtain ⟨_, e, _⟩ := Hl0.2 (by simp); cases e
    refine WP.seqP [4] (L' := [(4, .bool true)]) (by kernel_rfl) ?_
    refine WP.yes (by kernel_rfl) ?_
    refine WP.seqP [2] (L' := [(2, .slice none 0 0)]) (by kernel_rfl) ?_
    refine WP.ret ?_
    refine QP.thenR ?_
    refine QP.addNil ?_
    exact QP.returned [2] [.slice none 0 0] _ (by kernel_rfl) (by kernel_rfl) (by kernel_rfl) (fun W hI => ⟨_, _, _, rfl, ⟨none, 0, [], rfl, Ow.nil _ _, rfl, rfl⟩, hI⟩)
  | some a =>
    refine WP.seqP [0, 4] (L' := [(0, .slice (some a) l0.length cl0), (4, .bool false)]) (by kernel_rfl) ?_
    refine WP.no (by kernel_rfl) ?_
    refine WP.skip ?_
    refine QP.next ?_
    refine WP.pick [0] ?_
    refine WP.seqR ?_
    refine WL.op (op := .buildSlice 22 0 #[]) (ty := 22) (d := some 5) (g := none) (by kernel_rfl) (by kernel_rfl) (by kernel_rfl) (Does.new (o := .cells #[] 5 (0, 0)) (v := fun r => .slice (some ⟨r, 0, none⟩) 0 0) (fun r => by kernel_rfl)) ?_
    rintro _ _ _ ⟨b, rfl, rfl, rfl⟩
    have H0 : Ow (kInt .u8) G (some ⟨b, 0, none⟩) 0 ([] : List Int) [(b, .cells #[] 5 (0, 0))] := Ow.lit (kd := (kInt .u8)) (G := G) (b := b) (T := 5) (xs := []) (cs := []) .nil
    refine WL.pure 1 2 [5, 6] (L' := [(5, .slice (some ⟨b, 0, none⟩) 0 0), (6, .slice (some a) l0.length cl0)]) (by kernel_rfl) (by decide) ?_
    refine WL.op (op := .call { callee := (.builtin .append), args := #[(.tmp 5), (.tmp 6)], argTypes := #[22, 22] }) (ty := 22) (d := some 7) (g := none) (by kernel_rfl) (by kernel_rfl) (by kernel_rfl) (Ow.append (ys := l0) (v := .slice (some a) l0.length cl0) H0 (i := 0) rfl (by kernel_rfl) (by kernel_rfl) Hl0.src sl22 ze5 nt22 (by decide) (by simpa using hb)) ?_
    rintro _ _ _ ⟨rfl, A1, c1, C1, rfl, H1, rfl⟩
    refine WL.restQ 3 [2] (L' := [(2, .slice A1 l0.length c1)]) (by kernel_rfl) ?_
    refine WP.ret ?_
    exact QP.returned [2] [.slice A1 l0.length c1] _ (by kernel_rfl) (by kernel_rfl) (by kernel_rfl) (fun W hI => ⟨_, _, _, rfl, ⟨A1, c1, C1, rfl, H1, rfl, rfl⟩, hI⟩)

/-! ### grapevine/frame.Next: function 38 -/
def frame_Next_l0 (t27 : Int) (v34 : List Int) (v37 : Int) : Nat → Int → Option (Sum (Int × (List Int) × Int × Bool) Unit)
  | 0, _ => none
  | k + 1, y41 => (if y41 < v37 then (if 0 ≤ y41 ∧ y41 < (v34.length : Int) then (if 0 ≤ (IntKind.i64.wrap (56 - (IntKind.i64.wrap (8 * y41)))) then (if ¬ (v34.getD y41.toNat 0) = (IntKind.u8.wrap (shrK .u64 t27 (IntKind.i64.wrap (56 - (IntKind.i64.wrap (8 * y41)))))) then some (Sum.inl (0, ([] : List Int), 0, false)) else frame_Next_l0 t27 v34 v37 k (IntKind.i64.wrap (y41 + 1))) else none) else none) else some (Sum.inr ()))
def frame_Next (k : Nat) (l0 : List Int) (a1 : Int) : Option (Int × (List Int) × Int × Bool) := ((if a1 < 0 then some true else (if a1 > (l0.length : Int) then some true else some (decide ((IntKind.i64.wrap ((l0.length : Int) - a1)) < 12)))).bind fun s1 => (if s1 = true then some (0, ([] : List Int), 0, false) else (if 0 ≤ a1 ∧ a1 ≤ (l0.length : Int) ∧ (l0.length : Int) ≤ (l0.length : Int) then ((some ((l0.take (l0.length : Int).toNat).drop a1.toNat)).bind fun v8 => (if 0 ≤ (2 : Int) ∧ (2 : Int) < (v8.length : Int) then (if 0 ≤ (3 : Int) ∧ (3 : Int) < (v8.length : Int) then ((some (IntKind.i64.wrap ((IntKind.i64.wrap (4 + (shlK .i64 (IntKind.i64.wrap (v8.getD (2 : Int).toNat 0)) 8))) + (IntKind.i64.wrap (v8.getD (3 : Int).toNat 0))))).bind fun v13 => ((if 0 ≤ (0 : Int) ∧ (0 : Int) < (v8.length : Int) then (if ¬ (v8.getD (0 : Int).toNat 0) = 71 then some true else (if 0 ≤ (1 : Int) ∧ (1 : Int) < (v8.length : Int) then (if (v8.getD (1 : Int).toNat 0) = 0 then some true else some (decide ((IntKind.i64.wrap ((v8.length : Int) - 8)) < v13))) else none)) else none).bind fun s15 => (if s15 = true then some (0, ([] : List Int), 0, false) else (if 0 ≤ (0 : Int) ∧ (0 : Int) ≤ v13 ∧ v13 ≤ (v8.length : Int) then ((digest_Of k ([((v8.take v13.toNat).drop (0 : Int).toNat)] : List (List Int))).bind fun t27 => (if 0 ≤ v13 ∧ v13 ≤ (IntKind.i64.wrap (v13 + 8)) ∧ (IntKind.i64.wrap (v13 + 8)) ≤ (v8.length : Int) then ((some ((v8.take (IntKind.i64.wrap (v13 + 8)).toNat).drop v13.toNat)).bind fun v34 => ((some (((v8.take (IntKind.i64.wrap (v13 + 8)).toNat).drop v13.toNat).length : Int)).bind fun v37 => ((frame_Next_l0 t27 v34 v37 k 0).bind fun os39 => match os39 with | Sum.inl r => some r | Sum.inr s39 => (if 0 ≤ (1 : Int) ∧ (1 : Int) < (v8.length : Int) then (if 0 ≤ (4 : Int) ∧ (4 : Int) ≤ v13 ∧ v13 ≤ (v8.length : Int) then ((slices_Clone_byte_byte ((v8.take v13.toNat).drop (4 : Int).toNat)).bind fun t51 => some (IntKind.i64.wrap (v8.getD (1 : Int).toNat 0), t51, IntKind.i64.wrap ((IntKind.i64.wrap (a1 + v13)) + 8), true)) else none) else none)))) else none)) else none)))) else none) else none)) else none)))
set_option maxHeartbeats 4000000 in
theorem frame_Next_calls {B : World} {G : GMap} {Γ : List Chunk} {W : World} (k : Nat) (l0 : List Int) (a1 : Int) (Al0 : Option Addr) (cl0 : Nat) (Hl0 : Rd (kInt .u8) G Al0 cl0 l0) (r : Int × (List Int) × Int × Bool) (h : frame_Next k l0 a1 = some r) (hI : Inv B G (Γ) W) :
    Calls Tryd.prog 38 [.slice Al0 l0.length cl0, .int .i64 a1].toArray W (Ret B (fun v G' Γ' => ∃ (AR1 : Option Addr), ∃ (cR1 : Nat), ∃ (CR1 : Chunk), v = .tuple #[.int .i64 r.1, .slice AR1 r.2.1.length cR1, .int .i64 r.2.2.1, .bool r.2.2.2] ∧ Ow (kInt .u8) G' AR1 cR1 r.2.1 CR1 ∧ G = G' ∧ CR1 :: Γ = Γ')) := by
  refine calls_WP (Γ := Γ) (G := G) (B := B) Tryd.func38 rfl (by kernel_rfl) ?_ hI
  clear hI
  unfold frame_Next at h
  refine WP.seqP [0, 1] (L' := [(0, .slice Al0 l0.length cl0), (1, .int .i64 a1)]) (by kernel_rfl) ?_
  refine WP.seq ?_
  rw [Option.bind_eq_some_iff] at h
  obtain ⟨os1, h, hk2⟩ := h
  refine WP.cut (fun L' G' Γ' => ∃ s1 : Bool, s1 = os1 ∧ L' = [(0, .slice Al0 l0.length cl0), (1, .int .i64 a1), (27, .bool s1)] ∧ G = G' ∧ Γ = Γ') ?_ ?_
  · clear hk2
    refine WP.region ?_
    refine WL.pure 0 3 [0, 1, 15] (L' := [(0, .slice Al0 l0.length cl0), (1, .int .i64 a1), (15, .bool (decide (a1 < 0)))]) (by kernel_rfl) (by decide) ?_
    refine WL.split 15 (b := decide (a1 < 0)) (by kernel_rfl) (fun hc => ?_) (fun hc => ?_)
    · replace hc := of_decide_eq_true hc
      rw [if_pos hc] at h
      have hc3 := hc
      clear hc
      refine WL.rest 3 [0, 1, 27] (L' := [(0, .slice Al0 l0.length cl0), (1, .int .i64 a1), (27, .bool true)]) (by kernel_rfl) ?_
      refine QP.pick [0, 1, 27] ?_
      exact QP.meet ⟨_, Option.some.inj h, rfl, rfl, rfl⟩
    · replace hc := of_decide_eq_false hc
      rw [if_neg hc] at h
      have hc3 := hc
      clear hc
      refine WL.pure 3 9 [0, 1, 21] (L' := [(0, .slice Al0 l0.length cl0), (1, .int .i64 a1), (21, .bool (decide (a1 > (l0.length : Int))))]) (by kernel_rfl) (by decide) ?_
      refine WL.split 21 (b := decide (a1 > (l0.length : Int))) (by kernel_rfl) (fun hc => ?_) (fun hc => ?_)
      · replace hc := of_decide_eq_true hc
        rw [if_pos hc] at h
        have hc4 := hc
        clear hc
        refine WL.rest 9 [0, 1, 27] (L' := [(0, .slice Al0 l0.length cl0), (1, .int .i64 a1), (27, .bool true)]) (by kernel_rfl) ?_
        refine QP.pick [0, 1, 27] ?_
        exact QP.meet ⟨_, Option.some.inj h, rfl, rfl, rfl⟩
      · replace hc := of_decide_eq_false hc
        rw [if_neg hc] at h
        have hc4 := hc
        clear hc
        refine WL.rest 9 [0, 1, 27] (L' := [(0, .slice Al0 l0.length cl0), (1, .int .i64 a1), (27, .bool (decide ((IntKind.i64.wrap ((l0.length : Int) - a1)) < 12)))]) (by kernel_rfl) ?_
        refine QP.pick [0, 1, 27] ?_
        exact QP.meet ⟨_, Option.some.inj h, rfl, rfl, rfl⟩
  · rintro _ _ _ ⟨s1, rfl, rfl, rfl, rfl⟩
    clear h
    replace h := hk2
    refine WP.cond (b := s1) (by kernel_rfl) (fun hc => ?_) (fun hc => ?_)
    · replace hc := hc
      rw [if_pos hc] at h
      have hc5 := hc
      clear hc
      refine WP.seqP [4, 5, 6, 7] (L' := [(4, .int .i64 0), (5, .slice none 0 0), (6, .int .i64 0), (7, .bool false)]) (by kernel_rfl) ?_
      refine WP.ret ?_
      refine QP.thenR ?_
      obtain rfl := Option.some.inj h
      refine QP.addNil ?_
      exact QP.returned [4, 5, 6, 7] [.int .i64 0, .slice none ([] : List Int).length 0, .int .i64 0, .bool false] _ (by kernel_rfl) (by kernel_rfl) (by kernel_rfl) (fun W hI => ⟨_, _, _, rfl, ⟨none, 0, [], rfl, (Ow.nil (kInt .u8) _), rfl, rfl⟩, hI⟩)
    · replace hc := (Bool.eq_false_iff.1 hc)
      rw [if_neg hc] at h
      have hc5 := hc
      clear hc
      refine WP.skip ?_
      refine QP.next ?_
      refine WP.pick [0, 1] ?_
      refine WP.seqR ?_
      refine WL.pure 0 2 [1, 28, 29] (L' := [(1, .int .i64 a1), (28, .slice Al0 l0.length cl0), (29, .int .i64 a1)]) (by kernel_rfl) (by decide) ?_
      by_cases hb6 : 0 ≤ a1 ∧ a1 ≤ (l0.length : Int) ∧ (l0.length : Int) ≤ (l0.length : Int)
      case neg => rw [if_neg hb6] at h; cases h
      rw [if_pos hb6] at h
      refine WL.tellS (op := .slice 22 (.tmp 28) (some (.tmp 29)) none none) (ty := 22) (d := some 30) (g := none) (by kernel_rfl) (by kernel_rfl) (by kernel_rfl) (Hl0.slice (l := a1) (h := (l0.length : Int)) (by kernel_rfl) ⟨.i64, by kernel_rfl⟩ rfl hb6.1 hb6.2.1 hb6.2.2 sl22) ?_
      rintro AP7 cP7 HP7
      refine WL.restQ 3 [1, 8] (L' := [(1, .int .i64 a1), (8, .slice AP7 ((l0.take (l0.length : Int).toNat).drop a1.toNat).length cP7)]) (by kernel_rfl) ?_
      obtain ⟨v8, hv9, h⟩ := Option.bind_eq_some_iff.1 h
      replace hv9 := Option.some.inj hv9
      have Hn10 := HP7
      rw [hv9] at Hn10
      refine WP.reput 8 (v := .slice AP7 ((l0.take (l0.length : Int).toNat).drop a1.toNat).length cP7) (v' := .slice AP7 v8.length cP7) (by kernel_rfl) (by subst hv9; rfl) ?_
      refine WP.pick [1, 8] ?_
      refine WP.seq ?_
      refine WP.any (N := 12) (S := [⟨some 31, [8], []⟩, ⟨some 32, [31], [0]⟩, ⟨some 33, [32], [1]⟩, ⟨some 34, [33], [2]⟩, ⟨some 35, [34], [3]⟩, ⟨some 36, [35], [4]⟩, ⟨some 37, [8], []⟩, ⟨some 38, [37], [6]⟩, ⟨some 39, [38], [7]⟩, ⟨some 40, [39], [8]⟩, ⟨some 41, [36, 40], [5, 9]⟩, ⟨some 9, [41], [0, 1, 2, 3, 4, 5, 6, 7, 8, 9, 10]⟩]) (kw := 12) (G0 := G) (Γ0 := Γ) mo (by kernel_rfl) (fun hS => ?_)
      refine WA.pure [0, 6] [1, 8, 31, 37] (m := 10) (b' := 65) (L' := [(1, .int .i64 a1), (8, .slice AP7 v8.length cP7), (31, .slice AP7 v8.length cP7), (37, .slice AP7 v8.length cP7)]) (by kernel_rfl) (NoPanic.then (NoPanic.body)) Under.refl hS (by kernel_rfl) ?_
      by_cases hb11 : 0 ≤ (2 : Int) ∧ (2 : Int) < (v8.length : Int)
      case neg => rw [if_neg hb11] at h; cases h
      rw [if_pos hb11] at h
      refine WA.tellD [] (i := 1) (m := 9) (b' := 67) (by kernel_rfl) (NoPanic.then (NoPanic.body)) Under.refl hS (by kernel_rfl) (op := .indexAddr 22 (.tmp 31) (.const (.int .i64 2))) (ty := 0) (d := some 32) (g := none) (by kernel_rfl) (by kernel_rfl) (by kernel_rfl) (Tells.indexAddr (A := AP7) (n := v8.length) (c := cP7) (k := .i64) (j := 2) (by kernel_rfl) (by kernel_rfl) (Hn10.isSome hb11.1 hb11.2) hb11.1 hb11.2 sl22) ?_
      refine WA.tellDE [] (i := 2) (m := 8) (b' := 71) (by kernel_rfl) (NoPanic.then (NoPanic.body)) Under.refl hS (by kernel_rfl) (op := .load 5 (.tmp 32)) (ty := 5) (d := some 33) (g := none) (by kernel_rfl) (by kernel_rfl) (by kernel_rfl) (Hn10.load (agg := false) hb11.1 hb11.2 0 ag5 (fun _ => rfl) (by kernel_rfl)) ?_
      rintro _ rfl
      refine WA.pure [3, 4, 5] [1, 8, 36, 37] (m := 5) (b' := 127) (L' := [(1, .int .i64 a1), (8, .slice AP7 v8.length cP7), (36, .int .i64 (IntKind.i64.wrap (4 + (shlK .i64 (IntKind.i64.wrap (v8.getD (2 : Int).toNat 0)) 8)))), (37, .slice AP7 v8.length cP7)]) (by kernel_rfl) (NoPanic.then (NoPanic.body)) Under.refl hS (by kernel_rfl) ?_
      by_cases hb12 : 0 ≤ (3 : Int) ∧ (3 : Int) < (v8.length : Int)
      case neg => rw [if_neg hb12] at h; cases h
      rw [if_pos hb12] at h
      refine WA.tellD [] (i := 7) (m := 4) (b' := 255) (by kernel_rfl) (NoPanic.then (NoPanic.body)) Under.refl hS (by kernel_rfl) (op := .indexAddr 22 (.tmp 37) (.const (.int .i64 3))) (ty := 0) (d := some 38) (g := none) (by kernel_rfl) (by kernel_rfl) (by kernel_rfl) (Tells.indexAddr (A := AP7) (n := v8.length) (c := cP7) (k := .i64) (j := 3) (by kernel_rfl) (by kernel_rfl) (Hn10.isSome hb12.1 hb12.2) hb12.1 hb12.2 sl22) ?_
      refine WA.tellDE [] (i := 8) (m := 3) (b' := 511) (by kernel_rfl) (NoPanic.then (NoPanic.body)) Under.refl hS (by kernel_rfl) (op := .load 5 (.tmp 38)) (ty := 5) (d := some 39) (g := none) (by kernel_rfl) (by kernel_rfl) (by kernel_rfl) (Hn10.load (agg := false) hb12.1 hb12.2 0 ag5 (fun _ => rfl) (by kernel_rfl)) ?_
      rintro _ rfl
      refine WA.pure [9, 10, 11] [1, 8, 9] (m := 0) (b' := 4095) (L' := [(1, .int .i64 a1), (8, .slice AP7 v8.length cP7), (9, .int .i64 (IntKind.i64.wrap ((IntKind.i64.wrap (4 + (shlK .i64 (IntKind.i64.wrap (v8.getD (2 : Int).toNat 0)) 8))) + (IntKind.i64.wrap (v8.getD (3 : Int).toNat 0)))))]) (by kernel_rfl) (NoPanic.then (NoPanic.body)) Under.refl hS (by kernel_rfl) ?_
      refine WA.done hS (by kernel_rfl) ?_
      refine QP.pick [1, 8, 9] ?_
      refine QP.next ?_
      obtain ⟨v13, hv14, h⟩ := Option.bind_eq_some_iff.1 h
      replace hv14 := Option.some.inj hv14
      refine WP.reput 9 (v := .int .i64 (IntKind.i64.wrap ((IntKind.i64.wrap (4 + (shlK .i64 (IntKind.i64.wrap (v8.getD (2 : Int).toNat 0)) 8))) + (IntKind.i64.wrap (v8.getD (3 : Int).toNat 0))))) (v' := .int .i64 v13) (by kernel_rfl) (by subst hv14; rfl) ?_
      refine WP.pick [1, 8, 9] ?_
      refine WP.seq ?_
      rw [Option.bind_eq_some_iff] at h
      obtain ⟨os15, h, hk16⟩ := h
      refine WP.cut (fun L' G' Γ' => ∃ s15 : Bool, s15 = os15 ∧ L' = [(1, .int .i64 a1), (8, .slice AP7 v8.length cP7), (9, .int .i64 v13), (58, .bool s15)] ∧ G = G' ∧ Γ = Γ') ?_ ?_
      · clear hk16
        refine WP.region ?_
        refine WL.pure 0 1 [1, 8, 9, 42] (L' := [(1, .int .i64 a1), (8, .slice AP7 v8.length cP7), (9, .int .i64 v13), (42, .slice AP7 v8.length cP7)]) (by kernel_rfl) (by decide) ?_
        by_cases hb17 : 0 ≤ (0 : Int) ∧ (0 : Int) < (v8.length : Int)
        case neg => rw [if_neg hb17] at h; cases h
        rw [if_pos hb17] at h
        refine WL.tell (op := .indexAddr 22 (.tmp 42) (.const (.int .i64 0))) (ty := 0) (d := some 43) (g := none) (by kernel_rfl) (by kernel_rfl) (by kernel_rfl) (Tells.indexAddr (A := AP7) (n := v8.length) (c := cP7) (k := .i64) (j := 0) (by kernel_rfl) (by kernel_rfl) (Hn10.isSome hb17.1 hb17.2) hb17.1 hb17.2 sl22) ?_
        refine WL.tellE (op := .load 5 (.tmp 43)) (ty := 5) (d := some 44) (g := none) (by kernel_rfl) (by kernel_rfl) (by kernel_rfl) (Hn10.load (agg := false) hb17.1 hb17.2 0 ag5 (fun _ => rfl) (by kernel_rfl)) ?_
        rintro _ rfl
        refine WL.pure 3 5 [1, 8, 9, 46] (L' := [(1, .int .i64 a1), (8, .slice AP7 v8.length cP7), (9, .int .i64 v13), (46, .bool ((v8.getD (0 : Int).toNat 0) != 71))]) (by kernel_rfl) (by decide) ?_
        refine WL.split 46 (b := ((v8.getD (0 : Int).toNat 0) != 71)) (by kernel_rfl) (fun hc => ?_) (fun hc => ?_)
        · replace hc := (bne_iff_ne.1 hc)
          rw [if_pos hc] at h
          have hc18 := hc
          clear hc
          refine WL.rest 5 [1, 8, 9, 58] (L' := [(1, .int .i64 a1), (8, .slice AP7 v8.length cP7), (9, .int .i64 v13), (58, .bool true)]) (by kernel_rfl) ?_
          refine QP.pick [1, 8, 9, 58] ?_
          exact QP.meet ⟨_, Option.some.inj h, rfl, rfl, rfl⟩
        · replace hc := (not_not_intro (bne_eq_false_iff_eq.1 hc))
          rw [if_neg hc] at h
          have hc18 := hc
          clear hc
          refine WL.pure 5 6 [1, 8, 9, 46, 47] (L' := [(1, .int .i64 a1), (8, .slice AP7 v8.length cP7), (9, .int .i64 v13), (46, .bool false), (47, .slice AP7 v8.length cP7)]) (by kernel_rfl) (by decide) ?_
          by_cases hb19 : 0 ≤ (1 : Int) ∧ (1 : Int) < (v8.length : Int)
          case neg => rw [if_neg hb19] at h; cases h
          rw [if_pos hb19] at h
          refine WL.tell (op := .indexAddr 22 (.tmp 47) (.const (.int .i64 1))) (ty := 0) (d := some 48) (g := some (4, false)) (by kernel_rfl) (by kernel_rfl) (by kernel_rfl) (Tells.indexAddr (A := AP7) (n := v8.length) (c := cP7) (k := .i64) (j := 1) (by kernel_rfl) (by kernel_rfl) (Hn10.isSome hb19.1 hb19.2) hb19.1 hb19.2 sl22) ?_
          refine WL.tellE (op := .load 5 (.tmp 48)) (ty := 5) (d := some 49) (g := some (4, false)) (by kernel_rfl) (by kernel_rfl) (by kernel_rfl) (Hn10.load (agg := false) hb19.1 hb19.2 0 ag5 (fun _ => rfl) (by kernel_rfl)) ?_
          rintro _ rfl
          refine WL.pure 8 11 [1, 8, 9, 52] (L' := [(1, .int .i64 a1), (8, .slice AP7 v8.length cP7), (9, .int .i64 v13), (52, .bool ((v8.getD (1 : Int).toNat 0) == 0))]) (by kernel_rfl) (by decide) ?_
          refine WL.split 52 (b := ((v8.getD (1 : Int).toNat 0) == 0)) (by kernel_rfl) (fun hc => ?_) (fun hc => ?_)
          · replace hc := eq_of_beq hc
            rw [if_pos hc] at h
            have hc20 := hc
            clear hc
            refine WL.rest 11 [1, 8, 9, 58] (L' := [(1, .int .i64 a1), (8, .slice AP7 v8.length cP7), (9, .int .i64 v13), (58, .bool true)]) (by kernel_rfl) ?_
            refine QP.pick [1, 8, 9, 58] ?_
            exact QP.meet ⟨_, Option.some.inj h, rfl, rfl, rfl⟩
          · replace hc := ne_of_beq_false hc
            rw [if_neg hc] at h
            have hc20 := hc
            clear hc
            refine WL.rest 11 [1, 8, 9, 58] (L' := [(1, .int .i64 a1), (8, .slice AP7 v8.length cP7), (9, .int .i64 v13), (58, .bool (decide ((IntKind.i64.wrap ((v8.length : Int) - 8)) < v13)))]) (by kernel_rfl) ?_
            refine QP.pick [1, 8, 9, 58] ?_
            exact QP.meet ⟨_, Option.some.inj h, rfl, rfl, rfl⟩
      · rintro _ _ _ ⟨s15, rfl, rfl, rfl, rfl⟩
        clear h
        replace h := hk16
        refine WP.cond (b := s15) (by kernel_rfl) (fun hc => ?_) (fun hc => ?_)
        · replace hc := hc
          rw [if_pos hc] at h
          have hc21 := hc
          clear hc
          refine WP.seqP [4, 5, 6, 7] (L' := [(4, .int .i64 0), (5, .slice none 0 0), (6, .int .i64 0), (7, .bool false)]) (by kernel_rfl) ?_
          refine WP.ret ?_
          refine QP.thenR ?_
          obtain rfl := Option.some.inj h
          refine QP.addNil ?_
          exact QP.returned [4, 5, 6, 7] [.int .i64 0, .slice none ([] : List Int).length 0, .int .i64 0, .bool false] _ (by kernel_rfl) (by kernel_rfl) (by kernel_rfl) (fun W hI => ⟨_, _, _, rfl, ⟨none, 0, [], rfl, (Ow.nil (kInt .u8) _), rfl, rfl⟩, hI⟩)
        · replace hc := (Bool.eq_false_iff.1 hc)
          rw [if_neg hc] at h
          have hc21 := hc
          clear hc
          refine WP.skip ?_
          refine QP.next ?_
          refine WP.pick [1, 8, 9] ?_
          refine WP.seqR ?_
          refine WL.pure 0 2 [1, 8, 9, 59, 60] (L' := [(1, .int .i64 a1), (8, .slice AP7 v8.length cP7), (9, .int .i64 v13), (59, .slice AP7 v8.length cP7), (60, .int .i64 v13)]) (by kernel_rfl) (by decide) ?_
          by_cases hb22 : 0 ≤ (0 : Int) ∧ (0 : Int) ≤ v13 ∧ v13 ≤ (v8.length : Int)
          case neg => rw [if_neg hb22] at h; cases h
          rw [if_pos hb22] at h
          refine WL.tellS (op := .slice 22 (.tmp 59) none (some (.tmp 60)) none) (ty := 22) (d := some 61) (g := none) (by kernel_rfl) (by kernel_rfl) (by kernel_rfl) (Hn10.slice (l := 0) (h := v13) (by kernel_rfl) rfl ⟨.i64, by kernel_rfl⟩ hb22.1 hb22.2.1 hb22.2.2 sl22) ?_
          rintro AP23 cP23 HP23
          refine WL.op (op := .buildSlice 121 1 #[(0, (.tmp 61))]) (ty := 121) (d := some 62) (g := none) (by kernel_rfl) (by kernel_rfl) (by kernel_rfl) (Does.new (o := .cells #[.slice AP23 ((v8.take v13.toNat).drop (0 : Int).toNat).length cP23] 22 (0, 0)) (v := fun r => .slice (some ⟨r, 0, none⟩) 1 1) (fun r => by kernel_rfl)) ?_
          rintro _ _ _ ⟨b24, rfl, rfl, rfl⟩
          have Ho26 : Ow (kSlice (kInt .u8)) G (some ⟨b24, 0, none⟩) 1 ([((v8.take v13.toNat).drop (0 : Int).toNat)] : List (List Int)) [(b24, .cells #[.slice AP23 ((v8.take v13.toNat).drop (0 : Int).toNat).length cP23] 22 (0, 0))] := Ow.lit (kd := (kSlice (kInt .u8))) (G := G) (b := b24) (T := 22) (xs := ([((v8.take v13.toNat).drop (0 : Int).toNat)] : List (List Int))) (cs := [.slice AP23 ((v8.take v13.toNat).drop (0 : Int).toNat).length cP23]) (.cons (x := ((v8.take v13.toNat).drop (0 : Int).toNat)) (cs := [.slice AP23 ((v8.take v13.toNat).drop (0 : Int).toNat).length cP23]) ⟨AP23, cP23, rfl, HP23⟩ .nil)
          rw [Option.bind_eq_some_iff] at h
          obtain ⟨t27, ht28, h⟩ := h
          refine WL.op (op := .call { callee := (.value (.func 73)), args := #[(.tmp 62)], argTypes := #[121] }) (ty := 109) (d := some 63) (g := none) (by kernel_rfl) (by kernel_rfl) (by kernel_rfl) (Does.call (Φ := fun v' G' Γ' => v' = .int .u64 t27 ∧ G = G' ∧ [(b24, .cells #[.slice AP23 ((v8.take v13.toNat).drop (0 : Int).toNat).length cP23] 22 (0, 0))] :: Γ = Γ') (f := 73) (args := [.slice (some ⟨b24, 0, none⟩) ([((v8.take v13.toNat).drop (0 : Int).toNat)] : List (List Int)).length 1]) (by kernel_rfl) (fun W hI => (Calls.lendN (Φ := fun v' N => v' = .int .u64 t27 ∧ N = []) (H := []) (i := 0) rfl hI (fun _ e l31 nl31 hI => by subst e; exact (((digest_Of_calls k ([((v8.take v13.toNat).drop (0 : Int).toNat)] : List (List Int)) (some ⟨b24, 0, none⟩) 1 (Ho26.rdN l31 nl31) t27 ht28 hI)).mono fun _ _ hr => by obtain ⟨_, _, _, rfl, hd, hI⟩ := hr; obtain ⟨rfl, rfl, rfl⟩ := hd; exact ⟨_, _, _, rfl, ⟨[], ⟨rfl, rfl⟩, rfl, rfl⟩, hI⟩))).mono fun _ _ hr => by obtain ⟨_, _, _, rfl, ⟨_, hd, rfl, rfl⟩, hI⟩ := hr; obtain ⟨rfl, rfl⟩ := hd; exact ⟨_, _, _, rfl, ⟨rfl, rfl, rfl⟩, hI⟩)) ?_
          rintro _ _ _ ⟨rfl, rfl, rfl⟩
          refine WL.restQ 5 [1, 8, 9, 10] (L' := [(1, .int .i64 a1), (8, .slice AP7 v8.length cP7), (9, .int .i64 v13), (10, .int .u64 t27)]) (by kernel_rfl) ?_
          refine WP.dropAt 0 ?_
          refine WP.seq ?_
          refine WP.seqR ?_
          refine WL.pure 0 4 [1, 8, 9, 10, 64, 65, 67] (L' := [(1, .int .i64 a1), (8, .slice AP7 v8.length cP7), (9, .int .i64 v13), (10, .int .u64 t27), (64, .slice AP7 v8.length cP7), (65, .int .i64 v13), (67, .int .i64 (IntKind.i64.wrap (v13 + 8)))]) (by kernel_rfl) (by decide) ?_
          by_cases hb32 : 0 ≤ v13 ∧ v13 ≤ (IntKind.i64.wrap (v13 + 8)) ∧ (IntKind.i64.wrap (v13 + 8)) ≤ (v8.length : Int)
          case neg => rw [if_neg hb32] at h; cases h
          rw [if_pos hb32] at h
          refine WL.tellS (op := .slice 22 (.tmp 64) (some (.tmp 65)) (some (.tmp 67)) none) (ty := 22) (d := some 68) (g := none) (by kernel_rfl) (by kernel_rfl) (by kernel_rfl) (Hn10.slice (l := v13) (h := (IntKind.i64.wrap (v13 + 8))) (by kernel_rfl) ⟨.i64, by kernel_rfl⟩ ⟨.i64, by kernel_rfl⟩ hb32.1 hb32.2.1 hb32.2.2 sl22) ?_
          rintro AP33 cP33 HP33
          refine WL.restQ 5 [1, 8, 9, 10, 68, 69, 70] (L' := [(1, .int .i64 a1), (8, .slice AP7 v8.length cP7), (9, .int .i64 v13), (10, .int .u64 t27), (68, .slice AP33 ((v8.take (IntKind.i64.wrap (v13 + 8)).toNat).drop v13.toNat).length cP33), (69, .int .i64 (((v8.take (IntKind.i64.wrap (v13 + 8)).toNat).drop v13.toNat).length : Int)), (70, .int .i64 0)]) (by kernel_rfl) ?_
          obtain ⟨v34, hv35, h⟩ := Option.bind_eq_some_iff.1 h
          replace hv35 := Option.some.inj hv35
          have Hn36 := HP33
          rw [hv35] at Hn36
          refine WP.reput 68 (v := .slice AP33 ((v8.take (IntKind.i64.wrap (v13 + 8)).toNat).drop v13.toNat).length cP33) (v' := .slice AP33 v34.length cP33) (by kernel_rfl) (by subst hv35; rfl) ?_
          obtain ⟨v37, hv38, h⟩ := Option.bind_eq_some_iff.1 h
          replace hv38 := Option.some.inj hv38
          refine WP.reput 69 (v := .int .i64 (((v8.take (IntKind.i64.wrap (v13 + 8)).toNat).drop v13.toNat).length : Int)) (v' := .int .i64 v37) (by kernel_rfl) (by subst hv38; rfl) ?_
          refine WP.pick [1, 8, 9, 10, 68, 69, 70] ?_
          rw [Option.bind_eq_some_iff] at h
          obtain ⟨os39, h, hk40⟩ := h
          refine WP.cutQ (fun L' G' Γ' => ∃ s39 : Unit, Sum.inr s39 = os39 ∧ L' = [(1, .int .i64 a1), (8, .slice AP7 v8.length cP7), (9, .int .i64 v13)] ∧ G = G' ∧ Γ = Γ') ?_ ?_
          · skip
            refine WP.block ?_
            refine WP.pick [1, 8, 9, 10, 68, 69, 70] ?_
            refine WP.loopF (fun kn42 L' G' Γ' => ∃ (y41 : Int), frame_Next_l0 t27 v34 v37 kn42 y41 = some os39 ∧ L' = [(1, .int .i64 a1), (8, .slice AP7 v8.length cP7), (9, .int .i64 v13), (10, .int .u64 t27), (68, .slice AP33 v34.length cP33), (69, .int .i64 v37), (70, .int .i64 y41)] ∧ G = G' ∧ Γ = Γ') ?_ k ⟨0, h, rfl, rfl, rfl⟩
            clear h
            rintro kn43 _ _ _ ⟨y41, h, rfl, rfl, rfl⟩
            cases kn43 with
            | zero => exact absurd h (by simp [frame_Next_l0])
            | succ kn43 =>
              simp only [frame_Next_l0] at h
              refine WP.seqP [1, 8, 9, 10, 68, 69, 70, 71] (L' := [(1, .int .i64 a1), (8, .slice AP7 v8.length cP7), (9, .int .i64 v13), (10, .int .u64 t27), (68, .slice AP33 v34.length cP33), (69, .int .i64 v37), (70, .int .i64 y41), (71, .bool (decide (y41 < v37)))]) (by kernel_rfl) ?_
              refine WP.seq ?_
              refine WP.cond (b := decide (y41 < v37)) (by kernel_rfl) (fun hc => ?_) (fun hc => ?_)
              · replace hc := of_decide_eq_true hc
                rw [if_pos hc] at h
                have hc44 := hc
                clear hc
                refine WP.skip ?_
                refine QP.next ?_
                refine WP.pick [1, 8, 9, 10, 68, 69, 70] ?_
                refine WP.seq ?_
                refine WP.block ?_
                refine WP.seqR ?_
                refine WL.pure 0 1 [1, 8, 9, 10, 68, 69, 70, 72] (L' := [(1, .int .i64 a1), (8, .slice AP7 v8.length cP7), (9, .int .i64 v13), (10, .int .u64 t27), (68, .slice AP33 v34.length cP33), (69, .int .i64 v37), (70, .int .i64 y41), (72, .int .i64 y41)]) (by kernel_rfl) (by decide) ?_
                by_cases hb45 : 0 ≤ y41 ∧ y41 < (v34.length : Int)
                case neg => rw [if_neg hb45] at h; cases h
                rw [if_pos hb45] at h
                refine WL.tell (op := .indexAddr 22 (.tmp 68) (.tmp 70)) (ty := 0) (d := some 73) (g := none) (by kernel_rfl) (by kernel_rfl) (by kernel_rfl) (Tells.indexAddr (A := AP33) (n := v34.length) (c := cP33) (k := .i64) (j := y41) (by kernel_rfl) (by kernel_rfl) (Hn36.isSome hb45.1 hb45.2) hb45.1 hb45.2 sl22) ?_
                refine WL.tellE (op := .load 5 (.tmp 73)) (ty := 5) (d := some 74) (g := none) (by kernel_rfl) (by kernel_rfl) (by kernel_rfl) (Hn36.load (agg := false) hb45.1 hb45.2 0 ag5 (fun _ => rfl) (by kernel_rfl)) ?_
                rintro _ rfl
                refine WL.restQ 3 [1, 8, 9, 10, 11, 12, 68, 69, 70] (L' := [(1, .int .i64 a1), (8, .slice AP7 v8.length cP7), (9, .int .i64 v13), (10, .int .u64 t27), (11, .int .i64 y41), (12, .int .u8 (v34.getD y41.toNat 0)), (68, .slice AP33 v34.length cP33), (69, .int .i64 v37), (70, .int .i64 y41)]) (by kernel_rfl) ?_
                refine WP.seqR ?_
                refine WL.pure 0 5 [1, 8, 9, 10, 68, 69, 70, 75, 76, 79] (L' := [(1, .int .i64 a1), (8, .slice AP7 v8.length cP7), (9, .int .i64 v13), (10, .int .u64 t27), (68, .slice AP33 v34.length cP33), (69, .int .i64 v37), (70, .int .i64 y41), (75, .int .u8 (v34.getD y41.toNat 0)), (76, .int .u64 t27), (79, .int .i64 (IntKind.i64.wrap (56 - (IntKind.i64.wrap (8 * y41)))))]) (by kernel_rfl) (by decide) ?_
                by_cases hb46 : 0 ≤ (IntKind.i64.wrap (56 - (IntKind.i64.wrap (8 * y41))))
                case neg => rw [if_neg hb46] at h; cases h
                rw [if_pos hb46] at h
                refine WL.tell (op := .binOp .shr 109 (.tmp 76) (.tmp 79) 3) (ty := 109) (d := some 80) (g := none) (by kernel_rfl) (by kernel_rfl) (by kernel_rfl) (Tells.shr (k := .u64) (k' := .i64) (a := t27) (b := (IntKind.i64.wrap (56 - (IntKind.i64.wrap (8 * y41))))) (by kernel_rfl) (by kernel_rfl) hb46) ?_
                refine WL.restQ 6 [1, 8, 9, 10, 68, 69, 70, 82] (L' := [(1, .int .i64 a1), (8, .slice AP7 v8.length cP7), (9, .int .i64 v13), (10, .int .u64 t27), (68, .slice AP33 v34.length cP33), (69, .int .i64 v37), (70, .int .i64 y41), (82, .bool ((v34.getD y41.toNat 0) != (IntKind.u8.wrap (shrK .u64 t27 (IntKind.i64.wrap (56 - (IntKind.i64.wrap (8 * y41))))))))]) (by kernel_rfl) ?_
                refine WP.cond (b := ((v34.getD y41.toNat 0) != (IntKind.u8.wrap (shrK .u64 t27 (IntKind.i64.wrap (56 - (IntKind.i64.wrap (8 * y41)))))))) (by kernel_rfl) (fun hc => ?_) (fun hc => ?_)
                · replace hc := (bne_iff_ne.1 hc)
                  rw [if_pos hc] at h
                  have hc47 := hc
                  clear hc
                  refine WP.seqP [4, 5, 6, 7] (L' := [(4, .int .i64 0), (5, .slice none 0 0), (6, .int .i64 0), (7, .bool false)]) (by kernel_rfl) ?_
                  refine WP.ret ?_
                  refine QP.blockR ?_
                  refine QP.thenR ?_
                  refine QP.thenR ?_
                  refine QP.blockR ?_
                  refine QP.thenR ?_
                  refine QP.thenR ?_
                  obtain rfl := Option.some.inj h
                  obtain rfl := Option.some.inj (show some _ = some _ from hk40)
                  refine QP.addNil ?_
                  exact QP.returned [4, 5, 6, 7] [.int .i64 0, .slice none ([] : List Int).length 0, .int .i64 0, .bool false] _ (by kernel_rfl) (by kernel_rfl) (by kernel_rfl) (fun W hI => ⟨_, _, _, rfl, ⟨none, 0, [], rfl, (Ow.nil (kInt .u8) _), rfl, rfl⟩, hI⟩)
                · replace hc := (not_not_intro (bne_eq_false_iff_eq.1 hc))
                  rw [if_neg hc] at h
                  have hc47 := hc
                  clear hc
                  refine WP.skip ?_
                  refine QP.blockN ?_
                  refine QP.next ?_
                  refine WP.pick [1, 8, 9, 10, 68, 69, 70] ?_
                  refine WP.regionP [1, 8, 9, 10, 68, 69, 70] (L' := [(1, .int .i64 a1), (8, .slice AP7 v8.length cP7), (9, .int .i64 v13), (10, .int .u64 t27), (68, .slice AP33 v34.length cP33), (69, .int .i64 v37), (70, .int .i64 (IntKind.i64.wrap (y41 + 1)))]) (by kernel_rfl) ?_
                  refine QP.pick [1, 8, 9, 10, 68, 69, 70] ?_
                  exact QP.meet ⟨kn43, Nat.lt_succ_self _, (IntKind.i64.wrap (y41 + 1)), h, rfl, rfl, rfl⟩
              · replace hc := of_decide_eq_false hc
                rw [if_neg hc] at h
                have hc44 := hc
                clear hc
                refine WP.exit ?_
                refine QP.thenE ?_
                refine QP.thenE ?_
                refine QP.blockE ?_
                refine QP.pick [1, 8, 9] ?_
                exact QP.meet ⟨_, Option.some.inj h, rfl, rfl, rfl⟩
          · rintro _ _ _ ⟨s39, rfl, rfl, rfl, rfl⟩
            clear h
            replace h := hk40
            refine QP.next ?_
            refine WP.pick [1, 8, 9] ?_
            refine WP.seq ?_
            refine WP.any (N := 16) (S := [⟨some 84, [8], []⟩, ⟨some 85, [84], [0]⟩, ⟨some 86, [85], [1]⟩, ⟨some 87, [86], [2]⟩, ⟨some 88, [8], []⟩, ⟨some 89, [9], []⟩, ⟨some 90, [88, 89], [4, 5]⟩, ⟨some 91, [90], [6]⟩, ⟨some 92, [1], []⟩, ⟨some 93, [9], []⟩, ⟨some 94, [92, 93], [8, 9]⟩, ⟨some 95, [94], [10]⟩, ⟨some 4, [87], [0, 1, 2, 3, 7]⟩, ⟨some 5, [91], [0, 1, 2, 3, 4, 5, 6, 7, 12]⟩, ⟨some 6, [95], [0, 1, 2, 3, 4, 5, 6, 7, 8, 9, 10, 11, 12, 13]⟩, ⟨some 7, [], [0, 1, 2, 3, 4, 5, 6, 7, 8, 9, 10, 11, 12, 13, 14]⟩]) (kw := 16) (G0 := G) (Γ0 := Γ) mo (by kernel_rfl) (fun hS => ?_)
            refine WA.pure [0, 4, 5, 8, 9, 10, 11] [84, 88, 89, 95] (m := 9) (b' := 3889) (L' := [(84, .slice AP7 v8.length cP7), (88, .slice AP7 v8.length cP7), (89, .int .i64 v13), (95, .int .i64 (IntKind.i64.wrap ((IntKind.i64.wrap (a1 + v13)) + 8)))]) (by kernel_rfl) (NoPanic.then (NoPanic.body)) Under.refl hS (by kernel_rfl) ?_
            by_cases hb48 : 0 ≤ (1 : Int) ∧ (1 : Int) < (v8.length : Int)
            case neg => rw [if_neg hb48] at h; cases h
            rw [if_pos hb48] at h
            refine WA.tellD [] (i := 1) (m := 8) (b' := 3891) (by kernel_rfl) (NoPanic.then (NoPanic.body)) Under.refl hS (by kernel_rfl) (op := .indexAddr 22 (.tmp 84) (.const (.int .i64 1))) (ty := 0) (d := some 85) (g := none) (by kernel_rfl) (by kernel_rfl) (by kernel_rfl) (Tells.indexAddr (A := AP7) (n := v8.length) (c := cP7) (k := .i64) (j := 1) (by kernel_rfl) (by kernel_rfl) (Hn10.isSome hb48.1 hb48.2) hb48.1 hb48.2 sl22) ?_
            refine WA.tellDE [] (i := 2) (m := 7) (b' := 3895) (by kernel_rfl) (NoPanic.then (NoPanic.body)) Under.refl hS (by kernel_rfl) (op := .load 5 (.tmp 85)) (ty := 5) (d := some 86) (g := none) (by kernel_rfl) (by kernel_rfl) (by kernel_rfl) (Hn10.load (agg := false) hb48.1 hb48.2 0 ag5 (fun _ => rfl) (by kernel_rfl)) ?_
            rintro _ rfl
            refine WA.pure [3] [87, 88, 89, 95] (m := 6) (b' := 3903) (L' := [(87, .int .i64 (IntKind.i64.wrap (v8.getD (1 : Int).toNat 0))), (88, .slice AP7 v8.length cP7), (89, .int .i64 v13), (95, .int .i64 (IntKind.i64.wrap ((IntKind.i64.wrap (a1 + v13)) + 8)))]) (by kernel_rfl) (NoPanic.then (NoPanic.body)) Under.refl hS (by kernel_rfl) ?_
            by_cases hb49 : 0 ≤ (4 : Int) ∧ (4 : Int) ≤ v13 ∧ v13 ≤ (v8.length : Int)
            case neg => rw [if_neg hb49] at h; cases h
            rw [if_pos hb49] at h
            refine WA.tellDS [] (i := 6) (m := 5) (b' := 3967) (by kernel_rfl) (NoPanic.then (NoPanic.body)) Under.refl hS (by kernel_rfl) (op := .slice 22 (.tmp 88) (some (.const (.int .i64 4))) (some (.tmp 89)) none) (ty := 22) (d := some 90) (g := none) (by kernel_rfl) (by kernel_rfl) (by kernel_rfl) (Hn10.slice (l := 4) (h := v13) (by kernel_rfl) ⟨.i64, by kernel_rfl⟩ ⟨.i64, by kernel_rfl⟩ hb49.1 hb49.2.1 hb49.2.2 sl22) ?_
            rintro AP50 cP50 HP50
            rw [Option.bind_eq_some_iff] at h
            obtain ⟨t51, ht52, h⟩ := h
            refine WA.op (i := 7) (m := 4) (b' := 4095) (by kernel_rfl) hS (by kernel_rfl) (op := .call { callee := (.value (.func 74)), args := #[(.tmp 90)], argTypes := #[22] }) (ty := 22) (d := some 91) (g := none) (by kernel_rfl) (by kernel_rfl) (by kernel_rfl) (Does.call (f := 74) (args := [.slice AP50 ((v8.take v13.toNat).drop (4 : Int).toNat).length cP50]) (by kernel_rfl) (fun W hI => (slices_Clone_byte_byte_calls ((v8.take v13.toNat).drop (4 : Int).toNat) AP50 cP50 HP50 t51 ht52 hI))) ?_
            rintro _ _ _ ⟨AR53, cR53, CR53, rfl, HR53, rfl, rfl⟩
            refine ⟨_, _, Under.cons (Under.refl), Under.refl, ?_⟩
            refine WA.pure [12, 13, 14, 15] [4, 5, 6, 7] (m := 0) (b' := 65535) (L' := [(4, .int .i64 (IntKind.i64.wrap (v8.getD (1 : Int).toNat 0))), (5, .slice AR53 t51.length cR53), (6, .int .i64 (IntKind.i64.wrap ((IntKind.i64.wrap (a1 + v13)) + 8))), (7, .bool true)]) (by kernel_rfl) (NoPanic.then (NoPanic.body)) Under.refl hS (by kernel_rfl) ?_
            refine WA.done hS (by kernel_rfl) ?_
            refine QP.pick [4, 5, 6, 7] ?_
            refine QP.next ?_
            refine WP.ret ?_
            obtain rfl := Option.some.inj h
            exact QP.returned [4, 5, 6, 7] [.int .i64 (IntKind.i64.wrap (v8.getD (1 : Int).toNat 0)), .slice AR53 t51.length cR53, .int .i64 (IntKind.i64.wrap ((IntKind.i64.wrap (a1 + v13)) + 8)), .bool true] _ (by kernel_rfl) (by kernel_rfl) (by kernel_rfl) (fun W hI => ⟨_, _, _, rfl, ⟨AR53, cR53, CR53, rfl, HR53, rfl, rfl⟩, hI⟩)

/-! ### grapevine/record.number: function 88 -/
def record_number_l0 (l0 : List Int) : Nat → Int → Int → Option Int
  | 0, _, _ => none
  | k + 1, y3, y4 => (if y4 < (l0.length : Int) then (if 0 ≤ y4 ∧ y4 < (l0.length : Int) then record_number_l0 l0 k (IntKind.i64.wrap ((IntKind.i64.wrap (256 * y3)) + (IntKind.i64.wrap (l0.getD y4.toNat 0)))) (IntKind.i64.wrap (y4 + 1)) else none) else some y3)
def record_number (k : Nat) (l0 : List Int) : Option Int := ((record_number_l0 l0 k 0 0).bind fun s1 => some s1)
set_option maxHeartbeats 4000000 in
theorem record_number_calls {B : World} {G : GMap} {Γ : List Chunk} {W : World} (k : Nat) (l0 : List Int) (Al0 : Option Addr) (cl0 : Nat) (Hl0 : Rd (kInt .u8) G Al0 cl0 l0) (r : Int) (h : record_number k l0 = some r) (hI : Inv B G (Γ) W) :
    Calls Tryd.prog 88 [.slice Al0 l0.length cl0].toArray W (Ret B (fun v G' Γ' => v = .int .i64 r ∧ G = G' ∧ Γ = Γ')) := by
  refine calls_WP (Γ := Γ) (G := G) (B := B) Tryd.func88 rfl (by kernel_rfl) ?_ hI
  clear hI
  unfold record_number at h
  refine WP.seqP [0] (L' := [(0, .slice Al0 l0.length cl0)]) (by kernel_rfl) ?_
  refine WP.seqP [0, 3] (L' := [(0, .slice Al0 l0.length cl0), (3, .int .i64 0)]) (by kernel_rfl) ?_
  refine WP.seq ?_
  refine WP.seqP [3, 6, 7, 8] (L' := [(3, .int .i64 0), (6, .slice Al0 l0.length cl0), (7, .int .i64 (l0.length : Int)), (8, .int .i64 0)]) (by kernel_rfl) ?_
  rw [Option.bind_eq_some_iff] at h
  obtain ⟨os1, h, hk2⟩ := h
  refine WP.cutQ (fun L' G' Γ' => ∃ s1 : Int, s1 = os1 ∧ L' = [(3, .int .i64 s1)] ∧ G = G' ∧ Γ = Γ') ?_ ?_
  · clear hk2
    refine WP.block ?_
    refine WP.pick [3, 6, 7, 8] ?_
    refine WP.loopF (fun kn5 L' G' Γ' => ∃ (y3 : Int), ∃ (y4 : Int), record_number_l0 l0 kn5 y3 y4 = some os1 ∧ L' = [(3, .int .i64 y3), (6, .slice Al0 l0.length cl0), (7, .int .i64 (l0.length : Int)), (8, .int .i64 y4)] ∧ G = G' ∧ Γ = Γ') ?_ k ⟨0, 0, h, rfl, rfl, rfl⟩
    clear h
    rintro kn6 _ _ _ ⟨y3, y4, h, rfl, rfl, rfl⟩
    cases kn6 with
    | zero => exact absurd h (by simp [record_number_l0])
    | succ kn6 =>
      simp only [record_number_l0] at h
      refine WP.seqP [3, 6, 7, 8, 9] (L' := [(3, .int .i64 y3), (6, .slice Al0 l0.length cl0), (7, .int .i64 (l0.length : Int)), (8, .int .i64 y4), (9, .bool (decide (y4 < (l0.length : Int))))]) (by kernel_rfl) ?_
      refine WP.seq ?_
      refine WP.cond (b := decide (y4 < (l0.length : Int))) (by kernel_rfl) (fun hc => ?_) (fun hc => ?_)
      · replace hc := of_decide_eq_true hc
        rw [if_pos hc] at h
        have hc7 := hc
        clear hc
        refine WP.skip ?_
        refine QP.next ?_
        refine WP.pick [3, 6, 7, 8] ?_
        refine WP.seq ?_
        refine WP.block ?_
        refine WP.seqR ?_
        by_cases hb8 : 0 ≤ y4 ∧ y4 < (l0.length : Int)
        case neg => rw [if_neg hb8] at h; cases h
        rw [if_pos hb8] at h
        refine WL.tell (op := .indexAddr 22 (.tmp 6) (.tmp 8)) (ty := 0) (d := some 10) (g := none) (by kernel_rfl) (by kernel_rfl) (by kernel_rfl) (Tells.indexAddr (A := Al0) (n := l0.length) (c := cl0) (k := .i64) (j := y4) (by kernel_rfl) (by kernel_rfl) (Hl0.isSome hb8.1 hb8.2) hb8.1 hb8.2 sl22) ?_
        refine WL.tellE (op := .load 5 (.tmp 10)) (ty := 5) (d := some 11) (g := none) (by kernel_rfl) (by kernel_rfl) (by kernel_rfl) (Hl0.load (agg := false) hb8.1 hb8.2 0 ag5 (fun _ => rfl) (by kernel_rfl)) ?_
        rintro _ rfl
        refine WL.restQ 2 [3, 5, 6, 7, 8] (L' := [(3, .int .i64 y3), (5, .int .u8 (l0.getD y4.toNat 0)), (6, .slice Al0 l0.length cl0), (7, .int .i64 (l0.length : Int)), (8, .int .i64 y4)]) (by kernel_rfl) ?_
        refine WP.regionP [3, 6, 7, 8] (L' := [(3, .int .i64 (IntKind.i64.wrap ((IntKind.i64.wrap (256 * y3)) + (IntKind.i64.wrap (l0.getD y4.toNat 0))))), (6, .slice Al0 l0.length cl0), (7, .int .i64 (l0.length : Int)), (8, .int .i64 y4)]) (by kernel_rfl) ?_
        refine QP.blockN ?_
        refine QP.next ?_
        refine WP.pick [3, 6, 7, 8] ?_
        refine WP.regionP [3, 6, 7, 8] (L' := [(3, .int .i64 (IntKind.i64.wrap ((IntKind.i64.wrap (256 * y3)) + (IntKind.i64.wrap (l0.getD y4.toNat 0))))), (6, .slice Al0 l0.length cl0), (7, .int .i64 (l0.length : Int)), (8, .int .i64 (IntKind.i64.wrap (y4 + 1)))]) (by kernel_rfl) ?_
        refine QP.pick [3, 6, 7, 8] ?_
        exact QP.meet ⟨kn6, Nat.lt_succ_self _, (IntKind.i64.wrap ((IntKind.i64.wrap (256 * y3)) + (IntKind.i64.wrap (l0.getD y4.toNat 0)))), (IntKind.i64.wrap (y4 + 1)), h, rfl, rfl, rfl⟩
      · replace hc := of_decide_eq_false hc
        rw [if_neg hc] at h
        have hc7 := hc
        clear hc
        refine WP.exit ?_
        refine QP.thenE ?_
        refine QP.thenE ?_
        refine QP.blockE ?_
        refine QP.pick [3] ?_
        exact QP.meet ⟨_, Option.some.inj h, rfl, rfl, rfl⟩
  · rintro _ _ _ ⟨s1, rfl, rfl, rfl, rfl⟩
    clear h
    replace h := hk2
    refine QP.next ?_
    refine WP.pick [3] ?_
    refine WP.seqP [2] (L' := [(2, .int .i64 s1)]) (by kernel_rfl) ?_
    refine WP.ret ?_
    obtain rfl := Option.some.inj h
    exact QP.returned [2] [.int .i64 s1] _ (by kernel_rfl) (by kernel_rfl) (by kernel_rfl) (fun W hI => ⟨_, _, _, rfl, ⟨rfl, rfl, rfl⟩, hI⟩)

/-! ### grapevine/record.Read: function 76 -/
def record_Read (k : Nat) (l0 : List Int) (a1 : Int) : Option (T39 × Int × Bool) := ((if a1 < 0 then some true else (if a1 > (l0.length : Int) then some true else some (decide ((IntKind.i64.wrap ((l0.length : Int) - a1)) < 12)))).bind fun s2 => (if s2 = true then some ((⟨0, 0, 0, 0, (⟨#[]⟩ : ByteArray)⟩ : T39), 0, false) else (if 0 ≤ a1 ∧ a1 ≤ (l0.length : Int) ∧ (l0.length : Int) ≤ (l0.length : Int) then ((some ((l0.take (l0.length : Int).toNat).drop a1.toNat)).bind fun v9 => (if 0 ≤ (11 : Int) ∧ (11 : Int) < (v9.length : Int) then ((some (IntKind.i64.wrap (v9.getD (11 : Int).toNat 0))).bind fun v13 => (if (IntKind.i64.wrap ((v9.length : Int) - 12)) < v13 then some ((⟨0, 0, 0, 0, (⟨#[]⟩ : ByteArray)⟩ : T39), 0, false) else (if 0 ≤ (0 : Int) ∧ (0 : Int) < (v9.length : Int) then (if 0 ≤ (1 : Int) ∧ (1 : Int) ≤ (3 : Int) ∧ (3 : Int) ≤ (v9.length : Int) then (if 0 ≤ (3 : Int) ∧ (3 : Int) ≤ (9 : Int) ∧ (9 : Int) ≤ (v9.length : Int) then (if 0 ≤ (9 : Int) ∧ (9 : Int) ≤ (11 : Int) ∧ (11 : Int) ≤ (v9.length : Int) then ((record_number k ((v9.take (3 : Int).toNat).drop (1 : Int).toNat)).bind fun t24 => ((record_number k ((v9.take (9 : Int).toNat).drop (3 : Int).toNat)).bind fun t28 => ((record_number k ((v9.take (11 : Int).toNat).drop (9 : Int).toNat)).bind fun t32 => (if 0 ≤ (12 : Int) ∧ (12 : Int) ≤ (IntKind.i64.wrap (12 + v13)) ∧ (IntKind.i64.wrap (12 + v13)) ≤ (v9.length : Int) then ((record_May (⟨IntKind.i64.wrap (v9.getD (0 : Int).toNat 0), t24, t28, t32, (strOfNums ((v9.take (IntKind.i64.wrap (12 + v13)).toNat).drop (12 : Int).toNat))⟩ : T39)).bind fun t38 => (if (!t38) = true then some ((⟨0, 0, 0, 0, (⟨#[]⟩ : ByteArray)⟩ : T39), 0, false) else some ((⟨IntKind.i64.wrap (v9.getD (0 : Int).toNat 0), t24, t28, t32, (strOfNums ((v9.take (IntKind.i64.wrap (12 + v13)).toNat).drop (12 : Int).toNat))⟩ : T39), IntKind.i64.wrap ((IntKind.i64.wrap (a1 + 12)) + v13), true))) else none)))) else none) else none) else none) else none))) else none)) else none)))
set_option maxHeartbeats 4000000 in
theorem record_Read_calls {B : World} {G : GMap} {Γ : List Chunk} {W : World} (HT : Tabs B G) (k : Nat) (l0 : List Int) (a1 : Int) (Al0 : Option Addr) (cl0 : Nat) (Hl0 : Rd (kInt .u8) G Al0 cl0 l0) (r : T39 × Int × Bool) (h : record_Read k l0 a1 = some r) (hI : Inv B G (Γ) W) :
    Calls Tryd.prog 76 [.slice Al0 l0.length cl0, .int .i64 a1].toArray W (Ret B (fun v G' Γ' => v = .tuple #[.agg #[.int .i64 r.1.f0, .int .i64 r.1.f1, .int .i64 r.1.f2, .int .i64 r.1.f3, .string r.1.f4], .int .i64 r.2.1, .bool r.2.2] ∧ G = G' ∧ Γ = Γ')) := by
  refine calls_WP (Γ := Γ) (G := G) (B := B) Tryd.func76 rfl (by kernel_rfl) ?_ hI
  clear hI
  unfold record_Read at h
  refine WP.seqR ?_
  refine WL.op (op := .alloc 39) (ty := 0) (d := some 4) (g := none) (by kernel_rfl) (by kernel_rfl) (by kernel_rfl) (Does.new (o := .cells #[.int .i64 0, .int .i64 0, .int .i64 0, .int .i64 0, .string (⟨#[]⟩ : ByteArray)] 39 (0, 0)) (v := fun r => .pointer (some ⟨r, 0, none⟩)) (fun r => by kernel_rfl)) ?_
  rintro _ _ _ ⟨b1, rfl, rfl, rfl⟩
  refine WL.restQ 1 [0, 1, 4] (L' := [(0, .slice Al0 l0.length cl0), (1, .int .i64 a1), (4, .pointer (some ⟨b1, 0, none⟩))]) (by kernel_rfl) ?_
  refine WP.seq ?_
  rw [Option.bind_eq_some_iff] at h
  obtain ⟨os2, h, hk3⟩ := h
  refine WP.cut (fun L' G' Γ' => ∃ s2 : Bool, s2 = os2 ∧ L' = [(0, .slice Al0 l0.length cl0), (1, .int .i64 a1), (4, .pointer (some ⟨b1, 0, none⟩)), (24, .bool s2)] ∧ G = G' ∧ [(b1, .cells #[.int .i64 0, .int .i64 0, .int .i64 0, .int .i64 0, .string (⟨#[]⟩ : ByteArray)] 39 (0, 0))] :: Γ = Γ') ?_ ?_
  · clear hk3
    refine WP.region ?_
    refine WL.pure 0 3 [0, 1, 4, 12] (L' := [(0, .slice Al0 l0.length cl0), (1, .int .i64 a1), (4, .pointer (some ⟨b1, 0, none⟩)), (12, .bool (decide (a1 < 0)))]) (by kernel_rfl) (by decide) ?_
    refine WL.split 12 (b := decide (a1 < 0)) (by kernel_rfl) (fun hc => ?_) (fun hc => ?_)
    · replace hc := of_decide_eq_true hc
      rw [if_pos hc] at h
      have hc4 := hc
      clear hc
      refine WL.rest 3 [0, 1, 4, 24] (L' := [(0, .slice Al0 l0.length cl0), (1, .int .i64 a1), (4, .pointer (some ⟨b1, 0, none⟩)), (24, .bool true)]) (by kernel_rfl) ?_
      refine QP.pick [0, 1, 4, 24] ?_
      exact QP.meet ⟨_, Option.some.inj h, rfl, rfl, rfl⟩
    · replace hc := of_decide_eq_false hc
      rw [if_neg hc] at h
      have hc4 := hc
      clear hc
      refine WL.pure 3 9 [0, 1, 4, 18] (L' := [(0, .slice Al0 l0.length cl0), (1, .int .i64 a1), (4, .pointer (some ⟨b1, 0, none⟩)), (18, .bool (decide (a1 > (l0.length : Int))))]) (by kernel_rfl) (by decide) ?_
      refine WL.split 18 (b := decide (a1 > (l0.length : Int))) (by kernel_rfl) (fun hc => ?_) (fun hc => ?_)
      · replace hc := of_decide_eq_true hc
        rw [if_pos hc] at h
        have hc5 := hc
        clear hc
        refine WL.rest 9 [0, 1, 4, 24] (L' := [(0, .slice Al0 l0.length cl0), (1, .int .i64 a1), (4, .pointer (some ⟨b1, 0, none⟩)), (24, .bool true)]) (by kernel_rfl) ?_
        refine QP.pick [0, 1, 4, 24] ?_
        exact QP.meet ⟨_, Option.some.inj h, rfl, rfl, rfl⟩
      · replace hc := of_decide_eq_false hc
        rw [if_neg hc] at h
        have hc5 := hc
        clear hc
        refine WL.rest 9 [0, 1, 4, 24] (L' := [(0, .slice Al0 l0.length cl0), (1, .int .i64 a1), (4, .pointer (some ⟨b1, 0, none⟩)), (24, .bool (decide ((IntKind.i64.wrap ((l0.length : Int) - a1)) < 12)))]) (by kernel_rfl) ?_
        refine QP.pick [0, 1, 4, 24] ?_
        exact QP.meet ⟨_, Option.some.inj h, rfl, rfl, rfl⟩
  · rintro _ _ _ ⟨s2, rfl, rfl, rfl, rfl⟩
    clear h
    replace h := hk3
    refine WP.cond (b := s2) (by kernel_rfl) (fun hc => ?_) (fun hc => ?_)
    · replace hc := hc
      rw [if_pos hc] at h
      have hc6 := hc
      clear hc
      refine WP.seqR ?_
      refine WL.pure 0 1 [4, 25] (L' := [(4, .pointer (some ⟨b1, 0, none⟩)), (25, .agg #[.int .i64 0, .int .i64 0, .int .i64 0, .int .i64 0, .string (⟨#[]⟩ : ByteArray)])]) (by kernel_rfl) (by decide) ?_
      refine WL.op (op := .store 39 (.tmp 4) (.tmp 25)) (ty := 0) (d := none) (g := none) (by kernel_rfl) (by kernel_rfl) (by kernel_rfl) (Does.store_box (i := 0) (b := b1) (o := 0) (v := .agg #[.int .i64 0, .int .i64 0, .int .i64 0, .int .i64 0, .string (⟨#[]⟩ : ByteArray)]) (by rfl) sz39 (by kernel_rfl) (by kernel_rfl) (by kernel_rfl) (Free.zero _) (Nat.le_of_ble_eq_true rfl) (cells' := #[.int .i64 0, .int .i64 0, .int .i64 0, .int .i64 0, .string (⟨#[]⟩ : ByteArray)]) (by kernel_rfl)) ?_
      rintro _ _ _ ⟨rfl, rfl, rfl⟩
      refine WL.restQ 2 [4, 5, 6] (L' := [(4, .pointer (some ⟨b1, 0, none⟩)), (5, .int .i64 0), (6, .bool false)]) (by kernel_rfl) ?_
      refine WP.ret ?_
      refine QP.thenR ?_
      obtain rfl := Option.some.inj h
      exact QP.returnedM (rs := [.cell 4 39, .tmp 5, .tmp 6]) (by kernel_rfl) (ResAll.cons (Res1.box (p := 4) (i := 0) (o := 0) (agg := true) (by rfl) ag39 (by kernel_rfl) (fun h => by cases h) (Nat.le_of_ble_eq_true rfl) (v := .agg #[.int .i64 0, .int .i64 0, .int .i64 0, .int .i64 0, .string (⟨#[]⟩ : ByteArray)]) (by kernel_rfl)) (ResAll.cons (Res1.tmp (t := 5) (v := .int .i64 0) (by kernel_rfl)) (ResAll.cons (Res1.tmp (t := 6) (v := .bool false) (by kernel_rfl)) ResAll.nil))) (by kernel_rfl) (fun W hI => ⟨_, _, _, rfl, ⟨rfl, rfl, rfl⟩, (hI.less 0 rfl)⟩)
    · replace hc := (Bool.eq_false_iff.1 hc)
      rw [if_neg hc] at h
      have hc6 := hc
      clear hc
      refine WP.skip ?_
      refine QP.next ?_
      refine WP.pick [0, 1, 4] ?_
      refine WP.seqR ?_
      refine WL.pure 0 2 [1, 4, 26, 27] (L' := [(1, .int .i64 a1), (4, .pointer (some ⟨b1, 0, none⟩)), (26, .slice Al0 l0.length cl0), (27, .int .i64 a1)]) (by kernel_rfl) (by decide) ?_
      by_cases hb7 : 0 ≤ a1 ∧ a1 ≤ (l0.length : Int) ∧ (l0.length : Int) ≤ (l0.length : Int)
      case neg => rw [if_neg hb7] at h; cases h
      rw [if_pos hb7] at h
      refine WL.tellS (op := .slice 22 (.tmp 26) (some (.tmp 27)) none none) (ty := 22) (d := some 28) (g := none) (by kernel_rfl) (by kernel_rfl) (by kernel_rfl) (Hl0.slice (l := a1) (h := (l0.length : Int)) (by kernel_rfl) ⟨.i64, by kernel_rfl⟩ rfl hb7.1 hb7.2.1 hb7.2.2 sl22) ?_
      rintro AP8 cP8 HP8
      refine WL.restQ 3 [1, 4, 7] (L' := [(1, .int .i64 a1), (4, .pointer (some ⟨b1, 0, none⟩)), (7, .slice AP8 ((l0.take (l0.length : Int).toNat).drop a1.toNat).length cP8)]) (by kernel_rfl) ?_
      obtain ⟨v9, hv10, h⟩ := Option.bind_eq_some_iff.1 h
      replace hv10 := Option.some.inj hv10
      have Hn11 := HP8
      rw [hv10] at Hn11
      refine WP.reput 7 (v := .slice AP8 ((l0.take (l0.length : Int).toNat).drop a1.toNat).length cP8) (v' := .slice AP8 v9.length cP8) (by kernel_rfl) (by subst hv10; rfl) ?_
      refine WP.pick [1, 4, 7] ?_
      refine WP.seqR ?_
      refine WL.pure 0 1 [1, 4, 7, 29] (L' := [(1, .int .i64 a1), (4, .pointer (some ⟨b1, 0, none⟩)), (7, .slice AP8 v9.length cP8), (29, .slice AP8 v9.length cP8)]) (by kernel_rfl) (by decide) ?_
      by_cases hb12 : 0 ≤ (11 : Int) ∧ (11 : Int) < (v9.length : Int)
      case neg => rw [if_neg hb12] at h; cases h
      rw [if_pos hb12] at h
      refine WL.tell (op := .indexAddr 22 (.tmp 29) (.const (.int .i64 11))) (ty := 0) (d := some 30) (g := none) (by kernel_rfl) (by kernel_rfl) (by kernel_rfl) (Tells.indexAddr (A := AP8) (n := v9.length) (c := cP8) (k := .i64) (j := 11) (by kernel_rfl) (by kernel_rfl) (Hn11.isSome hb12.1 hb12.2) hb12.1 hb12.2 sl22) ?_
      refine WL.tellE (op := .load 5 (.tmp 30)) (ty := 5) (d := some 31) (g := none) (by kernel_rfl) (by kernel_rfl) (by kernel_rfl) (Hn11.load (agg := false) hb12.1 hb12.2 0 ag5 (fun _ => rfl) (by kernel_rfl)) ?_
      rintro _ rfl
      refine WL.restQ 3 [1, 4, 7, 8] (L' := [(1, .int .i64 a1), (4, .pointer (some ⟨b1, 0, none⟩)), (7, .slice AP8 v9.length cP8), (8, .int .i64 (IntKind.i64.wrap (v9.getD (11 : Int).toNat 0)))]) (by kernel_rfl) ?_
      obtain ⟨v13, hv14, h⟩ := Option.bind_eq_some_iff.1 h
      replace hv14 := Option.some.inj hv14
      refine WP.reput 8 (v := .int .i64 (IntKind.i64.wrap (v9.getD (11 : Int).toNat 0))) (v' := .int .i64 v13) (by kernel_rfl) (by subst hv14; rfl) ?_
      refine WP.pick [1, 4, 7, 8] ?_
      refine WP.seq ?_
      refine WP.seqP [1, 4, 7, 8, 37] (L' := [(1, .int .i64 a1), (4, .pointer (some ⟨b1, 0, none⟩)), (7, .slice AP8 v9.length cP8), (8, .int .i64 v13), (37, .bool (decide ((IntKind.i64.wrap ((v9.length : Int) - 12)) < v13)))]) (by kernel_rfl) ?_
      refine WP.cond (b := decide ((IntKind.i64.wrap ((v9.length : Int) - 12)) < v13)) (by kernel_rfl) (fun hc => ?_) (fun hc => ?_)
      · replace hc := of_decide_eq_true hc
        rw [if_pos hc] at h
        have hc15 := hc
        clear hc
        refine WP.seqR ?_
        refine WL.pure 0 1 [4, 38] (L' := [(4, .pointer (some ⟨b1, 0, none⟩)), (38, .agg #[.int .i64 0, .int .i64 0, .int .i64 0, .int .i64 0, .string (⟨#[]⟩ : ByteArray)])]) (by kernel_rfl) (by decide) ?_
        refine WL.op (op := .store 39 (.tmp 4) (.tmp 38)) (ty := 0) (d := none) (g := none) (by kernel_rfl) (by kernel_rfl) (by kernel_rfl) (Does.store_box (i := 0) (b := b1) (o := 0) (v := .agg #[.int .i64 0, .int .i64 0, .int .i64 0, .int .i64 0, .string (⟨#[]⟩ : ByteArray)]) (by rfl) sz39 (by kernel_rfl) (by kernel_rfl) (by kernel_rfl) (Free.zero _) (Nat.le_of_ble_eq_true rfl) (cells' := #[.int .i64 0, .int .i64 0, .int .i64 0, .int .i64 0, .string (⟨#[]⟩ : ByteArray)]) (by kernel_rfl)) ?_
        rintro _ _ _ ⟨rfl, rfl, rfl⟩
        refine WL.restQ 2 [4, 5, 6] (L' := [(4, .pointer (some ⟨b1, 0, none⟩)), (5, .int .i64 0), (6, .bool false)]) (by kernel_rfl) ?_
        refine WP.ret ?_
        refine QP.thenR ?_
        obtain rfl := Option.some.inj h
        exact QP.returnedM (rs := [.cell 4 39, .tmp 5, .tmp 6]) (by kernel_rfl) (ResAll.cons (Res1.box (p := 4) (i := 0) (o := 0) (agg := true) (by rfl) ag39 (by kernel_rfl) (fun h => by cases h) (Nat.le_of_ble_eq_true rfl) (v := .agg #[.int .i64 0, .int .i64 0, .int .i64 0, .int .i64 0, .string (⟨#[]⟩ : ByteArray)]) (by kernel_rfl)) (ResAll.cons (Res1.tmp (t := 5) (v := .int .i64 0) (by kernel_rfl)) (ResAll.cons (Res1.tmp (t := 6) (v := .bool false) (by kernel_rfl)) ResAll.nil))) (by kernel_rfl) (fun W hI => ⟨_, _, _, rfl, ⟨rfl, rfl, rfl⟩, (hI.less 0 rfl)⟩)
      · replace hc := of_decide_eq_false hc
        rw [if_neg hc] at h
        have hc15 := hc
        clear hc
        refine WP.skip ?_
        refine QP.next ?_
        refine WP.pick [1, 4, 7, 8] ?_
        refine WP.seqR ?_
        refine WL.op (op := .alloc 39) (ty := 0) (d := some 9) (g := none) (by kernel_rfl) (by kernel_rfl) (by kernel_rfl) (Does.new (o := .cells #[.int .i64 0, .int .i64 0, .int .i64 0, .int .i64 0, .string (⟨#[]⟩ : ByteArray)] 39 (0, 0)) (v := fun r => .pointer (some ⟨r, 0, none⟩)) (fun r => by kernel_rfl)) ?_
        rintro _ _ _ ⟨b16, rfl, rfl, rfl⟩
        refine WL.restQ 1 [1, 4, 7, 8, 9] (L' := [(1, .int .i64 a1), (4, .pointer (some ⟨b1, 0, none⟩)), (7, .slice AP8 v9.length cP8), (8, .int .i64 v13), (9, .pointer (some ⟨b16, 0, none⟩))]) (by kernel_rfl) ?_
        refine WP.seq ?_
        refine WP.any (N := 25) (S := [⟨some 39, [7], []⟩, ⟨some 40, [39], [0]⟩, ⟨some 41, [40], [1]⟩, ⟨some 42, [41], [2]⟩, ⟨some 43, [7], []⟩, ⟨some 44, [43], [4]⟩, ⟨some 45, [44], [5]⟩, ⟨some 46, [7], []⟩, ⟨some 47, [46], [7]⟩, ⟨some 48, [47], [6, 8]⟩, ⟨some 49, [7], []⟩, ⟨some 50, [49], [10]⟩, ⟨some 51, [50], [9, 11]⟩, ⟨some 52, [9], [0, 1, 2, 3]⟩, ⟨some 53, [52], [0, 1, 2, 3, 13]⟩, ⟨none, [42, 53], [0, 1, 2, 3, 12, 14]⟩, ⟨some 54, [9], [0, 1, 2, 3, 4, 5, 6, 13, 14, 15]⟩, ⟨some 55, [54], [0, 1, 2, 3, 4, 5, 6, 13, 14, 15, 16]⟩, ⟨none, [45, 55], [0, 1, 2, 3, 4, 5, 6, 13, 14, 15, 17]⟩, ⟨some 56, [9], [0, 1, 2, 3, 4, 5, 6, 7, 8, 9, 13, 14, 15, 16, 17, 18]⟩, ⟨some 57, [56], [0, 1, 2, 3, 4, 5, 6, 7, 8, 9, 13, 14, 15, 16, 17, 18, 19]⟩, ⟨none, [48, 57], [0, 1, 2, 3, 4, 5, 6, 7, 8, 9, 13, 14, 15, 16, 17, 18, 20]⟩, ⟨some 58, [9], [0, 1, 2, 3, 4, 5, 6, 7, 8, 9, 10, 11, 12, 13, 14, 15, 16, 17, 18, 19, 20, 21]⟩, ⟨some 59, [58], [0, 1, 2, 3, 4, 5, 6, 7, 8, 9, 10, 11, 12, 13, 14, 15, 16, 17, 18, 19, 20, 21, 22]⟩, ⟨none, [51, 59], [0, 1, 2, 3, 4, 5, 6, 7, 8, 9, 10, 11, 12, 13, 14, 15, 16, 17, 18, 19, 20, 21, 23]⟩]) (kw := 15) (G0 := G) (Γ0 := [(b16, .cells #[.int .i64 0, .int .i64 0, .int .i64 0, .int .i64 0, .string (⟨#[]⟩ : ByteArray)] 39 (0, 0))] :: [(b1, .cells #[.int .i64 0, .int .i64 0, .int .i64 0, .int .i64 0, .string (⟨#[]⟩ : ByteArray)] 39 (0, 0))] :: Γ) mo (by kernel_rfl) (fun hS => ?_)
        refine WA.pure [0, 4, 7, 10] [1, 4, 7, 8, 9, 39, 43, 46, 49] (m := 21) (b' := 1169) (L' := [(1, .int .i64 a1), (4, .pointer (some ⟨b1, 0, none⟩)), (7, .slice AP8 v9.length cP8), (8, .int .i64 v13), (9, .pointer (some ⟨b16, 0, none⟩)), (39, .slice AP8 v9.length cP8), (43, .slice AP8 v9.length cP8), (46, .slice AP8 v9.length cP8), (49, .slice AP8 v9.length cP8)]) (by kernel_rfl) (NoPanic.then (NoPanic.body)) Under.refl hS (by kernel_rfl) ?_
        by_cases hb17 : 0 ≤ (0 : Int) ∧ (0 : Int) < (v9.length : Int)
        case neg => rw [if_neg hb17] at h; cases h
        rw [if_pos hb17] at h
        refine WA.tellD [15] (i := 1) (m := 20) (b' := 1171) (by kernel_rfl) (NoPanic.then (NoPanic.body)) Under.refl hS (by kernel_rfl) (op := .indexAddr 22 (.tmp 39) (.const (.int .i64 0))) (ty := 0) (d := some 40) (g := none) (by kernel_rfl) (by kernel_rfl) (by kernel_rfl) (Tells.indexAddr (A := AP8) (n := v9.length) (c := cP8) (k := .i64) (j := 0) (by kernel_rfl) (by kernel_rfl) (Hn11.isSome hb17.1 hb17.2) hb17.1 hb17.2 sl22) ?_
        refine WA.tellDE [15] (i := 2) (m := 19) (b' := 1175) (by kernel_rfl) (NoPanic.then (NoPanic.body)) Under.refl hS (by kernel_rfl) (op := .load 5 (.tmp 40)) (ty := 5) (d := some 41) (g := none) (by kernel_rfl) (by kernel_rfl) (by kernel_rfl) (Hn11.load (agg := false) hb17.1 hb17.2 0 ag5 (fun _ => rfl) (by kernel_rfl)) ?_
        rintro _ rfl
        refine WA.pure [3, 13, 14] [1, 4, 7, 8, 9, 42, 43, 46, 49, 53] (m := 16) (b' := 25759) (L' := [(1, .int .i64 a1), (4, .pointer (some ⟨b1, 0, none⟩)), (7, .slice AP8 v9.length cP8), (8, .int .i64 v13), (9, .pointer (some ⟨b16, 0, none⟩)), (42, .int .i64 (IntKind.i64.wrap (v9.getD (0 : Int).toNat 0))), (43, .slice AP8 v9.length cP8), (46, .slice AP8 v9.length cP8), (49, .slice AP8 v9.length cP8), (53, .pointer (some ⟨b16, 0, none⟩))]) (by kernel_rfl) (NoPanic.then (NoPanic.body)) Under.refl hS (by kernel_rfl) ?_
        by_cases hb18 : 0 ≤ (1 : Int) ∧ (1 : Int) ≤ (3 : Int) ∧ (3 : Int) ≤ (v9.length : Int)
        case neg => rw [if_neg hb18] at h; cases h
        rw [if_pos hb18] at h
        refine WA.tellDS [15, 12, 9, 6] (i := 5) (m := 15) (b' := 25791) (by kernel_rfl) (NoPanic.then (NoPanic.body)) Under.refl hS (by kernel_rfl) (op := .slice 22 (.tmp 43) (some (.const (.int .i64 1))) (some (.const (.int .i64 3))) none) (ty := 22) (d := some 44) (g := none) (by kernel_rfl) (by kernel_rfl) (by kernel_rfl) (Hn11.slice (l := 1) (h := 3) (by kernel_rfl) ⟨.i64, by kernel_rfl⟩ ⟨.i64, by kernel_rfl⟩ hb18.1 hb18.2.1 hb18.2.2 sl22) ?_
        rintro AP19 cP19 HP19
        by_cases hb20 : 0 ≤ (3 : Int) ∧ (3 : Int) ≤ (9 : Int) ∧ (9 : Int) ≤ (v9.length : Int)
        case neg => rw [if_neg hb20] at h; cases h
        rw [if_pos hb20] at h
        refine WA.tellDS [15, 12, 9] (i := 8) (m := 14) (b' := 26047) (by kernel_rfl) (NoPanic.then (NoPanic.body)) Under.refl hS (by kernel_rfl) (op := .slice 22 (.tmp 46) (some (.const (.int .i64 3))) (some (.const (.int .i64 9))) none) (ty := 22) (d := some 47) (g := none) (by kernel_rfl) (by kernel_rfl) (by kernel_rfl) (Hn11.slice (l := 3) (h := 9) (by kernel_rfl) ⟨.i64, by kernel_rfl⟩ ⟨.i64, by kernel_rfl⟩ hb20.1 hb20.2.1 hb20.2.2 sl22) ?_
        rintro AP21 cP21 HP21
        by_cases hb22 : 0 ≤ (9 : Int) ∧ (9 : Int) ≤ (11 : Int) ∧ (11 : Int) ≤ (v9.length : Int)
        case neg => rw [if_neg hb22] at h; cases h
        rw [if_pos hb22] at h
        refine WA.tellDS [15, 12] (i := 11) (m := 13) (b' := 28095) (by kernel_rfl) (NoPanic.then (NoPanic.body)) Under.refl hS (by kernel_rfl) (op := .slice 22 (.tmp 49) (some (.const (.int .i64 9))) (some (.const (.int .i64 11))) none) (ty := 22) (d := some 50) (g := none) (by kernel_rfl) (by kernel_rfl) (by kernel_rfl) (Hn11.slice (l := 9) (h := 11) (by kernel_rfl) ⟨.i64, by kernel_rfl⟩ ⟨.i64, by kernel_rfl⟩ hb22.1 hb22.2.1 hb22.2.2 sl22) ?_
        rintro AP23 cP23 HP23
        rw [Option.bind_eq_some_iff] at h
        obtain ⟨t24, ht25, h⟩ := h
        refine WA.op (i := 6) (m := 12) (b' := 28159) (by kernel_rfl) hS (by kernel_rfl) (op := .call { callee := (.value (.func 88)), args := #[(.tmp 44)], argTypes := #[22] }) (ty := 3) (d := some 45) (g := none) (by kernel_rfl) (by kernel_rfl) (by kernel_rfl) (Does.call (f := 88) (args := [.slice AP19 ((v9.take (3 : Int).toNat).drop (1 : Int).toNat).length cP19]) (by kernel_rfl) (fun W hI => (record_number_calls k ((v9.take (3 : Int).toNat).drop (1 : Int).toNat) AP19 cP19 HP19 t24 ht25 hI))) ?_
        rintro _ _ _ ⟨rfl, rfl, rfl⟩
        refine ⟨_, _, Under.refl, Under.refl, ?_⟩
        rw [Option.bind_eq_some_iff] at h
        obtain ⟨t28, ht29, h⟩ := h
        refine WA.op (i := 9) (m := 11) (b' := 28671) (by kernel_rfl) hS (by kernel_rfl) (op := .call { callee := (.value (.func 88)), args := #[(.tmp 47)], argTypes := #[22] }) (ty := 3) (d := some 48) (g := none) (by kernel_rfl) (by kernel_rfl) (by kernel_rfl) (Does.call (f := 88) (args := [.slice AP21 ((v9.take (9 : Int).toNat).drop (3 : Int).toNat).length cP21]) (by kernel_rfl) (fun W hI => (record_number_calls k ((v9.take (9 : Int).toNat).drop (3 : Int).toNat) AP21 cP21 HP21 t28 ht29 hI))) ?_
        rintro _ _ _ ⟨rfl, rfl, rfl⟩
        refine ⟨_, _, Under.refl, Under.refl, ?_⟩
        rw [Option.bind_eq_some_iff] at h
        obtain ⟨t32, ht33, h⟩ := h
        refine WA.op (i := 12) (m := 10) (b' := 32767) (by kernel_rfl) hS (by kernel_rfl) (op := .call { callee := (.value (.func 88)), args := #[(.tmp 50)], argTypes := #[22] }) (ty := 3) (d := some 51) (g := none) (by kernel_rfl) (by kernel_rfl) (by kernel_rfl) (Does.call (f := 88) (args := [.slice AP23 ((v9.take (11 : Int).toNat).drop (9 : Int).toNat).length cP23]) (by kernel_rfl) (fun W hI => (record_number_calls k ((v9.take (11 : Int).toNat).drop (9 : Int).toNat) AP23 cP23 HP23 t32 ht33 hI))) ?_
        rintro _ _ _ ⟨rfl, rfl, rfl⟩
        refine ⟨_, _, Under.refl, Under.refl, ?_⟩
        refine WA.opK (i := 15) (kw' := 18) (m := 9) (b' := 65535) (by kernel_rfl) rfl hS (by kernel_rfl) (op := .store 3 (.tmp 53) (.tmp 42)) (ty := 0) (d := none) (g := none) (by kernel_rfl) (by kernel_rfl) (by kernel_rfl) (Does.store_box (i := 0) (b := b16) (o := 0) (v := .int .i64 (IntKind.i64.wrap (v9.getD (0 : Int).toNat 0))) (by rfl) sz3 (by kernel_rfl) (by kernel_rfl) (by kernel_rfl) (Free.zero _) (Nat.le_of_ble_eq_true rfl) (cells' := #[.int .i64 (IntKind.i64.wrap (v9.getD (0 : Int).toNat 0)), .int .i64 0, .int .i64 0, .int .i64 0, .string (⟨#[]⟩ : ByteArray)]) (by kernel_rfl)) ?_
        rintro _ _ _ ⟨rfl, rfl, rfl⟩
        refine ⟨_, _, Under.refl, ?_⟩
        refine WA.pure [16, 17] [1, 4, 7, 8, 9, 45, 48, 51, 55] (m := 7) (b' := 262143) (L' := [(1, .int .i64 a1), (4, .pointer (some ⟨b1, 0, none⟩)), (7, .slice AP8 v9.length cP8), (8, .int .i64 v13), (9, .pointer (some ⟨b16, 0, none⟩)), (45, .int .i64 t24), (48, .int .i64 t28), (51, .int .i64 t32), (55, .pointer (some ⟨b16, 1, none⟩))]) (by kernel_rfl) (NoPanic.then (NoPanic.body)) Under.refl hS (by kernel_rfl) ?_
        refine WA.opK (i := 18) (kw' := 21) (m := 6) (b' := 524287) (by kernel_rfl) rfl hS (by kernel_rfl) (op := .store 3 (.tmp 55) (.tmp 45)) (ty := 0) (d := none) (g := none) (by kernel_rfl) (by kernel_rfl) (by kernel_rfl) (Does.store_box (i := 0) (b := b16) (o := 1) (v := .int .i64 t24) (by rfl) sz3 (by kernel_rfl) (by kernel_rfl) (by kernel_rfl) (Free.zero _) (Nat.le_of_ble_eq_true rfl) (cells' := #[.int .i64 (IntKind.i64.wrap (v9.getD (0 : Int).toNat 0)), .int .i64 t24, .int .i64 0, .int .i64 0, .string (⟨#[]⟩ : ByteArray)]) (by kernel_rfl)) ?_
        rintro _ _ _ ⟨rfl, rfl, rfl⟩
        refine ⟨_, _, Under.refl, ?_⟩
        refine WA.pure [19, 20] [1, 4, 7, 8, 9, 48, 51, 57] (m := 4) (b' := 2097151) (L' := [(1, .int .i64 a1), (4, .pointer (some ⟨b1, 0, none⟩)), (7, .slice AP8 v9.length cP8), (8, .int .i64 v13), (9, .pointer (some ⟨b16, 0, none⟩)), (48, .int .i64 t28), (51, .int .i64 t32), (57, .pointer (some ⟨b16, 2, none⟩))]) (by kernel_rfl) (NoPanic.then (NoPanic.body)) Under.refl hS (by kernel_rfl) ?_
        refine WA.opK (i := 21) (kw' := 24) (m := 3) (b' := 4194303) (by kernel_rfl) rfl hS (by kernel_rfl) (op := .store 3 (.tmp 57) (.tmp 48)) (ty := 0) (d := none) (g := none) (by kernel_rfl) (by kernel_rfl) (by kernel_rfl) (Does.store_box (i := 0) (b := b16) (o := 2) (v := .int .i64 t28) (by rfl) sz3 (by kernel_rfl) (by kernel_rfl) (by kernel_rfl) (Free.zero _) (Nat.le_of_ble_eq_true rfl) (cells' := #[.int .i64 (IntKind.i64.wrap (v9.getD (0 : Int).toNat 0)), .int .i64 t24, .int .i64 t28, .int .i64 0, .string (⟨#[]⟩ : ByteArray)]) (by kernel_rfl)) ?_
        rintro _ _ _ ⟨rfl, rfl, rfl⟩
        refine ⟨_, _, Under.refl, ?_⟩
        refine WA.pure [22, 23] [1, 4, 7, 8, 9, 51, 59] (m := 1) (b' := 16777215) (L' := [(1, .int .i64 a1), (4, .pointer (some ⟨b1, 0, none⟩)), (7, .slice AP8 v9.length cP8), (8, .int .i64 v13), (9, .pointer (some ⟨b16, 0, none⟩)), (51, .int .i64 t32), (59, .pointer (some ⟨b16, 3, none⟩))]) (by kernel_rfl) (NoPanic.then (NoPanic.body)) Under.refl hS (by kernel_rfl) ?_
        refine WA.opK (i := 24) (kw' := 25) (m := 0) (b' := 33554431) (by kernel_rfl) rfl hS (by kernel_rfl) (op := .store 3 (.tmp 59) (.tmp 51)) (ty := 0) (d := none) (g := none) (by kernel_rfl) (by kernel_rfl) (by kernel_rfl) (Does.store_box (i := 0) (b := b16) (o := 3) (v := .int .i64 t32) (by rfl) sz3 (by kernel_rfl) (by kernel_rfl) (by kernel_rfl) (Free.zero _) (Nat.le_of_ble_eq_true rfl) (cells' := #[.int .i64 (IntKind.i64.wrap (v9.getD (0 : Int).toNat 0)), .int .i64 t24, .int .i64 t28, .int .i64 t32, .string (⟨#[]⟩ : ByteArray)]) (by kernel_rfl)) ?_
        rintro _ _ _ ⟨rfl, rfl, rfl⟩
        refine ⟨_, _, Under.refl, ?_⟩
        refine WA.done hS (by kernel_rfl) ?_
        refine QP.pick [1, 4, 7, 8, 9] ?_
        refine QP.next ?_
        refine WP.seqR ?_
        refine WL.pure 0 3 [1, 4, 8, 9, 60, 62] (L' := [(1, .int .i64 a1), (4, .pointer (some ⟨b1, 0, none⟩)), (8, .int .i64 v13), (9, .pointer (some ⟨b16, 0, none⟩)), (60, .slice AP8 v9.length cP8), (62, .int .i64 (IntKind.i64.wrap (12 + v13)))]) (by kernel_rfl) (by decide) ?_
        by_cases hb36 : 0 ≤ (12 : Int) ∧ (12 : Int) ≤ (IntKind.i64.wrap (12 + v13)) ∧ (IntKind.i64.wrap (12 + v13)) ≤ (v9.length : Int)
        case neg => rw [if_neg hb36] at h; cases h
        rw [if_pos hb36] at h
        refine WL.tellS (op := .slice 22 (.tmp 60) (some (.const (.int .i64 12))) (some (.tmp 62)) none) (ty := 22) (d := some 63) (g := none) (by kernel_rfl) (by kernel_rfl) (by kernel_rfl) (Hn11.slice (l := 12) (h := (IntKind.i64.wrap (12 + v13))) (by kernel_rfl) ⟨.i64, by kernel_rfl⟩ ⟨.i64, by kernel_rfl⟩ hb36.1 hb36.2.1 hb36.2.2 sl22) ?_
        rintro AP37 cP37 HP37
        refine WL.tell (op := .convert 22 9 (.tmp 63)) (ty := 9) (d := some 64) (g := none) (by kernel_rfl) (by kernel_rfl) (by kernel_rfl) (HP37.str (by kernel_rfl) by22 st9) ?_
        refine WL.pure 5 6 [1, 4, 8, 9, 64, 65] (L' := [(1, .int .i64 a1), (4, .pointer (some ⟨b1, 0, none⟩)), (8, .int .i64 v13), (9, .pointer (some ⟨b16, 0, none⟩)), (64, .string (strOfNums ((v9.take (IntKind.i64.wrap (12 + v13)).toNat).drop (12 : Int).toNat))), (65, .pointer (some ⟨b16, 4, none⟩))]) (by kernel_rfl) (by decide) ?_
        refine WL.op (op := .store 9 (.tmp 65) (.tmp 64)) (ty := 0) (d := none) (g := none) (by kernel_rfl) (by kernel_rfl) (by kernel_rfl) (Does.store_box (i := 0) (b := b16) (o := 4) (v := .string (strOfNums ((v9.take (IntKind.i64.wrap (12 + v13)).toNat).drop (12 : Int).toNat))) (by rfl) sz9 (by kernel_rfl) (by kernel_rfl) (by kernel_rfl) (Free.zero _) (Nat.le_of_ble_eq_true rfl) (cells' := #[.int .i64 (IntKind.i64.wrap (v9.getD (0 : Int).toNat 0)), .int .i64 t24, .int .i64 t28, .int .i64 t32, .string (strOfNums ((v9.take (IntKind.i64.wrap (12 + v13)).toNat).drop (12 : Int).toNat))]) (by kernel_rfl)) ?_
        rintro _ _ _ ⟨rfl, rfl, rfl⟩
        refine WL.restQ 7 [1, 4, 8, 9] (L' := [(1, .int .i64 a1), (4, .pointer (some ⟨b1, 0, none⟩)), (8, .int .i64 v13), (9, .pointer (some ⟨b16, 0, none⟩))]) (by kernel_rfl) ?_
        refine WP.seq ?_
        refine WP.seqR ?_
        refine WL.tell (op := .load 39 (.tmp 9)) (ty := 39) (d := some 66) (g := none) (by kernel_rfl) (by kernel_rfl) (by kernel_rfl) (Tells.load_box (i := 0) (b := b16) (o := 0) (agg := true) (by rfl) ag39 (by kernel_rfl) (fun h => by cases h) (Nat.le_of_ble_eq_true rfl) (v := .agg #[.int .i64 (IntKind.i64.wrap (v9.getD (0 : Int).toNat 0)), .int .i64 t24, .int .i64 t28, .int .i64 t32, .string (strOfNums ((v9.take (IntKind.i64.wrap (12 + v13)).toNat).drop (12 : Int).toNat))]) (by kernel_rfl)) ?_
        rw [Option.bind_eq_some_iff] at h
        obtain ⟨t38, ht39, h⟩ := h
        refine WL.op (op := .call { callee := (.value (.func 45)), args := #[(.tmp 66)], argTypes := #[39] }) (ty := 4) (d := some 67) (g := none) (by kernel_rfl) (by kernel_rfl) (by kernel_rfl) (Does.call (f := 45) (args := [.agg #[.int .i64 (IntKind.i64.wrap (v9.getD (0 : Int).toNat 0)), .int .i64 t24, .int .i64 t28, .int .i64 t32, .string (strOfNums ((v9.take (IntKind.i64.wrap (12 + v13)).toNat).drop (12 : Int).toNat))]]) (by kernel_rfl) (fun W hI => (record_May_calls HT (⟨IntKind.i64.wrap (v9.getD (0 : Int).toNat 0), t24, t28, t32, (strOfNums ((v9.take (IntKind.i64.wrap (12 + v13)).toNat).drop (12 : Int).toNat))⟩ : T39)  t38 ht39 hI))) ?_
        rintro _ _ _ ⟨rfl, rfl, rfl⟩
        refine WL.restQ 2 [1, 4, 8, 9, 68] (L' := [(1, .int .i64 a1), (4, .pointer (some ⟨b1, 0, none⟩)), (8, .int .i64 v13), (9, .pointer (some ⟨b16, 0, none⟩)), (68, .bool (!t38))]) (by kernel_rfl) ?_
        refine WP.cond (b := (!t38)) (by kernel_rfl) (fun hc => ?_) (fun hc => ?_)
        · replace hc := hc
          rw [if_pos hc] at h
          have hc42 := hc
          clear hc
          refine WP.seqR ?_
          refine WL.pure 0 1 [4, 69] (L' := [(4, .pointer (some ⟨b1, 0, none⟩)), (69, .agg #[.int .i64 0, .int .i64 0, .int .i64 0, .int .i64 0, .string (⟨#[]⟩ : ByteArray)])]) (by kernel_rfl) (by decide) ?_
          refine WL.op (op := .store 39 (.tmp 4) (.tmp 69)) (ty := 0) (d := none) (g := none) (by kernel_rfl) (by kernel_rfl) (by kernel_rfl) (Does.store_box (i := 1) (b := b1) (o := 0) (v := .agg #[.int .i64 0, .int .i64 0, .int .i64 0, .int .i64 0, .string (⟨#[]⟩ : ByteArray)]) (by rfl) sz39 (by kernel_rfl) (by kernel_rfl) (by kernel_rfl) (Free.zero _) (Nat.le_of_ble_eq_true rfl) (cells' := #[.int .i64 0, .int .i64 0, .int .i64 0, .int .i64 0, .string (⟨#[]⟩ : ByteArray)]) (by kernel_rfl)) ?_
          rintro _ _ _ ⟨rfl, rfl, rfl⟩
          refine WL.restQ 2 [4, 5, 6] (L' := [(4, .pointer (some ⟨b1, 0, none⟩)), (5, .int .i64 0), (6, .bool false)]) (by kernel_rfl) ?_
          refine WP.dropAt 0 ?_
          refine WP.ret ?_
          refine QP.thenR ?_
          obtain rfl := Option.some.inj h
          exact QP.returnedM (rs := [.cell 4 39, .tmp 5, .tmp 6]) (by kernel_rfl) (ResAll.cons (Res1.box (p := 4) (i := 0) (o := 0) (agg := true) (by rfl) ag39 (by kernel_rfl) (fun h => by cases h) (Nat.le_of_ble_eq_true rfl) (v := .agg #[.int .i64 0, .int .i64 0, .int .i64 0, .int .i64 0, .string (⟨#[]⟩ : ByteArray)]) (by kernel_rfl)) (ResAll.cons (Res1.tmp (t := 5) (v := .int .i64 0) (by kernel_rfl)) (ResAll.cons (Res1.tmp (t := 6) (v := .bool false) (by kernel_rfl)) ResAll.nil))) (by kernel_rfl) (fun W hI => ⟨_, _, _, rfl, ⟨rfl, rfl, rfl⟩, (hI.less 0 rfl)⟩)
        · replace hc := (Bool.eq_false_iff.1 hc)
          rw [if_neg hc] at h
          have hc42 := hc
          clear hc
          refine WP.skip ?_
          refine QP.next ?_
          refine WP.pick [1, 4, 8, 9] ?_
          refine WP.seqR ?_
          refine WL.tell (op := .load 39 (.tmp 9)) (ty := 39) (d := some 70) (g := none) (by kernel_rfl) (by kernel_rfl) (by kernel_rfl) (Tells.load_box (i := 0) (b := b16) (o := 0) (agg := true) (by rfl) ag39 (by kernel_rfl) (fun h => by cases h) (Nat.le_of_ble_eq_true rfl) (v := .agg #[.int .i64 (IntKind.i64.wrap (v9.getD (0 : Int).toNat 0)), .int .i64 t24, .int .i64 t28, .int .i64 t32, .string (strOfNums ((v9.take (IntKind.i64.wrap (12 + v13)).toNat).drop (12 : Int).toNat))]) (by kernel_rfl)) ?_
          refine WL.pure 1 5 [4, 70, 74] (L' := [(4, .pointer (some ⟨b1, 0, none⟩)), (70, .agg #[.int .i64 (IntKind.i64.wrap (v9.getD (0 : Int).toNat 0)), .int .i64 t24, .int .i64 t28, .int .i64 t32, .string (strOfNums ((v9.take (IntKind.i64.wrap (12 + v13)).toNat).drop (12 : Int).toNat))]), (74, .int .i64 (IntKind.i64.wrap ((IntKind.i64.wrap (a1 + 12)) + v13)))]) (by kernel_rfl) (by decide) ?_
          refine WL.op (op := .store 39 (.tmp 4) (.tmp 70)) (ty := 0) (d := none) (g := none) (by kernel_rfl) (by kernel_rfl) (by kernel_rfl) (Does.store_box (i := 1) (b := b1) (o := 0) (v := .agg #[.int .i64 (IntKind.i64.wrap (v9.getD (0 : Int).toNat 0)), .int .i64 t24, .int .i64 t28, .int .i64 t32, .string (strOfNums ((v9.take (IntKind.i64.wrap (12 + v13)).toNat).drop (12 : Int).toNat))]) (by rfl) sz39 (by kernel_rfl) (by kernel_rfl) (by kernel_rfl) (Free.zero _) (Nat.le_of_ble_eq_true rfl) (cells' := #[.int .i64 (IntKind.i64.wrap (v9.getD (0 : Int).toNat 0)), .int .i64 t24, .int .i64 t28, .int .i64 t32, .string (strOfNums ((v9.take (IntKind.i64.wrap (12 + v13)).toNat).drop (12 : Int).toNat))]) (by kernel_rfl)) ?_
          rintro _ _ _ ⟨rfl, rfl, rfl⟩
          refine WL.restQ 6 [4, 5, 6] (L' := [(4, .pointer (some ⟨b1, 0, none⟩)), (5, .int .i64 (IntKind.i64.wrap ((IntKind.i64.wrap (a1 + 12)) + v13))), (6, .bool true)]) (by kernel_rfl) ?_
          refine WP.dropAt 0 ?_
          refine WP.ret ?_
          obtain rfl := Option.some.inj h
          exact QP.returnedM (rs := [.cell 4 39, .tmp 5, .tmp 6]) (by kernel_rfl) (ResAll.cons (Res1.box (p := 4) (i := 0) (o := 0) (agg := true) (by rfl) ag39 (by kernel_rfl) (fun h => by cases h) (Nat.le_of_ble_eq_true rfl) (v := .agg #[.int .i64 (IntKind.i64.wrap (v9.getD (0 : Int).toNat 0)), .int .i64 t24, .int .i64 t28, .int .i64 t32, .string (strOfNums ((v9.take (IntKind.i64.wrap (12 + v13)).toNat).drop (12 : Int).toNat))]) (by kernel_rfl)) (ResAll.cons (Res1.tmp (t := 5) (v := .int .i64 (IntKind.i64.wrap ((IntKind.i64.wrap (a1 + 12)) + v13))) (by kernel_rfl)) (ResAll.cons (Res1.tmp (t := 6) (v := .bool true) (by kernel_rfl)) ResAll.nil))) (by kernel_rfl) (fun W hI => ⟨_, _, _, rfl, ⟨rfl, rfl, rfl⟩, (hI.less 0 rfl)⟩)

/-! ### slices.Equal[[]int,int]: function 51 -/
def slices_Equal_int_int_l0 (l0 : List Int) (l1 : List Int) : Nat → Int → Option (Sum Bool Unit)
  | 0, _ => none
  | k + 1, y4 => (if y4 < (l0.length : Int) then (if 0 ≤ y4 ∧ y4 < (l0.length : Int) then (if 0 ≤ y4 ∧ y4 < (l1.length : Int) then (if ¬ (l0.getD y4.toNat 0) = (l1.getD y4.toNat 0) then some (Sum.inl false) else slices_Equal_int_int_l0 l0 l1 k (IntKind.i64.wrap (y4 + 1))) else none) else none) else some (Sum.inr ()))
def slices_Equal_int_int (k : Nat) (l0 : List Int) (l1 : List Int) : Option Bool := (if ¬ (l0.length : Int) = (l1.length : Int) then some false else ((slices_Equal_int_int_l0 l0 l1 k 0).bind fun os2 => match os2 with | Sum.inl r => some r | Sum.inr s2 => some true))
set_option maxHeartbeats 4000000 in
theorem slices_Equal_int_int_calls {B : World} {G : GMap} {Γ : List Chunk} {W : World} (k : Nat) (l0 : List Int) (l1 : List Int) (Al0 : Option Addr) (cl0 : Nat) (Hl0 : Rd (kInt .i64) G Al0 cl0 l0) (Al1 : Option Addr) (cl1 : Nat) (Hl1 : Rd (kInt .i64) G Al1 cl1 l1) (r : Bool) (h : slices_Equal_int_int k l0 l1 = some r) (hI : Inv B G (Γ) W) :
    Calls Tryd.prog 51 [.slice Al0 l0.length cl0, .slice Al1 l1.length cl1].toArray W (Ret B (fun v G' Γ' => v = .bool r ∧ G = G' ∧ Γ = Γ')) := by
  refine calls_WP (Γ := Γ) (G := G) (B := B) Tryd.func51 rfl (by kernel_rfl) ?_ hI
  clear hI
  unfold slices_Equal_int_int at h
  refine WP.seqP [0, 1] (L' := [(0, .slice Al0 l0.length cl0), (1, .slice Al1 l1.length cl1)]) (by kernel_rfl) ?_
  refine WP.seq ?_
  refine WP.seqP [0, 1, 10] (L' := [(0, .slice Al0 l0.length cl0), (1, .slice Al1 l1.length cl1), (10, .bool ((l0.length : Int) != (l1.length : Int)))]) (by kernel_rfl) ?_
  refine WP.cond (b := ((l0.length : Int) != (l1.length : Int))) (by kernel_rfl) (fun hc => ?_) (fun hc => ?_)
  · replace hc := (bne_iff_ne.1 hc)
    rw [if_pos hc] at h
    have hc1 := hc
    clear hc
    refine WP.seqP [4] (L' := [(4, .bool false)]) (by kernel_rfl) ?_
    refine WP.ret ?_
    refine QP.thenR ?_
    obtain rfl := Option.some.inj h
    exact QP.returned [4] [.bool false] _ (by kernel_rfl) (by kernel_rfl) (by kernel_rfl) (fun W hI => ⟨_, _, _, rfl, ⟨rfl, rfl, rfl⟩, hI⟩)
  · replace hc := (not_not_intro (bne_eq_false_iff_eq.1 hc))
    rw [if_neg hc] at h
    have hc1 := hc
    clear hc
    refine WP.skip ?_
    refine QP.next ?_
    refine WP.pick [0, 1] ?_
    refine WP.seq ?_
    refine WP.seqP [0, 1, 12, 13] (L' := [(0, .slice Al0 l0.length cl0), (1, .slice Al1 l1.length cl1), (12, .int .i64 (l0.length : Int)), (13, .int .i64 0)]) (by kernel_rfl) ?_
    rw [Option.bind_eq_some_iff] at h
    obtain ⟨os2, h, hk3⟩ := h
    refine WP.cutQ (fun L' G' Γ' => ∃ s2 : Unit, Sum.inr s2 = os2 ∧ L' = [] ∧ G = G' ∧ Γ = Γ') ?_ ?_
    · skip
      refine WP.block ?_
      refine WP.pick [0, 1, 12, 13] ?_
      refine WP.loopF (fun kn5 L' G' Γ' => ∃ (y4 : Int), slices_Equal_int_int_l0 l0 l1 kn5 y4 = some os2 ∧ L' = [(0, .slice Al0 l0.length cl0), (1, .slice Al1 l1.length cl1), (12, .int .i64 (l0.length : Int)), (13, .int .i64 y4)] ∧ G = G' ∧ Γ = Γ') ?_ k ⟨0, h, rfl, rfl, rfl⟩
      clear h
      rintro kn6 _ _ _ ⟨y4, h, rfl, rfl, rfl⟩
      cases kn6 with
      | zero => exact absurd h (by simp [slices_Equal_int_int_l0])
      | succ kn6 =>
        simp only [slices_Equal_int_int_l0] at h
        refine WP.seqP [0, 1, 12, 13, 14] (L' := [(0, .slice Al0 l0.length cl0), (1, .slice Al1 l1.length cl1), (12, .int .i64 (l0.length : Int)), (13, .int .i64 y4), (14, .bool (decide (y4 < (l0.length : Int))))]) (by kernel_rfl) ?_
        refine WP.seq ?_
        refine WP.cond (b := decide (y4 < (l0.length : Int))) (by kernel_rfl) (fun hc => ?_) (fun hc => ?_)
        · replace hc := of_decide_eq_true hc
          rw [if_pos hc] at h
          have hc7 := hc
          clear hc
          refine WP.skip ?_
          refine QP.next ?_
          refine WP.pick [0, 1, 12, 13] ?_
          refine WP.seq ?_
          refine WP.block ?_
          refine WP.seqP [0, 1, 5, 12, 13] (L' := [(0, .slice Al0 l0.length cl0), (1, .slice Al1 l1.length cl1), (5, .int .i64 y4), (12, .int .i64 (l0.length : Int)), (13, .int .i64 y4)]) (by kernel_rfl) ?_
          refine WP.seq ?_
          refine WP.any (N := 9) (S := [⟨some 16, [0], []⟩, ⟨some 17, [5], []⟩, ⟨some 18, [16, 17], [0, 1]⟩, ⟨some 19, [18], [2]⟩, ⟨some 20, [1], []⟩, ⟨some 21, [5], []⟩, ⟨some 22, [20, 21], [4, 5]⟩, ⟨some 23, [22], [6]⟩, ⟨some 24, [19, 23], [3, 7]⟩]) (kw := 9) (G0 := G) (Γ0 := Γ) mo (by kernel_rfl) (fun hS => ?_)
          refine WA.pure [0, 1, 4, 5] [0, 1, 12, 13, 16, 17, 20, 21] (m := 5) (b' := 51) (L' := [(0, .slice Al0 l0.length cl0), (1, .slice Al1 l1.length cl1), (12, .int .i64 (l0.length : Int)), (13, .int .i64 y4), (16, .slice Al0 l0.length cl0), (17, .int .i64 y4), (20, .slice Al1 l1.length cl1), (21, .int .i64 y4)]) (by kernel_rfl) (NoPanic.then (NoPanic.block (NoPanic.then (NoPanic.then (NoPanic.block (NoPanic.then (NoPanic.then (NoPanic.body)))))))) Under.refl hS (by kernel_rfl) ?_
          by_cases hb8 : 0 ≤ y4 ∧ y4 < (l0.length : Int)
          case neg => rw [if_neg hb8] at h; cases h
          rw [if_pos hb8] at h
          refine WA.tellD [] (i := 2) (m := 4) (b' := 55) (by kernel_rfl) (NoPanic.then (NoPanic.block (NoPanic.then (NoPanic.then (NoPanic.block (NoPanic.then (NoPanic.then (NoPanic.body)))))))) Under.refl hS (by kernel_rfl) (op := .indexAddr 32 (.tmp 16) (.tmp 17)) (ty := 0) (d := some 18) (g := none) (by kernel_rfl) (by kernel_rfl) (by kernel_rfl) (Tells.indexAddr (A := Al0) (n := l0.length) (c := cl0) (k := .i64) (j := y4) (by kernel_rfl) (by kernel_rfl) (Hl0.isSome hb8.1 hb8.2) hb8.1 hb8.2 sl32) ?_
          refine WA.tellDE [] (i := 3) (m := 3) (b' := 63) (by kernel_rfl) (NoPanic.then (NoPanic.block (NoPanic.then (NoPanic.then (NoPanic.block (NoPanic.then (NoPanic.then (NoPanic.body)))))))) Under.refl hS (by kernel_rfl) (op := .load 3 (.tmp 18)) (ty := 3) (d := some 19) (g := none) (by kernel_rfl) (by kernel_rfl) (by kernel_rfl) (Hl0.load (agg := false) hb8.1 hb8.2 0 ag3 (fun _ => rfl) (by kernel_rfl)) ?_
          rintro _ rfl
          by_cases hb9 : 0 ≤ y4 ∧ y4 < (l1.length : Int)
          case neg => rw [if_neg hb9] at h; cases h
          rw [if_pos hb9] at h
          refine WA.tellD [] (i := 6) (m := 2) (b' := 127) (by kernel_rfl) (NoPanic.then (NoPanic.block (NoPanic.then (NoPanic.then (NoPanic.block (NoPanic.then (NoPanic.then (NoPanic.body)))))))) Under.refl hS (by kernel_rfl) (op := .indexAddr 32 (.tmp 20) (.tmp 21)) (ty := 0) (d := some 22) (g := none) (by kernel_rfl) (by kernel_rfl) (by kernel_rfl) (Tells.indexAddr (A := Al1) (n := l1.length) (c := cl1) (k := .i64) (j := y4) (by kernel_rfl) (by kernel_rfl) (Hl1.isSome hb9.1 hb9.2) hb9.1 hb9.2 sl32) ?_
          refine WA.tellDE [] (i := 7) (m := 1) (b' := 255) (by kernel_rfl) (NoPanic.then (NoPanic.block (NoPanic.then (NoPanic.then (NoPanic.block (NoPanic.then (NoPanic.then (NoPanic.body)))))))) Under.refl hS (by kernel_rfl) (op := .load 3 (.tmp 22)) (ty := 3) (d := some 23) (g := none) (by kernel_rfl) (by kernel_rfl) (by kernel_rfl) (Hl1.load (agg := false) hb9.1 hb9.2 0 ag3 (fun _ => rfl) (by kernel_rfl)) ?_
          rintro _ rfl
          refine WA.pure [8] [0, 1, 12, 13, 24] (m := 0) (b' := 511) (L' := [(0, .slice Al0 l0.length cl0), (1, .slice Al1 l1.length cl1), (12, .int .i64 (l0.length : Int)), (13, .int .i64 y4), (24, .bool ((l0.getD y4.toNat 0) != (l1.getD y4.toNat 0)))]) (by kernel_rfl) (NoPanic.then (NoPanic.block (NoPanic.then (NoPanic.then (NoPanic.block (NoPanic.then (NoPanic.then (NoPanic.body)))))))) Under.refl hS (by kernel_rfl) ?_
          refine WA.done hS (by kernel_rfl) ?_
          refine QP.pick [0, 1, 12, 13, 24] ?_
          refine QP.next ?_
          refine WP.cond (b := ((l0.getD y4.toNat 0) != (l1.getD y4.toNat 0))) (by kernel_rfl) (fun hc => ?_) (fun hc => ?_)
          · replace hc := (bne_iff_ne.1 hc)
            rw [if_pos hc] at h
            have hc10 := hc
            clear hc
            refine WP.seqP [4] (L' := [(4, .bool false)]) (by kernel_rfl) ?_
            refine WP.ret ?_
            refine QP.blockR ?_
            refine QP.thenR ?_
            refine QP.thenR ?_
            refine QP.blockR ?_
            refine QP.thenR ?_
            refine QP.thenR ?_
            obtain rfl := Option.some.inj h
            obtain rfl := Option.some.inj (show some _ = some _ from hk3)
            exact QP.returned [4] [.bool false] _ (by kernel_rfl) (by kernel_rfl) (by kernel_rfl) (fun W hI => ⟨_, _, _, rfl, ⟨rfl, rfl, rfl⟩, hI⟩)
          · replace hc := (not_not_intro (bne_eq_false_iff_eq.1 hc))
            rw [if_neg hc] at h
            have hc10 := hc
            clear hc
            refine WP.skip ?_
            refine QP.blockN ?_
            refine QP.next ?_
            refine WP.pick [0, 1, 12, 13] ?_
            refine WP.regionP [0, 1, 12, 13] (L' := [(0, .slice Al0 l0.length cl0), (1, .slice Al1 l1.length cl1), (12, .int .i64 (l0.length : Int)), (13, .int .i64 (IntKind.i64.wrap (y4 + 1)))]) (by kernel_rfl) ?_
            refine QP.pick [0, 1, 12, 13] ?_
            exact QP.meet ⟨kn6, Nat.lt_succ_self _, (IntKind.i64.wrap (y4 + 1)), h, rfl, rfl, rfl⟩
        · replace hc := of_decide_eq_false hc
          rw [if_neg hc] at h
          have hc7 := hc
          clear hc
          refine WP.exit ?_
          refine QP.thenE ?_
          refine QP.thenE ?_
          refine QP.blockE ?_
          refine QP.pick [] ?_
          exact QP.meet ⟨_, Option.some.inj h, rfl, rfl, rfl⟩
    · rintro _ _ _ ⟨s2, rfl, rfl, rfl, rfl⟩
      clear h
      replace h := hk3
      refine QP.next ?_
      refine WP.pick [] ?_
      refine WP.seqP [4] (L' := [(4, .bool true)]) (by kernel_rfl) ?_
      refine WP.ret ?_
      obtain rfl := Option.some.inj h
      exact QP.returned [4] [.bool true] _ (by kernel_rfl) (by kernel_rfl) (by kernel_rfl) (fun W hI => ⟨_, _, _, rfl, ⟨rfl, rfl, rfl⟩, hI⟩)

/-! ### grapevine/record.Same: function 52 -/
def record_Same (a0 : T39) (a1 : T39) : Option Bool := some (decide (a0 = a1))
set_option maxHeartbeats 4000000 in
theorem record_Same_calls {B : World} {G : GMap} {Γ : List Chunk} {W : World} (a0 : T39) (a1 : T39) (r : Bool) (h : record_Same a0 a1 = some r) (hI : Inv B G (Γ) W) :
    Calls Tryd.prog 52 [.agg #[.int .i64 a0.f0, .int .i64 a0.f1, .int .i64 a0.f2, .int .i64 a0.f3, .string a0.f4], .agg #[.int .i64 a1.f0, .int .i64 a1.f1, .int .i64 a1.f2, .int .i64 a1.f3, .string a1.f4]].toArray W (Ret B (fun v G' Γ' => v = .bool r ∧ G = G' ∧ Γ = Γ')) := by
  refine calls_WP (Γ := Γ) (G := G) (B := B) Tryd.func52 rfl (by kernel_rfl) ?_ hI
  clear hI
  unfold record_Same at h
  refine WP.seqR ?_
  refine WL.op (op := .box 39 (.tmp 0)) (ty := 0) (d := some 2) (g := none) (by kernel_rfl) (by kernel_rfl) (by kernel_rfl) (Does.new (o := .cells #[.int .i64 a0.f0, .int .i64 a0.f1, .int .i64 a0.f2, .int .i64 a0.f3, .string a0.f4] 39 (0, 0)) (v := fun r => .pointer (some ⟨r, 0, none⟩)) (fun r => by kernel_rfl)) ?_
  rintro _ _ _ ⟨b1, rfl, rfl, rfl⟩
  refine WL.op (op := .box 39 (.tmp 1)) (ty := 0) (d := some 3) (g := none) (by kernel_rfl) (by kernel_rfl) (by kernel_rfl) (Does.new (o := .cells #[.int .i64 a1.f0, .int .i64 a1.f1, .int .i64 a1.f2, .int .i64 a1.f3, .string a1.f4] 39 (0, 0)) (v := fun r => .pointer (some ⟨r, 0, none⟩)) (fun r => by kernel_rfl)) ?_
  rintro _ _ _ ⟨b2, rfl, rfl, rfl⟩
  refine WL.restQ 2 [2, 3] (L' := [(2, .pointer (some ⟨b1, 0, none⟩)), (3, .pointer (some ⟨b2, 0, none⟩))]) (by kernel_rfl) ?_
  refine WP.seqR ?_
  refine WL.tell (op := .load 39 (.tmp 2)) (ty := 39) (d := some 5) (g := none) (by kernel_rfl) (by kernel_rfl) (by kernel_rfl) (Tells.load_box (i := 1) (b := b1) (o := 0) (agg := true) (by rfl) ag39 (by kernel_rfl) (fun h => by cases h) (Nat.le_of_ble_eq_true rfl) (v := .agg #[.int .i64 a0.f0, .int .i64 a0.f1, .int .i64 a0.f2, .int .i64 a0.f3, .string a0.f4]) (by kernel_rfl)) ?_
  refine WL.tell (op := .load 39 (.tmp 3)) (ty := 39) (d := some 6) (g := none) (by kernel_rfl) (by kernel_rfl) (by kernel_rfl) (Tells.load_box (i := 0) (b := b2) (o := 0) (agg := true) (by rfl) ag39 (by kernel_rfl) (fun h => by cases h) (Nat.le_of_ble_eq_true rfl) (v := .agg #[.int .i64 a1.f0, .int .i64 a1.f1, .int .i64 a1.f2, .int .i64 a1.f3, .string a1.f4]) (by kernel_rfl)) ?_
  refine WL.tell (op := .binOp .eql 39 (.tmp 5) (.tmp 6) 39) (ty := 4) (d := some 7) (g := none) (by kernel_rfl) (by kernel_rfl) (by kernel_rfl) (Tells.eqAgg (xs := #[.int .i64 a0.f0, .int .i64 a0.f1, .int .i64 a0.f2, .int .i64 a0.f3, .string a0.f4]) (ys := #[.int .i64 a1.f0, .int .i64 a1.f1, .int .i64 a1.f2, .int .i64 a1.f3, .string a1.f4]) (ls := [.int a0.f0 a1.f0, .int a0.f1 a1.f1, .int a0.f2 a1.f2, .int a0.f3 a1.f3, .str a0.f4 a1.f4]) (by kernel_rfl) (by kernel_rfl) (by kernel_rfl) eg39) ?_
  refine WL.reput 7 (v := .bool ([.int a0.f0 a1.f0, .int a0.f1 a1.f1, .int a0.f2 a1.f2, .int a0.f3 a1.f3, .str a0.f4 a1.f4].all Lf.ok)) (v' := .bool (decide (a0 = a1))) (by kernel_rfl) (by exact (congrArg Value.bool (eqT39 a0 a1))) ?_
  refine WL.restQ 3 [4] (L' := [(4, .bool (decide (a0 = a1)))]) (by kernel_rfl) ?_
  refine WP.dropAt 1 ?_
  refine WP.dropAt 0 ?_
  refine WP.ret ?_
  obtain rfl := Option.some.inj h
  exact QP.returned [4] [.bool (decide (a0 = a1))] _ (by kernel_rfl) (by kernel_rfl) (by kernel_rfl) (fun W hI => ⟨_, _, _, rfl, ⟨rfl, rfl, rfl⟩, hI⟩)

/-! ### grapevine/grapevineref5.more: function 97 -/
def grapevineref5_more_l0 (l1 : List Int) : Nat → Int → Int → Option Int
  | 0, _, _ => none
  | k + 1, y3, y4 => (if y4 < (l1.length : Int) then (if 0 ≤ y4 ∧ y4 < (l1.length : Int) then grapevineref5_more_l0 l1 k (IntKind.u64.wrap ((Go.bits .xor .u64 y3 (IntKind.u64.wrap (l1.getD y4.toNat 0))) * 1099511628211)) (IntKind.i64.wrap (y4 + 1)) else none) else some y3)
def grapevineref5_more (k : Nat) (a0 : Int) (l1 : List Int) : Option Int := ((grapevineref5_more_l0 l1 k a0 0).bind fun s1 => some s1)
set_option maxHeartbeats 4000000 in
theorem grapevineref5_more_calls {B : World} {G : GMap} {Γ : List Chunk} {W : World} (k : Nat) (a0 : Int) (l1 : List Int) (Al1 : Option Addr) (cl1 : Nat) (Hl1 : Rd (kInt .u8) G Al1 cl1 l1) (r : Int) (h : grapevineref5_more k a0 l1 = some r) (hI : Inv B G (Γ) W) :
    Calls Tryd.prog 97 [.int .u64 a0, .slice Al1 l1.length cl1].toArray W (Ret B (fun v G' Γ' => v = .int .u64 r ∧ G = G' ∧ Γ = Γ')) := by
  refine calls_WP (Γ := Γ) (G := G) (B := B) Tryd.func97 rfl (by kernel_rfl) ?_ hI
  clear hI
  unfold grapevineref5_more at h
  refine WP.seqP [0, 1] (L' := [(0, .int .u64 a0), (1, .slice Al1 l1.length cl1)]) (by kernel_rfl) ?_
  refine WP.seq ?_
  refine WP.seqP [0, 1, 5] (L' := [(0, .int .u64 a0), (1, .slice Al1 l1.length cl1), (5, .int .i64 0)]) (by kernel_rfl) ?_
  rw [Option.bind_eq_some_iff] at h
  obtain ⟨os1, h, hk2⟩ := h
  refine WP.cutQ (fun L' G' Γ' => ∃ s1 : Int, s1 = os1 ∧ L' = [(0, .int .u64 s1)] ∧ G = G' ∧ Γ = Γ') ?_ ?_
  · clear hk2
    refine WP.block ?_
    refine WP.pick [0, 1, 5] ?_
    refine WP.loopF (fun kn5 L' G' Γ' => ∃ (y3 : Int), ∃ (y4 : Int), grapevineref5_more_l0 l1 kn5 y3 y4 = some os1 ∧ L' = [(0, .int .u64 y3), (1, .slice Al1 l1.length cl1), (5, .int .i64 y4)] ∧ G = G' ∧ Γ = Γ') ?_ k ⟨a0, 0, h, rfl, rfl, rfl⟩
    clear h
    rintro kn6 _ _ _ ⟨y3, y4, h, rfl, rfl, rfl⟩
    cases kn6 with
    | zero => exact absurd h (by simp [grapevineref5_more_l0])
    | succ kn6 =>
      simp only [grapevineref5_more_l0] at h
      refine WP.seq ?_
      refine WP.seqP [0, 1, 5, 9] (L' := [(0, .int .u64 y3), (1, .slice Al1 l1.length cl1), (5, .int .i64 y4), (9, .bool (decide (y4 < (l1.length : Int))))]) (by kernel_rfl) ?_
      refine WP.cond (b := decide (y4 < (l1.length : Int))) (by kernel_rfl) (fun hc => ?_) (fun hc => ?_)
      · replace hc := of_decide_eq_true hc
        rw [if_pos hc] at h
        have hc7 := hc
        clear hc
        refine WP.skip ?_
        refine QP.next ?_
        refine WP.pick [0, 1, 5] ?_
        refine WP.seq ?_
        refine WP.block ?_
        refine WP.region ?_
        refine WL.pure 0 3 [0, 1, 5, 12, 13, 14] (L' := [(0, .int .u64 y3), (1, .slice Al1 l1.length cl1), (5, .int .i64 y4), (12, .int .u64 y3), (13, .slice Al1 l1.length cl1), (14, .int .i64 y4)]) (by kernel_rfl) (by decide) ?_
        by_cases hb8 : 0 ≤ y4 ∧ y4 < (l1.length : Int)
        case neg => rw [if_neg hb8] at h; cases h
        rw [if_pos hb8] at h
        refine WL.tell (op := .indexAddr 22 (.tmp 13) (.tmp 14)) (ty := 0) (d := some 15) (g := none) (by kernel_rfl) (by kernel_rfl) (by kernel_rfl) (Tells.indexAddr (A := Al1) (n := l1.length) (c := cl1) (k := .i64) (j := y4) (by kernel_rfl) (by kernel_rfl) (Hl1.isSome hb8.1 hb8.2) hb8.1 hb8.2 sl22) ?_
        refine WL.tellE (op := .load 5 (.tmp 15)) (ty := 5) (d := some 16) (g := none) (by kernel_rfl) (by kernel_rfl) (by kernel_rfl) (Hl1.load (agg := false) hb8.1 hb8.2 0 ag5 (fun _ => rfl) (by kernel_rfl)) ?_
        rintro _ rfl
        refine WL.rest 5 [0, 1, 5] (L' := [(0, .int .u64 (IntKind.u64.wrap ((Go.bits .xor .u64 y3 (IntKind.u64.wrap (l1.getD y4.toNat 0))) * 1099511628211))), (1, .slice Al1 l1.length cl1), (5, .int .i64 y4)]) (by kernel_rfl) ?_
        refine QP.blockN ?_
        refine QP.next ?_
        refine WP.pick [0, 1, 5] ?_
        refine WP.regionP [0, 1, 5] (L' := [(0, .int .u64 (IntKind.u64.wrap ((Go.bits .xor .u64 y3 (IntKind.u64.wrap (l1.getD y4.toNat 0))) * 1099511628211))), (1, .slice Al1 l1.length cl1), (5, .int .i64 (IntKind.i64.wrap (y4 + 1)))]) (by kernel_rfl) ?_
        refine QP.pick [0, 1, 5] ?_
        exact QP.meet ⟨kn6, Nat.lt_succ_self _, (IntKind.u64.wrap ((Go.bits .xor .u64 y3 (IntKind.u64.wrap (l1.getD y4.toNat 0))) * 1099511628211)), (IntKind.i64.wrap (y4 + 1)), h, rfl, rfl, rfl⟩
      · replace hc := of_decide_eq_false hc
        rw [if_neg hc] at h
        have hc7 := hc
        clear hc
        refine WP.exit ?_
        refine QP.thenE ?_
        refine QP.thenE ?_
        refine QP.blockE ?_
        refine QP.pick [0] ?_
        exact QP.meet ⟨_, Option.some.inj h, rfl, rfl, rfl⟩
  · rintro _ _ _ ⟨s1, rfl, rfl, rfl, rfl⟩
    clear h
    replace h := hk2
    refine QP.next ?_
    refine WP.pick [0] ?_
    refine WP.seqP [4] (L' := [(4, .int .u64 s1)]) (by kernel_rfl) ?_
    refine WP.ret ?_
    obtain rfl := Option.some.inj h
    exact QP.returned [4] [.int .u64 s1] _ (by kernel_rfl) (by kernel_rfl) (by kernel_rfl) (fun W hI => ⟨_, _, _, rfl, ⟨rfl, rfl, rfl⟩, hI⟩)

/-! ### grapevine/grapevineref5.Of: function 92 -/
def grapevineref5_Of_l0 (l0 : List (List Int)) : Nat → Int → Int → Option Int
  | 0, _, _ => none
  | k + 1, y3, y4 => (if y4 < (l0.length : Int) then (if 0 ≤ y4 ∧ y4 < (l0.length : Int) then ((grapevineref5_more k y3 (l0.getD y4.toNat [])).bind fun t10 => grapevineref5_Of_l0 l0 k t10 (IntKind.i64.wrap (y4 + 1))) else none) else some y3)
def grapevineref5_Of (k : Nat) (l0 : List (List Int)) : Option Int := ((grapevineref5_Of_l0 l0 k 14695981039346656037 0).bind fun s1 => some s1)
set_option maxHeartbeats 4000000 in
theorem grapevineref5_Of_calls {B : World} {G : GMap} {Γ : List Chunk} {W : World} (k : Nat) (l0 : List (List Int)) (Al0 : Option Addr) (cl0 : Nat) (Hl0 : Rd (kSlice (kInt .u8)) G Al0 cl0 l0) (r : Int) (h : grapevineref5_Of k l0 = some r) (hI : Inv B G (Γ) W) :
    Calls Tryd.prog 92 [.slice Al0 l0.length cl0].toArray W (Ret B (fun v G' Γ' => v = .int .u64 r ∧ G = G' ∧ Γ = Γ')) := by
  refine calls_WP (Γ := Γ) (G := G) (B := B) Tryd.func92 rfl (by kernel_rfl) ?_ hI
  clear hI
  unfold grapevineref5_Of at h
  refine WP.seqP [0] (L' := [(0, .slice Al0 l0.length cl0)]) (by kernel_rfl) ?_
  refine WP.seqP [0, 3] (L' := [(0, .slice Al0 l0.length cl0), (3, .int .u64 14695981039346656037)]) (by kernel_rfl) ?_
  refine WP.seq ?_
  refine WP.seqP [0, 3, 4] (L' := [(0, .slice Al0 l0.length cl0), (3, .int .u64 14695981039346656037), (4, .int .i64 0)]) (by kernel_rfl) ?_
  rw [Option.bind_eq_some_iff] at h
  obtain ⟨os1, h, hk2⟩ := h
  refine WP.cutQ (fun L' G' Γ' => ∃ s1 : Int, s1 = os1 ∧ L' = [(3, .int .u64 s1)] ∧ G = G' ∧ Γ = Γ') ?_ ?_
  · clear hk2
    refine WP.block ?_
    refine WP.pick [0, 3, 4] ?_
    refine WP.loopF (fun kn5 L' G' Γ' => ∃ (y3 : Int), ∃ (y4 : Int), grapevineref5_Of_l0 l0 kn5 y3 y4 = some os1 ∧ L' = [(0, .slice Al0 l0.length cl0), (3, .int .u64 y3), (4, .int .i64 y4)] ∧ G = G' ∧ Γ = Γ') ?_ k ⟨14695981039346656037, 0, h, rfl, rfl, rfl⟩
    clear h
    rintro kn6 _ _ _ ⟨y3, y4, h, rfl, rfl, rfl⟩
    cases kn6 with
    | zero => exact absurd h (by simp [grapevineref5_Of_l0])
    | succ kn6 =>
      simp only [grapevineref5_Of_l0] at h
      refine WP.seq ?_
      refine WP.seqP [0, 3, 4, 8] (L' := [(0, .slice Al0 l0.length cl0), (3, .int .u64 y3), (4, .int .i64 y4), (8, .bool (decide (y4 < (l0.length : Int))))]) (by kernel_rfl) ?_
      refine WP.cond (b := decide (y4 < (l0.length : Int))) (by kernel_rfl) (fun hc => ?_) (fun hc => ?_)
      · replace hc := of_decide_eq_true hc
        rw [if_pos hc] at h
        have hc7 := hc
        clear hc
        refine WP.skip ?_
        refine QP.next ?_
        refine WP.pick [0, 3, 4] ?_
        refine WP.seq ?_
        refine WP.block ?_
        refine WP.region ?_
        refine WL.pure 0 3 [0, 3, 4, 11, 12, 13] (L' := [(0, .slice Al0 l0.length cl0), (3, .int .u64 y3), (4, .int .i64 y4), (11, .int .u64 y3), (12, .slice Al0 l0.length cl0), (13, .int .i64 y4)]) (by kernel_rfl) (by decide) ?_
        by_cases hb8 : 0 ≤ y4 ∧ y4 < (l0.length : Int)
        case neg => rw [if_neg hb8] at h; cases h
        rw [if_pos hb8] at h
        refine WL.tell (op := .indexAddr 121 (.tmp 12) (.tmp 13)) (ty := 0) (d := some 14) (g := none) (by kernel_rfl) (by kernel_rfl) (by kernel_rfl) (Tells.indexAddr (A := Al0) (n := l0.length) (c := cl0) (k := .i64) (j := y4) (by kernel_rfl) (by kernel_rfl) (Hl0.isSome hb8.1 hb8.2) hb8.1 hb8.2 sl121) ?_
        refine WL.tellE (op := .load 22 (.tmp 14)) (ty := 22) (d := some 15) (g := none) (by kernel_rfl) (by kernel_rfl) (by kernel_rfl) (Hl0.load (agg := false) hb8.1 hb8.2 [] ag22 (fun _ => rfl) (by kernel_rfl)) ?_
        rintro _ ⟨Ae9, ce9, rfl, He9⟩
        rw [Option.bind_eq_some_iff] at h
        obtain ⟨t10, ht11, h⟩ := h
        refine WL.op (op := .call { callee := (.value (.func 97)), args := #[(.tmp 11), (.tmp 15)], argTypes := #[109, 22] }) (ty := 109) (d := some 16) (g := none) (by kernel_rfl) (by kernel_rfl) (by kernel_rfl) (Does.call (f := 97) (args := [.int .u64 y3, .slice Ae9 (l0.getD y4.toNat []).length ce9]) (by kernel_rfl) (fun W hI => (grapevineref5_more_calls kn6 y3 (l0.getD y4.toNat []) Ae9 ce9 He9 t10 ht11 hI))) ?_
        rintro _ _ _ ⟨rfl, rfl, rfl⟩
        refine WL.rest 6 [0, 3, 4] (L' := [(0, .slice Al0 l0.length cl0), (3, .int .u64 t10), (4, .int .i64 y4)]) (by kernel_rfl) ?_
        refine QP.blockN ?_
        refine QP.next ?_
        refine WP.pick [0, 3, 4] ?_
        refine WP.regionP [0, 3, 4] (L' := [(0, .slice Al0 l0.length cl0), (3, .int .u64 t10), (4, .int .i64 (IntKind.i64.wrap (y4 + 1)))]) (by kernel_rfl) ?_
        refine QP.pick [0, 3, 4] ?_
        exact QP.meet ⟨kn6, Nat.lt_succ_self _, t10, (IntKind.i64.wrap (y4 + 1)), h, rfl, rfl, rfl⟩
      · replace hc := of_decide_eq_false hc
        rw [if_neg hc] at h
        have hc7 := hc
        clear hc
        refine WP.exit ?_
        refine QP.thenE ?_
        refine QP.thenE ?_
        refine QP.blockE ?_
        refine QP.pick [3] ?_
        exact QP.meet ⟨_, Option.some.inj h, rfl, rfl, rfl⟩
  · rintro _ _ _ ⟨s1, rfl, rfl, rfl, rfl⟩
    clear h
    replace h := hk2
    refine QP.next ?_
    refine WP.pick [3] ?_
    refine WP.seqP [2] (L' := [(2, .int .u64 s1)]) (by kernel_rfl) ?_
    refine WP.ret ?_
    obtain rfl := Option.some.inj h
    exact QP.returned [2] [.int .u64 s1] _ (by kernel_rfl) (by kernel_rfl) (by kernel_rfl) (fun W hI => ⟨_, _, _, rfl, ⟨rfl, rfl, rfl⟩, hI⟩)

/-! ### grapevine/grapevineref5.One: function 83 -/
def grapevineref5_One (k : Nat) (l0 : List Int) : Option Int := ((grapevineref5_Of k ([l0] : List (List Int))).bind fun t4 => some t4)
set_option maxHeartbeats 4000000 in
theorem grapevineref5_One_calls {B : World} {G : GMap} {Γ : List Chunk} {W : World} (k : Nat) (l0 : List Int) (Al0 : Option Addr) (cl0 : Nat) (Hl0 : Rd (kInt .u8) G Al0 cl0 l0) (r : Int) (h : grapevineref5_One k l0 = some r) (hI : Inv B G (Γ) W) :
    Calls Tryd.prog 83 [.slice Al0 l0.length cl0].toArray W (Ret B (fun v G' Γ' => v = .int .u64 r ∧ G = G' ∧ Γ = Γ')) := by
  refine calls_WP (Γ := Γ) (G := G) (B := B) Tryd.func83 rfl (by kernel_rfl) ?_ hI
  clear hI
  unfold grapevineref5_One at h
  refine WP.seqP [0] (L' := [(0, .slice Al0 l0.length cl0)]) (by kernel_rfl) ?_
  refine WP.seqR ?_
  refine WL.pure 0 1 [3] (L' := [(3, .slice Al0 l0.length cl0)]) (by kernel_rfl) (by decide) ?_
  refine WL.op (op := .buildSlice 121 1 #[(0, (.tmp 3))]) (ty := 121) (d := some 4) (g := none) (by kernel_rfl) (by kernel_rfl) (by kernel_rfl) (Does.new (o := .cells #[.slice Al0 l0.length cl0] 22 (0, 0)) (v := fun r => .slice (some ⟨r, 0, none⟩) 1 1) (fun r => by kernel_rfl)) ?_
  rintro _ _ _ ⟨b1, rfl, rfl, rfl⟩
  have Ho3 : Ow (kSlice (kInt .u8)) G (some ⟨b1, 0, none⟩) 1 ([l0] : List (List Int)) [(b1, .cells #[.slice Al0 l0.length cl0] 22 (0, 0))] := Ow.lit (kd := (kSlice (kInt .u8))) (G := G) (b := b1) (T := 22) (xs := ([l0] : List (List Int))) (cs := [.slice Al0 l0.length cl0]) (.cons (x := l0) (cs := [.slice Al0 l0.length cl0]) ⟨Al0, cl0, rfl, Hl0⟩ .nil)
  rw [Option.bind_eq_some_iff] at h
  obtain ⟨t4, ht5, h⟩ := h
  refine WL.op (op := .call { callee := (.value (.func 92)), args := #[(.tmp 4)], argTypes := #[121] }) (ty := 109) (d := some 5) (g := none) (by kernel_rfl) (by kernel_rfl) (by kernel_rfl) (Does.call (Φ := fun v' G' Γ' => v' = .int .u64 t4 ∧ G = G' ∧ [(b1, .cells #[.slice Al0 l0.length cl0] 22 (0, 0))] :: Γ = Γ') (f := 92) (args := [.slice (some ⟨b1, 0, none⟩) ([l0] : List (List Int)).length 1]) (by kernel_rfl) (fun W hI => (Calls.lendN (Φ := fun v' N => v' = .int .u64 t4 ∧ N = []) (H := []) (i := 0) rfl hI (fun _ e l8 nl8 hI => by subst e; exact (((grapevineref5_Of_calls k ([l0] : List (List Int)) (some ⟨b1, 0, none⟩) 1 (Ho3.rdN l8 nl8) t4 ht5 hI)).mono fun _ _ hr => by obtain ⟨_, _, _, rfl, hd, hI⟩ := hr; obtain ⟨rfl, rfl, rfl⟩ := hd; exact ⟨_, _, _, rfl, ⟨[], ⟨rfl, rfl⟩, rfl, rfl⟩, hI⟩))).mono fun _ _ hr => by obtain ⟨_, _, _, rfl, ⟨_, hd, rfl, rfl⟩, hI⟩ := hr; obtain ⟨rfl, rfl⟩ := hd; exact ⟨_, _, _, rfl, ⟨rfl, rfl, rfl⟩, hI⟩)) ?_
  rintro _ _ _ ⟨rfl, rfl, rfl⟩
  refine WL.restQ 3 [2] (L' := [(2, .int .u64 t4)]) (by kernel_rfl) ?_
  refine WP.dropAt 0 ?_
  refine WP.ret ?_
  obtain rfl := Option.some.inj h
  exact QP.returned [2] [.int .u64 t4] _ (by kernel_rfl) (by kernel_rfl) (by kernel_rfl) (fun W hI => ⟨_, _, _, rfl, ⟨rfl, rfl, rfl⟩, hI⟩)
end Go.Proofs.YtfocilpnbiciaaaDoor.Gf
