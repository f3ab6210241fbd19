/- Walks of Go functions: what each tells, as a plain Lean function, and that the Go code comes to it. Written by gg.py of this repo. -/
import Derived.Test.YtanogihdhnhpaaaT
namespace Go.Proofs.Ytanogihdhnhpaaa.Gf
open Go Go.Gg
set_option maxRecDepth 100000
set_option linter.unusedVariables false
set_option linter.unusedSimpArgs false

/-! ### grapevine/grapevinelaw5.great: function 11 -/
def grapevinelaw5_great_l0 (l0 : List (List Int)) : Nat → Int → Option (Sum Bool Unit)
  | 0, _ => none
  | k + 1, y3 => ((if y3 < (l0.length : Int) then some (decide ((l0.length : Int) ≤ 20)) else some false).bind fun s6 => (if s6 = true then (if 0 ≤ y3 ∧ y3 < (l0.length : Int) then (if ((l0.getD y3.toNat []).length : Int) > 200 then some (Sum.inl true) else grapevinelaw5_great_l0 l0 k (IntKind.i64.wrap (y3 + 1))) else none) else some (Sum.inr ())))
def grapevinelaw5_great (k : Nat) (l0 : List (List Int)) : Option Bool := ((grapevinelaw5_great_l0 l0 k 0).bind fun os1 => match os1 with | Sum.inl r => some r | Sum.inr s1 => some (decide ((l0.length : Int) > 20)))
set_option maxHeartbeats 4000000 in
theorem grapevinelaw5_great_calls {B : World} {G : GMap} {Γ : List Chunk} {W : World} (k : Nat) (l0 : List (List Int)) (Al0 : Option Addr) (cl0 : Nat) (Hl0 : Rd (kSlice (kInt .u8)) G Al0 cl0 l0) (r : Bool) (h : grapevinelaw5_great k l0 = some r) (hI : Inv B G (Γ) W) :
    Calls Try.prog 11 [.slice Al0 l0.length cl0].toArray W (Ret B (fun v G' Γ' => v = .bool r ∧ G = G' ∧ Γ = Γ')) := by
  refine calls_WP (Γ := Γ) (G := G) (B := B) Try.func11 rfl (by kernel_rfl) ?_ hI
  clear hI
  unfold grapevinelaw5_great at h
  refine WP.seqP [0] (L' := [(0, .slice Al0 l0.length cl0)]) (by kernel_rfl) ?_
  refine WP.seq ?_
  refine WP.seqP [0, 3] (L' := [(0, .slice Al0 l0.length cl0), (3, .int .i64 0)]) (by kernel_rfl) ?_
  rw [Option.bind_eq_some_iff] at h
  obtain ⟨os1, h, hk2⟩ := h
  refine WP.cutQ (fun L' G' Γ' => ∃ s1 : Unit, Sum.inr s1 = os1 ∧ L' = [(0, .slice Al0 l0.length cl0)] ∧ G = G' ∧ Γ = Γ') ?_ ?_
  · skip
    refine WP.block ?_
    refine WP.pick [0, 3] ?_
    refine WP.loopF (fun k4 L' G' Γ' => ∃ (y3 : Int), grapevinelaw5_great_l0 l0 k4 y3 = some os1 ∧ L' = [(0, .slice Al0 l0.length cl0), (3, .int .i64 y3)] ∧ G = G' ∧ Γ = Γ') ?_ k ⟨0, h, rfl, rfl, rfl⟩
    clear h
    rintro k5 _ _ _ ⟨y3, h, rfl, rfl, rfl⟩
    cases k5 with
    | zero => exact absurd h (by simp [grapevinelaw5_great_l0])
    | succ k5 =>
      simp only [grapevinelaw5_great_l0] at h
      refine WP.seq ?_
      rw [Option.bind_eq_some_iff] at h
      obtain ⟨os6, h, hk7⟩ := h
      refine WP.cut (fun L' G' Γ' => ∃ s6 : Bool, s6 = os6 ∧ L' = [(0, .slice Al0 l0.length cl0), (3, .int .i64 y3), (12, .bool s6)] ∧ G = G' ∧ Γ = Γ') ?_ ?_
      · clear hk7
        refine WP.region ?_
        refine WL.pure 0 5 [0, 3, 8] (L' := [(0, .slice Al0 l0.length cl0), (3, .int .i64 y3), (8, .bool (decide (y3 < (l0.length : Int))))]) (by kernel_rfl) (by decide) ?_
        refine WL.split 8 (b := decide (y3 < (l0.length : Int))) (by kernel_rfl) (fun hc => ?_) (fun hc => ?_)
        · replace hc := of_decide_eq_true hc
          rw [if_pos hc] at h
          have hc8 := hc
          clear hc
          refine WL.rest 5 [0, 3, 12] (L' := [(0, .slice Al0 l0.length cl0), (3, .int .i64 y3), (12, .bool (decide ((l0.length : Int) ≤ 20)))]) (by kernel_rfl) ?_
          refine QP.pick [0, 3, 12] ?_
          exact QP.meet ⟨_, Option.some.inj h, rfl, rfl, rfl⟩
        · replace hc := of_decide_eq_false hc
          rw [if_neg hc] at h
          have hc8 := hc
          clear hc
          refine WL.rest 5 [0, 3, 12] (L' := [(0, .slice Al0 l0.length cl0), (3, .int .i64 y3), (12, .bool false)]) (by kernel_rfl) ?_
          refine QP.pick [0, 3, 12] ?_
          exact QP.meet ⟨_, Option.some.inj h, rfl, rfl, rfl⟩
      · rintro _ _ _ ⟨s6, rfl, rfl, rfl, rfl⟩
        clear h
        replace h := hk7
        refine WP.cond (b := s6) (by kernel_rfl) (fun hc => ?_) (fun hc => ?_)
        · replace hc := hc
          rw [if_pos hc] at h
          have hc9 := hc
          clear hc
          refine WP.skip ?_
          refine QP.next ?_
          refine WP.pick [0, 3] ?_
          refine WP.seq ?_
          refine WP.block ?_
          refine WP.seqR ?_
          refine WL.pure 0 2 [0, 3, 15, 16] (L' := [(0, .slice Al0 l0.length cl0), (3, .int .i64 y3), (15, .slice Al0 l0.length cl0), (16, .int .i64 y3)]) (by kernel_rfl) (by decide) ?_
          by_cases hb10 : 0 ≤ y3 ∧ y3 < (l0.length : Int)
          case neg => rw [if_neg hb10] at h; cases h
          rw [if_pos hb10] at h
          refine WL.tell (op := .indexAddr 22 (.tmp 15) (.tmp 16)) (ty := 0) (d := some 17) (g := none) (by kernel_rfl) (by kernel_rfl) (by kernel_rfl) (Tells.indexAddr (A := Al0) (n := l0.length) (c := cl0) (k := .i64) (j := y3) (by kernel_rfl) (by kernel_rfl) (Hl0.isSome hb10.1 hb10.2) hb10.1 hb10.2 sl22) ?_
          refine WL.tellE (op := .load 32 (.tmp 17)) (ty := 32) (d := some 18) (g := none) (by kernel_rfl) (by kernel_rfl) (by kernel_rfl) (Hl0.load (agg := false) hb10.1 hb10.2 [] ag32 (fun _ => rfl) (by kernel_rfl)) ?_
          rintro _ ⟨Ae11, ce11, rfl, He11⟩
          refine WL.restQ 4 [0, 3, 20] (L' := [(0, .slice Al0 l0.length cl0), (3, .int .i64 y3), (20, .bool (decide (((l0.getD y3.toNat []).length : Int) > 200)))]) (by kernel_rfl) ?_
          refine WP.cond (b := decide (((l0.getD y3.toNat []).length : Int) > 200)) (by kernel_rfl) (fun hc => ?_) (fun hc => ?_)
          · replace hc := of_decide_eq_true hc
            rw [if_pos hc] at h
            have hc12 := hc
            clear hc
            refine WP.seqP [2] (L' := [(2, .bool true)]) (by kernel_rfl) ?_
            refine WP.ret ?_
            refine QP.blockR ?_
            refine QP.thenR ?_
            refine QP.thenR ?_
            refine QP.blockR ?_
            refine QP.thenR ?_
            refine QP.thenR ?_
            obtain rfl := Option.some.inj h
            obtain rfl := Option.some.inj (show some _ = some _ from hk2)
            exact QP.returned [2] [.bool true] _ (by kernel_rfl) (by kernel_rfl) (by kernel_rfl) (fun W hI => ⟨_, _, _, rfl, ⟨rfl, rfl, rfl⟩, hI⟩)
          · replace hc := of_decide_eq_false hc
            rw [if_neg hc] at h
            have hc12 := hc
            clear hc
            refine WP.skip ?_
            refine QP.blockN ?_
            refine QP.next ?_
            refine WP.pick [0, 3] ?_
            refine WP.regionP [0, 3] (L' := [(0, .slice Al0 l0.length cl0), (3, .int .i64 (IntKind.i64.wrap (y3 + 1)))]) (by kernel_rfl) ?_
            refine QP.pick [0, 3] ?_
            exact QP.meet ⟨k5, Nat.lt_succ_self _, (IntKind.i64.wrap (y3 + 1)), h, rfl, rfl, rfl⟩
        · replace hc := (Bool.eq_false_iff.1 hc)
          rw [if_neg hc] at h
          have hc9 := hc
          clear hc
          refine WP.exit ?_
          refine QP.thenE ?_
          refine QP.thenE ?_
          refine QP.blockE ?_
          refine QP.pick [0] ?_
          exact QP.meet ⟨_, Option.some.inj h, rfl, rfl, rfl⟩
  · rintro _ _ _ ⟨s1, rfl, rfl, rfl, rfl⟩
    clear h
    replace h := hk2
    refine QP.next ?_
    refine WP.pick [0] ?_
    refine WP.seqP [2] (L' := [(2, .bool (decide ((l0.length : Int) > 20)))]) (by kernel_rfl) ?_
    refine WP.ret ?_
    obtain rfl := Option.some.inj h
    exact QP.returned [2] [.bool (decide ((l0.length : Int) > 20))] _ (by kernel_rfl) (by kernel_rfl) (by kernel_rfl) (fun W hI => ⟨_, _, _, rfl, ⟨rfl, rfl, rfl⟩, hI⟩)

/-! ### grapevine/digest.Of: function 13 -/
def digest_Of_l1 (l0 : List (List Int)) (y4 : Int) : Nat → Int → Int → Option Int
  | 0, _, _ => none
  | k + 1, y12, y13 => (if y13 < ((l0.getD y4.toNat []).length : Int) then (if 0 ≤ y13 ∧ y13 < ((l0.getD y4.toNat []).length : Int) then ((some ((l0.getD y4.toNat []).getD y13.toNat 0)).bind fun v18 => digest_Of_l1 l0 y4 k (IntKind.u64.wrap ((Go.bits .xor .u64 y12 (IntKind.u64.wrap v18)) * 1099511628211)) (IntKind.i64.wrap (y13 + 1))) else none) else some y12)
def digest_Of_l0 (l0 : List (List Int)) : Nat → Int → Int → Option Int
  | 0, _, _ => none
  | k + 1, y3, y4 => (if y4 < (l0.length : Int) then (if 0 ≤ y4 ∧ y4 < (l0.length : Int) then ((digest_Of_l1 l0 y4 k y3 0).bind fun s10 => digest_Of_l0 l0 k s10 (IntKind.i64.wrap (y4 + 1))) else none) else some y3)
def digest_Of (k : Nat) (l0 : List (List Int)) : Option Int := ((digest_Of_l0 l0 k 14695981039346656037 0).bind fun s1 => some s1)
set_option maxHeartbeats 4000000 in
theorem digest_Of_calls {B : World} {G : GMap} {Γ : List Chunk} {W : World} (k : Nat) (l0 : List (List Int)) (Al0 : Option Addr) (cl0 : Nat) (Hl0 : Rd (kSlice (kInt .u8)) G Al0 cl0 l0) (r : Int) (h : digest_Of k l0 = some r) (hI : Inv B G (Γ) W) :
    Calls Try.prog 13 [.slice Al0 l0.length cl0].toArray W (Ret B (fun v G' Γ' => v = .int .u64 r ∧ G = G' ∧ Γ = Γ')) := by
  refine calls_WP (Γ := Γ) (G := G) (B := B) Try.func13 rfl (by kernel_rfl) ?_ hI
  clear hI
  unfold digest_Of at h
  refine WP.seqP [0] (L' := [(0, .slice Al0 l0.length cl0)]) (by kernel_rfl) ?_
  refine WP.seqP [0, 3] (L' := [(0, .slice Al0 l0.length cl0), (3, .int .u64 14695981039346656037)]) (by kernel_rfl) ?_
  refine WP.seq ?_
  refine WP.seqP [3, 8, 9, 10] (L' := [(3, .int .u64 14695981039346656037), (8, .slice Al0 l0.length cl0), (9, .int .i64 (l0.length : Int)), (10, .int .i64 0)]) (by kernel_rfl) ?_
  rw [Option.bind_eq_some_iff] at h
  obtain ⟨os1, h, hk2⟩ := h
  refine WP.cutQ (fun L' G' Γ' => ∃ s1 : Int, s1 = os1 ∧ L' = [(3, .int .u64 s1)] ∧ G = G' ∧ Γ = Γ') ?_ ?_
  · clear hk2
    refine WP.block ?_
    refine WP.pick [3, 8, 9, 10] ?_
    refine WP.loopF (fun k5 L' G' Γ' => ∃ (y3 : Int), ∃ (y4 : Int), digest_Of_l0 l0 k5 y3 y4 = some os1 ∧ L' = [(3, .int .u64 y3), (8, .slice Al0 l0.length cl0), (9, .int .i64 (l0.length : Int)), (10, .int .i64 y4)] ∧ G = G' ∧ Γ = Γ') ?_ k ⟨14695981039346656037, 0, h, rfl, rfl, rfl⟩
    clear h
    rintro k6 _ _ _ ⟨y3, y4, h, rfl, rfl, rfl⟩
    cases k6 with
    | zero => exact absurd h (by simp [digest_Of_l0])
    | succ k6 =>
      simp only [digest_Of_l0] at h
      refine WP.seqP [3, 8, 9, 10, 11] (L' := [(3, .int .u64 y3), (8, .slice Al0 l0.length cl0), (9, .int .i64 (l0.length : Int)), (10, .int .i64 y4), (11, .bool (decide (y4 < (l0.length : Int))))]) (by kernel_rfl) ?_
      refine WP.seq ?_
      refine WP.cond (b := decide (y4 < (l0.length : Int))) (by kernel_rfl) (fun hc => ?_) (fun hc => ?_)
      · replace hc := of_decide_eq_true hc
        rw [if_pos hc] at h
        have hc7 := hc
        clear hc
        refine WP.skip ?_
        refine QP.next ?_
        refine WP.pick [3, 8, 9, 10] ?_
        refine WP.seq ?_
        refine WP.block ?_
        refine WP.seqR ?_
        by_cases hb8 : 0 ≤ y4 ∧ y4 < (l0.length : Int)
        case neg => rw [if_neg hb8] at h; cases h
        rw [if_pos hb8] at h
        refine WL.tell (op := .indexAddr 22 (.tmp 8) (.tmp 10)) (ty := 0) (d := some 12) (g := none) (by kernel_rfl) (by kernel_rfl) (by kernel_rfl) (Tells.indexAddr (A := Al0) (n := l0.length) (c := cl0) (k := .i64) (j := y4) (by kernel_rfl) (by kernel_rfl) (Hl0.isSome hb8.1 hb8.2) hb8.1 hb8.2 sl22) ?_
        refine WL.tellE (op := .load 32 (.tmp 12)) (ty := 32) (d := some 13) (g := none) (by kernel_rfl) (by kernel_rfl) (by kernel_rfl) (Hl0.load (agg := false) hb8.1 hb8.2 [] ag32 (fun _ => rfl) (by kernel_rfl)) ?_
        rintro _ ⟨Ae9, ce9, rfl, He9⟩
        refine WL.restQ 2 [3, 5, 8, 9, 10] (L' := [(3, .int .u64 y3), (5, .slice Ae9 (l0.getD y4.toNat []).length ce9), (8, .slice Al0 l0.length cl0), (9, .int .i64 (l0.length : Int)), (10, .int .i64 y4)]) (by kernel_rfl) ?_
        refine WP.seqP [3, 8, 9, 10, 14, 15, 16] (L' := [(3, .int .u64 y3), (8, .slice Al0 l0.length cl0), (9, .int .i64 (l0.length : Int)), (10, .int .i64 y4), (14, .slice Ae9 (l0.getD y4.toNat []).length ce9), (15, .int .i64 ((l0.getD y4.toNat []).length : Int)), (16, .int .i64 0)]) (by kernel_rfl) ?_
        rw [Option.bind_eq_some_iff] at h
        obtain ⟨os10, h, hk11⟩ := h
        refine WP.cutQ (fun L' G' Γ' => ∃ s10 : Int, s10 = os10 ∧ L' = [(3, .int .u64 s10), (8, .slice Al0 l0.length cl0), (9, .int .i64 (l0.length : Int)), (10, .int .i64 y4)] ∧ G = G' ∧ Γ = Γ') ?_ ?_
        · clear hk11
          refine WP.block ?_
          refine WP.pick [3, 8, 9, 10, 14, 15, 16] ?_
          refine WP.loopF (fun k14 L' G' Γ' => ∃ (y12 : Int), ∃ (y13 : Int), digest_Of_l1 l0 y4 k14 y12 y13 = some os10 ∧ L' = [(3, .int .u64 y12), (8, .slice Al0 l0.length cl0), (9, .int .i64 (l0.length : Int)), (10, .int .i64 y4), (14, .slice Ae9 (l0.getD y4.toNat []).length ce9), (15, .int .i64 ((l0.getD y4.toNat []).length : Int)), (16, .int .i64 y13)] ∧ G = G' ∧ Γ = Γ') ?_ k6 ⟨y3, 0, h, rfl, rfl, rfl⟩
          clear h
          rintro k15 _ _ _ ⟨y12, y13, h, rfl, rfl, rfl⟩
          cases k15 with
          | zero => exact absurd h (by simp [digest_Of_l1])
          | succ k15 =>
            simp only [digest_Of_l1] at h
            refine WP.seqP [3, 8, 9, 10, 14, 15, 16, 17] (L' := [(3, .int .u64 y12), (8, .slice Al0 l0.length cl0), (9, .int .i64 (l0.length : Int)), (10, .int .i64 y4), (14, .slice Ae9 (l0.getD y4.toNat []).length ce9), (15, .int .i64 ((l0.getD y4.toNat []).length : Int)), (16, .int .i64 y13), (17, .bool (decide (y13 < ((l0.getD y4.toNat []).length : Int))))]) (by kernel_rfl) ?_
            refine WP.seq ?_
            refine WP.cond (b := decide (y13 < ((l0.getD y4.toNat []).length : Int))) (by kernel_rfl) (fun hc => ?_) (fun hc => ?_)
            · replace hc := of_decide_eq_true hc
              rw [if_pos hc] at h
              have hc16 := hc
              clear hc
              refine WP.skip ?_
              refine QP.next ?_
              refine WP.pick [3, 8, 9, 10, 14, 15, 16] ?_
              refine WP.seq ?_
              refine WP.block ?_
              refine WP.seqR ?_
              by_cases hb17 : 0 ≤ y13 ∧ y13 < ((l0.getD y4.toNat []).length : Int)
              case neg => rw [if_neg hb17] at h; cases h
              rw [if_pos hb17] at h
              refine WL.tell (op := .indexAddr 32 (.tmp 14) (.tmp 16)) (ty := 0) (d := some 18) (g := none) (by kernel_rfl) (by kernel_rfl) (by kernel_rfl) (Tells.indexAddr (A := Ae9) (n := (l0.getD y4.toNat []).length) (c := ce9) (k := .i64) (j := y13) (by kernel_rfl) (by kernel_rfl) (He9.isSome hb17.1 hb17.2) hb17.1 hb17.2 sl32) ?_
              refine WL.tellE (op := .load 5 (.tmp 18)) (ty := 5) (d := some 19) (g := none) (by kernel_rfl) (by kernel_rfl) (by kernel_rfl) (He9.load (agg := false) hb17.1 hb17.2 0 ag5 (fun _ => rfl) (by kernel_rfl)) ?_
              rintro _ rfl
              refine WL.restQ 2 [3, 7, 8, 9, 10, 14, 15, 16] (L' := [(3, .int .u64 y12), (7, .int .u8 ((l0.getD y4.toNat []).getD y13.toNat 0)), (8, .slice Al0 l0.length cl0), (9, .int .i64 (l0.length : Int)), (10, .int .i64 y4), (14, .slice Ae9 (l0.getD y4.toNat []).length ce9), (15, .int .i64 ((l0.getD y4.toNat []).length : Int)), (16, .int .i64 y13)]) (by kernel_rfl) ?_
              obtain ⟨v18, hv19, h⟩ := Option.bind_eq_some_iff.1 h
              replace hv19 := Option.some.inj hv19
              refine WP.reput 7 (v := .int .u8 ((l0.getD y4.toNat []).getD y13.toNat 0)) (v' := .int .u8 v18) (by kernel_rfl) (by subst hv19; rfl) ?_
              refine WP.pick [3, 7, 8, 9, 10, 14, 15, 16] ?_
              refine WP.regionP [3, 8, 9, 10, 14, 15, 16] (L' := [(3, .int .u64 (IntKind.u64.wrap ((Go.bits .xor .u64 y12 (IntKind.u64.wrap v18)) * 1099511628211))), (8, .slice Al0 l0.length cl0), (9, .int .i64 (l0.length : Int)), (10, .int .i64 y4), (14, .slice Ae9 (l0.getD y4.toNat []).length ce9), (15, .int .i64 ((l0.getD y4.toNat []).length : Int)), (16, .int .i64 y13)]) (by kernel_rfl) ?_
              refine QP.blockN ?_
              refine QP.next ?_
              refine WP.pick [3, 8, 9, 10, 14, 15, 16] ?_
              refine WP.regionP [3, 8, 9, 10, 14, 15, 16] (L' := [(3, .int .u64 (IntKind.u64.wrap ((Go.bits .xor .u64 y12 (IntKind.u64.wrap v18)) * 1099511628211))), (8, .slice Al0 l0.length cl0), (9, .int .i64 (l0.length : Int)), (10, .int .i64 y4), (14, .slice Ae9 (l0.getD y4.toNat []).length ce9), (15, .int .i64 ((l0.getD y4.toNat []).length : Int)), (16, .int .i64 (IntKind.i64.wrap (y13 + 1)))]) (by kernel_rfl) ?_
              refine QP.pick [3, 8, 9, 10, 14, 15, 16] ?_
              exact QP.meet ⟨k15, Nat.lt_succ_self _, (IntKind.u64.wrap ((Go.bits .xor .u64 y12 (IntKind.u64.wrap v18)) * 1099511628211)), (IntKind.i64.wrap (y13 + 1)), h, rfl, rfl, rfl⟩
            · replace hc := of_decide_eq_false hc
              rw [if_neg hc] at h
              have hc16 := hc
              clear hc
              refine WP.exit ?_
              refine QP.thenE ?_
              refine QP.thenE ?_
              refine QP.blockE ?_
              refine QP.pick [3, 8, 9, 10] ?_
              exact QP.meet ⟨_, Option.some.inj h, rfl, rfl, rfl⟩
        · rintro _ _ _ ⟨s10, rfl, rfl, rfl, rfl⟩
          clear h
          replace h := hk11
          refine QP.blockN ?_
          refine QP.next ?_
          refine WP.pick [3, 8, 9, 10] ?_
          refine WP.regionP [3, 8, 9, 10] (L' := [(3, .int .u64 s10), (8, .slice Al0 l0.length cl0), (9, .int .i64 (l0.length : Int)), (10, .int .i64 (IntKind.i64.wrap (y4 + 1)))]) (by kernel_rfl) ?_
          refine QP.pick [3, 8, 9, 10] ?_
          exact QP.meet ⟨k6, Nat.lt_succ_self _, s10, (IntKind.i64.wrap (y4 + 1)), h, rfl, rfl, rfl⟩
      · replace hc := of_decide_eq_false hc
        rw [if_neg hc] at h
        have hc7 := hc
        clear hc
        refine WP.exit ?_
        refine QP.thenE ?_
        refine QP.thenE ?_
        refine QP.blockE ?_
        refine QP.pick [3] ?_
        exact QP.meet ⟨_, Option.some.inj h, rfl, rfl, rfl⟩
  · rintro _ _ _ ⟨s1, rfl, rfl, rfl, rfl⟩
    clear h
    replace h := hk2
    refine QP.next ?_
    refine WP.pick [3] ?_
    refine WP.seqP [2] (L' := [(2, .int .u64 s1)]) (by kernel_rfl) ?_
    refine WP.ret ?_
    obtain rfl := Option.some.inj h
    exact QP.returned [2] [.int .u64 s1] _ (by kernel_rfl) (by kernel_rfl) (by kernel_rfl) (fun W hI => ⟨_, _, _, rfl, ⟨rfl, rfl, rfl⟩, hI⟩)

/-! ### grapevine/digest.All: function 15 -/
def digest_All_l1 (l0 : List Int) (y5 : Int) : Nat → (List Int) → Int → Option (List Int)
  | 0, _, _ => none
  | k + 1, y15, y16 => (if y16 ≥ 0 then (if 0 ≤ y16 then (if y15.length + ([IntKind.u8.wrap (shrK .u64 (l0.getD y5.toNat 0) y16)] : List Int).length ≤ 1073741824 then digest_All_l1 l0 y5 k (y15 ++ ([IntKind.u8.wrap (shrK .u64 (l0.getD y5.toNat 0) y16)] : List Int)) (IntKind.i64.wrap (y16 - 8)) else none) else none) else some y15)
def digest_All_l0 (l0 : List Int) : Nat → (List Int) → Bool → Int → Option ((List Int) × Bool)
  | 0, _, _, _ => none
  | k + 1, y3, y4, y5 => (if y5 < (l0.length : Int) then (if 0 ≤ y5 ∧ y5 < (l0.length : Int) then ((if y4 = true then some true else some ((l0.getD y5.toNat 0) != 0)).bind fun s10 => ((digest_All_l1 l0 y5 k y3 56).bind fun s13 => digest_All_l0 l0 k s13 s10 (IntKind.i64.wrap (y5 + 1)))) else none) else some (y3, y4))
def digest_All (k : Nat) (l0 : List Int) : Option Int := ((digest_All_l0 l0 k ([] : List Int) false 0).bind fun s1 => (if (!s1.2) = true then some 0 else ((digest_Of k ([s1.1] : List (List Int))).bind fun t30 => some t30)))
set_option maxHeartbeats 4000000 in
theorem digest_All_calls {B : World} {G : GMap} {Γ : List Chunk} {W : World} (k : Nat) (l0 : List Int) (Al0 : Option Addr) (cl0 : Nat) (Hl0 : Rd (kInt .u64) G Al0 cl0 l0) (r : Int) (h : digest_All k l0 = some r) (hI : Inv B G (Γ) W) :
    Calls Try.prog 15 [.slice Al0 l0.length cl0].toArray W (Ret B (fun v G' Γ' => v = .int .u64 r ∧ G = G' ∧ Γ = Γ')) := by
  refine calls_WP (Γ := Γ) (G := G) (B := B) Try.func15 rfl (by kernel_rfl) ?_ hI
  clear hI
  unfold digest_All at h
  refine WP.seqP [0] (L' := [(0, .slice Al0 l0.length cl0)]) (by kernel_rfl) ?_
  refine WP.seqP [0, 3] (L' := [(0, .slice Al0 l0.length cl0), (3, .slice none 0 0)]) (by kernel_rfl) ?_
  refine WP.seqP [0, 3, 4] (L' := [(0, .slice Al0 l0.length cl0), (3, .slice none 0 0), (4, .bool false)]) (by kernel_rfl) ?_
  refine WP.seq ?_
  refine WP.seqP [3, 4, 8, 9, 10] (L' := [(3, .slice none 0 0), (4, .bool false), (8, .slice Al0 l0.length cl0), (9, .int .i64 (l0.length : Int)), (10, .int .i64 0)]) (by kernel_rfl) ?_
  rw [Option.bind_eq_some_iff] at h
  obtain ⟨os1, h, hk2⟩ := h
  refine WP.cutQ (fun L' G' Γ' => ∃ s1 : (List Int) × Bool, s1 = os1 ∧ ∃ (As1_1 : Option Addr), ∃ (cs1_1 : Nat), ∃ (Cs1_1 : Chunk), L' = [(3, .slice As1_1 s1.1.length cs1_1), (4, .bool s1.2)] ∧ G = G' ∧ Cs1_1 :: Γ = Γ' ∧ Ow (kInt .u8) G As1_1 cs1_1 s1.1 Cs1_1) ?_ ?_
  · clear hk2
    refine WP.block ?_
    refine WP.addNil ?_
    refine WP.pick [3, 4, 8, 9, 10] ?_
    refine WP.loopF (fun k6 L' G' Γ' => ∃ (y3 : List Int), ∃ (y4 : Bool), ∃ (y5 : Int), digest_All_l0 l0 k6 y3 y4 y5 = some os1 ∧ ∃ (Ay3 : Option Addr), ∃ (cy3 : Nat), ∃ (Cy3 : Chunk), L' = [(3, .slice Ay3 y3.length cy3), (4, .bool y4), (8, .slice Al0 l0.length cl0), (9, .int .i64 (l0.length : Int)), (10, .int .i64 y5)] ∧ G = G' ∧ Cy3 :: Γ = Γ' ∧ Ow (kInt .u8) G Ay3 cy3 y3 Cy3) ?_ k ⟨([] : List Int), false, 0, h, none, 0, [], rfl, rfl, rfl, (Ow.nil _ _)⟩
    clear h
    rintro k7 _ _ _ ⟨y3, y4, y5, h, Ay3, cy3, Cy3, rfl, rfl, rfl, Hy3⟩
    cases k7 with
    | zero => exact absurd h (by simp [digest_All_l0])
    | succ k7 =>
      simp only [digest_All_l0] at h
      refine WP.seqP [3, 4, 8, 9, 10, 11] (L' := [(3, .slice Ay3 y3.length cy3), (4, .bool y4), (8, .slice Al0 l0.length cl0), (9, .int .i64 (l0.length : Int)), (10, .int .i64 y5), (11, .bool (decide (y5 < (l0.length : Int))))]) (by kernel_rfl) ?_
      refine WP.seq ?_
      refine WP.cond (b := decide (y5 < (l0.length : Int))) (by kernel_rfl) (fun hc => ?_) (fun hc => ?_)
      · replace hc := of_decide_eq_true hc
        rw [if_pos hc] at h
        have hc8 := hc
        clear hc
        refine WP.skip ?_
        refine QP.next ?_
        refine WP.pick [3, 4, 8, 9, 10] ?_
        refine WP.seq ?_
        refine WP.block ?_
        refine WP.seqR ?_
        by_cases hb9 : 0 ≤ y5 ∧ y5 < (l0.length : Int)
        case neg => rw [if_neg hb9] at h; cases h
        rw [if_pos hb9] at h
        refine WL.tell (op := .indexAddr 23 (.tmp 8) (.tmp 10)) (ty := 0) (d := some 12) (g := none) (by kernel_rfl) (by kernel_rfl) (by kernel_rfl) (Tells.indexAddr (A := Al0) (n := l0.length) (c := cl0) (k := .i64) (j := y5) (by kernel_rfl) (by kernel_rfl) (Hl0.isSome hb9.1 hb9.2) hb9.1 hb9.2 sl23) ?_
        refine WL.tellE (op := .load 26 (.tmp 12)) (ty := 26) (d := some 13) (g := none) (by kernel_rfl) (by kernel_rfl) (by kernel_rfl) (Hl0.load (agg := false) hb9.1 hb9.2 0 ag26 (fun _ => rfl) (by kernel_rfl)) ?_
        rintro _ rfl
        refine WL.restQ 2 [3, 4, 6, 8, 9, 10] (L' := [(3, .slice Ay3 y3.length cy3), (4, .bool y4), (6, .int .u64 (l0.getD y5.toNat 0)), (8, .slice Al0 l0.length cl0), (9, .int .i64 (l0.length : Int)), (10, .int .i64 y5)]) (by kernel_rfl) ?_
        rw [Option.bind_eq_some_iff] at h
        obtain ⟨os10, h, hk11⟩ := h
        refine WP.cut (fun L' G' Γ' => ∃ s10 : Bool, s10 = os10 ∧ L' = [(3, .slice Ay3 y3.length cy3), (4, .bool s10), (6, .int .u64 (l0.getD y5.toNat 0)), (8, .slice Al0 l0.length cl0), (9, .int .i64 (l0.length : Int)), (10, .int .i64 y5)] ∧ G = G' ∧ Cy3 :: Γ = Γ') ?_ ?_
        · clear hk11
          refine WP.region ?_
          refine WL.pure 0 2 [3, 4, 6, 8, 9, 10, 15] (L' := [(3, .slice Ay3 y3.length cy3), (4, .bool y4), (6, .int .u64 (l0.getD y5.toNat 0)), (8, .slice Al0 l0.length cl0), (9, .int .i64 (l0.length : Int)), (10, .int .i64 y5), (15, .bool y4)]) (by kernel_rfl) (by decide) ?_
          refine WL.split 15 (b := y4) (by kernel_rfl) (fun hc => ?_) (fun hc => ?_)
          · replace hc := hc
            rw [if_pos hc] at h
            have hc12 := hc
            clear hc
            refine WL.rest 2 [3, 4, 6, 8, 9, 10] (L' := [(3, .slice Ay3 y3.length cy3), (4, .bool true), (6, .int .u64 (l0.getD y5.toNat 0)), (8, .slice Al0 l0.length cl0), (9, .int .i64 (l0.length : Int)), (10, .int .i64 y5)]) (by kernel_rfl) ?_
            refine QP.pick [3, 4, 6, 8, 9, 10] ?_
            exact QP.meet ⟨_, Option.some.inj h, rfl, rfl, rfl⟩
          · replace hc := (Bool.eq_false_iff.1 hc)
            rw [if_neg hc] at h
            have hc12 := hc
            clear hc
            refine WL.rest 2 [3, 4, 6, 8, 9, 10] (L' := [(3, .slice Ay3 y3.length cy3), (4, .bool ((l0.getD y5.toNat 0) != 0)), (6, .int .u64 (l0.getD y5.toNat 0)), (8, .slice Al0 l0.length cl0), (9, .int .i64 (l0.length : Int)), (10, .int .i64 y5)]) (by kernel_rfl) ?_
            refine QP.pick [3, 4, 6, 8, 9, 10] ?_
            exact QP.meet ⟨_, Option.some.inj h, rfl, rfl, rfl⟩
        · rintro _ _ _ ⟨s10, rfl, rfl, rfl, rfl⟩
          clear h
          replace h := hk11
          refine WP.seqP [3, 4, 6, 7, 8, 9, 10] (L' := [(3, .slice Ay3 y3.length cy3), (4, .bool s10), (6, .int .u64 (l0.getD y5.toNat 0)), (7, .int .i64 56), (8, .slice Al0 l0.length cl0), (9, .int .i64 (l0.length : Int)), (10, .int .i64 y5)]) (by kernel_rfl) ?_
          rw [Option.bind_eq_some_iff] at h
          obtain ⟨os13, h, hk14⟩ := h
          refine WP.cutQ (fun L' G' Γ' => ∃ s13 : (List Int), s13 = os13 ∧ ∃ (As13 : Option Addr), ∃ (cs13 : Nat), ∃ (Cs13 : Chunk), L' = [(3, .slice As13 s13.length cs13), (4, .bool s10), (8, .slice Al0 l0.length cl0), (9, .int .i64 (l0.length : Int)), (10, .int .i64 y5)] ∧ G = G' ∧ Cs13 :: Γ = Γ' ∧ Ow (kInt .u8) G As13 cs13 s13 Cs13) ?_ ?_
          · clear hk14
            refine WP.block ?_
            refine WP.pick [3, 4, 6, 7, 8, 9, 10] ?_
            refine WP.loopF (fun k17 L' G' Γ' => ∃ (y15 : List Int), ∃ (y16 : Int), digest_All_l1 l0 y5 k17 y15 y16 = some os13 ∧ ∃ (Ay15 : Option Addr), ∃ (cy15 : Nat), ∃ (Cy15 : Chunk), L' = [(3, .slice Ay15 y15.length cy15), (4, .bool s10), (6, .int .u64 (l0.getD y5.toNat 0)), (7, .int .i64 y16), (8, .slice Al0 l0.length cl0), (9, .int .i64 (l0.length : Int)), (10, .int .i64 y5)] ∧ G = G' ∧ Cy15 :: Γ = Γ' ∧ Ow (kInt .u8) G Ay15 cy15 y15 Cy15) ?_ k7 ⟨y3, 56, h, Ay3, cy3, Cy3, rfl, rfl, rfl, Hy3⟩
            clear h
            rintro k18 _ _ _ ⟨y15, y16, h, Ay15, cy15, Cy15, rfl, rfl, rfl, Hy15⟩
            cases k18 with
            | zero => exact absurd h (by simp [digest_All_l1])
            | succ k18 =>
              simp only [digest_All_l1] at h
              refine WP.seq ?_
              refine WP.seqP [3, 4, 6, 7, 8, 9, 10, 20] (L' := [(3, .slice Ay15 y15.length cy15), (4, .bool s10), (6, .int .u64 (l0.getD y5.toNat 0)), (7, .int .i64 y16), (8, .slice Al0 l0.length cl0), (9, .int .i64 (l0.length : Int)), (10, .int .i64 y5), (20, .bool (decide (y16 ≥ 0)))]) (by kernel_rfl) ?_
              refine WP.cond (b := decide (y16 ≥ 0)) (by kernel_rfl) (fun hc => ?_) (fun hc => ?_)
              · replace hc := of_decide_eq_true hc
                rw [if_pos hc] at h
                have hc19 := hc
                clear hc
                refine WP.skip ?_
                refine QP.next ?_
                refine WP.pick [3, 4, 6, 7, 8, 9, 10] ?_
                refine WP.seq ?_
                refine WP.block ?_
                refine WP.region ?_
                refine WL.pure 0 3 [3, 4, 6, 7, 8, 9, 10, 23, 24, 25] (L' := [(3, .slice Ay15 y15.length cy15), (4, .bool s10), (6, .int .u64 (l0.getD y5.toNat 0)), (7, .int .i64 y16), (8, .slice Al0 l0.length cl0), (9, .int .i64 (l0.length : Int)), (10, .int .i64 y5), (23, .slice Ay15 y15.length cy15), (24, .int .u64 (l0.getD y5.toNat 0)), (25, .int .i64 y16)]) (by kernel_rfl) (by decide) ?_
                by_cases hb20 : 0 ≤ y16
                case neg => rw [if_neg hb20] at h; cases h
                rw [if_pos hb20] at h
                refine WL.tell (op := .binOp .shr 26 (.tmp 24) (.tmp 25) 3) (ty := 26) (d := some 26) (g := none) (by kernel_rfl) (by kernel_rfl) (by kernel_rfl) (Tells.shr (k := .u64) (k' := .i64) (a := (l0.getD y5.toNat 0)) (b := y16) (by kernel_rfl) (by kernel_rfl) hb20) ?_
                refine WL.pure 4 5 [3, 4, 6, 7, 8, 9, 10, 23, 27] (L' := [(3, .slice Ay15 y15.length cy15), (4, .bool s10), (6, .int .u64 (l0.getD y5.toNat 0)), (7, .int .i64 y16), (8, .slice Al0 l0.length cl0), (9, .int .i64 (l0.length : Int)), (10, .int .i64 y5), (23, .slice Ay15 y15.length cy15), (27, .int .u8 (IntKind.u8.wrap (shrK .u64 (l0.getD y5.toNat 0) y16)))]) (by kernel_rfl) (by decide) ?_
                refine WL.op (op := .buildSlice 32 1 #[(0, (.tmp 27))]) (ty := 32) (d := some 28) (g := none) (by kernel_rfl) (by kernel_rfl) (by kernel_rfl) (Does.new (o := .cells #[.int .u8 (IntKind.u8.wrap (shrK .u64 (l0.getD y5.toNat 0) y16))] 5 (0, 0)) (v := fun r => .slice (some ⟨r, 0, none⟩) 1 1) (fun r => by kernel_rfl)) ?_
                rintro _ _ _ ⟨b21, rfl, rfl, rfl⟩
                have Ho23 : Ow (kInt .u8) G (some ⟨b21, 0, none⟩) 1 ([IntKind.u8.wrap (shrK .u64 (l0.getD y5.toNat 0) y16)] : List Int) [(b21, .cells #[.int .u8 (IntKind.u8.wrap (shrK .u64 (l0.getD y5.toNat 0) y16))] 5 (0, 0))] := Ow.lit (kd := (kInt .u8)) (G := G) (b := b21) (T := 5) (xs := ([IntKind.u8.wrap (shrK .u64 (l0.getD y5.toNat 0) y16)] : List Int)) (cs := [.int .u8 (IntKind.u8.wrap (shrK .u64 (l0.getD y5.toNat 0) y16))]) (.cons (x := (IntKind.u8.wrap (shrK .u64 (l0.getD y5.toNat 0) y16))) (cs := [.int .u8 (IntKind.u8.wrap (shrK .u64 (l0.getD y5.toNat 0) y16))]) (by exact rfl) .nil)
                by_cases hb24 : y15.length + ([IntKind.u8.wrap (shrK .u64 (l0.getD y5.toNat 0) y16)] : List Int).length ≤ 1073741824
                case neg => rw [if_neg hb24] at h; cases h
                rw [if_pos hb24] at h
                refine WL.op (op := .call { callee := (.builtin .append), args := #[(.tmp 23), (.tmp 28)], argTypes := #[32, 32] }) (ty := 32) (d := some 29) (g := none) (by kernel_rfl) (by kernel_rfl) (by kernel_rfl) (Ow.append (ys := ([IntKind.u8.wrap (shrK .u64 (l0.getD y5.toNat 0) y16)] : List Int)) (v := .slice (some ⟨b21, 0, none⟩) ([IntKind.u8.wrap (shrK .u64 (l0.getD y5.toNat 0) y16)] : List Int).length 1) Hy15 (i := 1) rfl (by kernel_rfl) (by kernel_rfl) (Ho23.src (i := 0) rfl) sl32 ze5 nt32 (by decide) hb24) ?_
                rintro _ _ _ ⟨rfl, AN25, cN25, CN25, rfl, HN25, rfl⟩
                refine WL.rest 7 [3, 4, 6, 7, 8, 9, 10] (L' := [(3, .slice AN25 (y15 ++ ([IntKind.u8.wrap (shrK .u64 (l0.getD y5.toNat 0) y16)] : List Int)).length cN25), (4, .bool s10), (6, .int .u64 (l0.getD y5.toNat 0)), (7, .int .i64 y16), (8, .slice Al0 l0.length cl0), (9, .int .i64 (l0.length : Int)), (10, .int .i64 y5)]) (by kernel_rfl) ?_
                refine QP.blockN ?_
                refine QP.next ?_
                refine WP.pick [3, 4, 6, 7, 8, 9, 10] ?_
                refine WP.regionP [3, 4, 6, 7, 8, 9, 10] (L' := [(3, .slice AN25 (y15 ++ ([IntKind.u8.wrap (shrK .u64 (l0.getD y5.toNat 0) y16)] : List Int)).length cN25), (4, .bool s10), (6, .int .u64 (l0.getD y5.toNat 0)), (7, .int .i64 (IntKind.i64.wrap (y16 - 8))), (8, .slice Al0 l0.length cl0), (9, .int .i64 (l0.length : Int)), (10, .int .i64 y5)]) (by kernel_rfl) ?_
                refine QP.dropAt 0 ?_
                refine QP.pick [3, 4, 6, 7, 8, 9, 10] ?_
                exact QP.meet ⟨k18, Nat.lt_succ_self _, (y15 ++ ([IntKind.u8.wrap (shrK .u64 (l0.getD y5.toNat 0) y16)] : List Int)), (IntKind.i64.wrap (y16 - 8)), h, AN25, cN25, CN25, rfl, rfl, rfl, HN25⟩
              · replace hc := of_decide_eq_false hc
                rw [if_neg hc] at h
                have hc19 := hc
                clear hc
                refine WP.exit ?_
                refine QP.thenE ?_
                refine QP.thenE ?_
                refine QP.blockE ?_
                refine QP.pick [3, 4, 8, 9, 10] ?_
                exact QP.meet ⟨_, Option.some.inj h, Ay15, cy15, Cy15, rfl, rfl, rfl, Hy15⟩
          · rintro _ _ _ ⟨s13, rfl, As13, cs13, Cs13, rfl, rfl, rfl, Hs13⟩
            clear h
            replace h := hk14
            refine QP.blockN ?_
            refine QP.next ?_
            refine WP.pick [3, 4, 8, 9, 10] ?_
            refine WP.regionP [3, 4, 8, 9, 10] (L' := [(3, .slice As13 s13.length cs13), (4, .bool s10), (8, .slice Al0 l0.length cl0), (9, .int .i64 (l0.length : Int)), (10, .int .i64 (IntKind.i64.wrap (y5 + 1)))]) (by kernel_rfl) ?_
            refine QP.pick [3, 4, 8, 9, 10] ?_
            exact QP.meet ⟨k7, Nat.lt_succ_self _, s13, s10, (IntKind.i64.wrap (y5 + 1)), h, As13, cs13, Cs13, rfl, rfl, rfl, Hs13⟩
      · replace hc := of_decide_eq_false hc
        rw [if_neg hc] at h
        have hc8 := hc
        clear hc
        refine WP.exit ?_
        refine QP.thenE ?_
        refine QP.thenE ?_
        refine QP.blockE ?_
        refine QP.pick [3, 4] ?_
        exact QP.meet ⟨_, Option.some.inj h, Ay3, cy3, Cy3, rfl, rfl, rfl, Hy3⟩
  · rintro _ _ _ ⟨s1, rfl, As1_1, cs1_1, Cs1_1, rfl, rfl, rfl, Hs1_1⟩
    clear h
    replace h := hk2
    refine QP.next ?_
    refine WP.pick [3, 4] ?_
    refine WP.seq ?_
    refine WP.seqP [3, 32] (L' := [(3, .slice As1_1 s1.1.length cs1_1), (32, .bool (!s1.2))]) (by kernel_rfl) ?_
    refine WP.cond (b := (!s1.2)) (by kernel_rfl) (fun hc => ?_) (fun hc => ?_)
    · replace hc := hc
      rw [if_pos hc] at h
      have hc26 := hc
      clear hc
      refine WP.seqP [2] (L' := [(2, .int .u64 0)]) (by kernel_rfl) ?_
      refine WP.ret ?_
      refine QP.thenR ?_
      obtain rfl := Option.some.inj h
      refine QP.dropAt 0 ?_
      exact QP.returned [2] [.int .u64 0] _ (by kernel_rfl) (by kernel_rfl) (by kernel_rfl) (fun W hI => ⟨_, _, _, rfl, ⟨rfl, rfl, rfl⟩, hI⟩)
    · replace hc := (Bool.eq_false_iff.1 hc)
      rw [if_neg hc] at h
      have hc26 := hc
      clear hc
      refine WP.skip ?_
      refine QP.next ?_
      refine WP.pick [3] ?_
      refine WP.seqR ?_
      refine WL.pure 0 1 [33] (L' := [(33, .slice As1_1 s1.1.length cs1_1)]) (by kernel_rfl) (by decide) ?_
      refine WL.op (op := .buildSlice 22 1 #[(0, (.tmp 33))]) (ty := 22) (d := some 34) (g := none) (by kernel_rfl) (by kernel_rfl) (by kernel_rfl) (Does.new (o := .cells #[.slice As1_1 s1.1.length cs1_1] 32 (0, 0)) (v := fun r => .slice (some ⟨r, 0, none⟩) 1 1) (fun r => by kernel_rfl)) ?_
      rintro _ _ _ ⟨b27, rfl, rfl, rfl⟩
      rw [Option.bind_eq_some_iff] at h
      obtain ⟨t30, ht31, h⟩ := h
      refine WL.op (op := .call { callee := (.value (.func 13)), args := #[(.tmp 34)], argTypes := #[22] }) (ty := 26) (d := some 35) (g := none) (by kernel_rfl) (by kernel_rfl) (by kernel_rfl) (Does.call (Φ := fun v' G' Γ' => v' = .int .u64 t30 ∧ G = G' ∧ [(b27, .cells #[.slice As1_1 s1.1.length cs1_1] 32 (0, 0))] :: Cs1_1 :: Γ = Γ') (f := 13) (args := [.slice (some ⟨b27, 0, none⟩) ([s1.1] : List (List Int)).length 1]) (by kernel_rfl) (fun W hI => Calls.lend (i := 1) rfl (Ow.nodup Hs1_1) hI (fun _ e l32 hI => by subst e; exact Calls.lend (i := 0) rfl (by simp) hI (fun _ e l33 hI => by subst e; exact (digest_Of_calls k ([s1.1] : List (List Int)) (some ⟨b27, 0, none⟩) 1 ((Ow.lit (kd := (kSlice (kInt .u8))) (b := b27) (T := 32) (xs := ([s1.1] : List (List Int))) (cs := [.slice As1_1 s1.1.length cs1_1]) (.cons (x := s1.1) (cs := [.slice As1_1 s1.1.length cs1_1]) ⟨As1_1, cs1_1, rfl, (Hs1_1.rd l32)⟩ .nil)).rd l33) t30 ht31 hI))))) ?_
      rintro _ _ _ ⟨rfl, rfl, rfl⟩
      refine WL.restQ 3 [2] (L' := [(2, .int .u64 t30)]) (by kernel_rfl) ?_
      refine WP.ret ?_
      obtain rfl := Option.some.inj h
      refine QP.dropAt 1 ?_
      refine QP.dropAt 0 ?_
      exact QP.returned [2] [.int .u64 t30] _ (by kernel_rfl) (by kernel_rfl) (by kernel_rfl) (fun W hI => ⟨_, _, _, rfl, ⟨rfl, rfl, rfl⟩, hI⟩)

/-! ### grapevine/grapevinelaw5.awake: function 12 -/
def grapevinelaw5_awake (k : Nat) : Option Bool := (((digest_Of k ([] : List (List Int))).bind fun t3 => (if t3 = 14695981039346656037 then ((digest_Of k ([([97] : List Int)] : List (List Int))).bind fun t13 => (if t13 = 12638187200555641996 then ((digest_All k ([] : List Int)).bind fun t18 => (if t18 = 0 then ((digest_All k ([0, 0] : List Int)).bind fun t24 => (if t24 = 0 then ((digest_All k ([0, 1] : List Int)).bind fun t31 => some (t31 != 0)) else some false)) else some false)) else some false)) else some false)).bind fun s1 => some s1)
set_option maxHeartbeats 4000000 in
theorem grapevinelaw5_awake_calls {B : World} {G : GMap} {Γ : List Chunk} {W : World} (k : Nat) (r : Bool) (h : grapevinelaw5_awake k  = some r) (hI : Inv B G (Γ) W) :
    Calls Try.prog 12 [].toArray W (Ret B (fun v G' Γ' => v = .bool r ∧ G = G' ∧ Γ = Γ')) := by
  refine calls_WP (Γ := Γ) (G := G) (B := B) Try.func12 rfl (by kernel_rfl) ?_ hI
  clear hI
  unfold grapevinelaw5_awake at h
  refine WP.seqP [] (L' := []) (by kernel_rfl) ?_
  rw [Option.bind_eq_some_iff] at h
  obtain ⟨os1, h, hk2⟩ := h
  refine WP.cut (fun L' G' Γ' => ∃ s1 : Bool, s1 = os1 ∧ L' = [(0, .bool s1)] ∧ G = G' ∧ Γ = Γ') ?_ ?_
  · clear hk2
    refine WP.region ?_
    rw [Option.bind_eq_some_iff] at h
    obtain ⟨t3, ht4, h⟩ := h
    refine WL.op (op := .call { callee := (.value (.func 13)), args := #[(.const (.slice none 0 0))], argTypes := #[22] }) (ty := 26) (d := some 1) (g := none) (by kernel_rfl) (by kernel_rfl) (by kernel_rfl) (Does.call (f := 13) (args := [.slice none 0 0]) (by kernel_rfl) (fun W hI => (digest_Of_calls k ([] : List (List Int)) none 0 (Rd.nil _ _ _ _) t3 ht4 hI))) ?_
    rintro _ _ _ ⟨rfl, rfl, rfl⟩
    refine WL.pure 1 3 [3] (L' := [(3, .bool (t3 == 14695981039346656037))]) (by kernel_rfl) (by decide) ?_
    refine WL.split 3 (b := (t3 == 14695981039346656037)) (by kernel_rfl) (fun hc => ?_) (fun hc => ?_)
    · replace hc := eq_of_beq hc
      rw [if_pos hc] at h
      have hc5 := hc
      clear hc
      refine WL.op (op := .buildSlice 32 1 #[(0, (.const (.int .u8 97)))]) (ty := 32) (d := some 4) (g := some (2, true)) (by kernel_rfl) (by kernel_rfl) (by kernel_rfl) (Does.new (o := .cells #[.int .u8 97] 5 (0, 0)) (v := fun r => .slice (some ⟨r, 0, none⟩) 1 1) (fun r => by kernel_rfl)) ?_
      rintro _ _ _ ⟨b6, rfl, rfl, rfl⟩
      have Ho8 : Ow (kInt .u8) G (some ⟨b6, 0, none⟩) 1 ([97] : List Int) [(b6, .cells #[.int .u8 97] 5 (0, 0))] := Ow.lit (kd := (kInt .u8)) (G := G) (b := b6) (T := 5) (xs := ([97] : List Int)) (cs := [.int .u8 97]) (.cons (x := 97) (cs := [.int .u8 97]) (by exact rfl) .nil)
      refine WL.op (op := .convert 32 32 (.tmp 4)) (ty := 32) (d := some 5) (g := some (2, true)) (by kernel_rfl) (by kernel_rfl) (by kernel_rfl) (Ho8.mark (by rfl) (i := 0) rfl (by kernel_rfl) by32) ?_
      rintro _ _ _ ⟨rfl, CM9, rfl, HM9, rfl⟩
      refine WL.op (op := .buildSlice 22 1 #[(0, (.tmp 5))]) (ty := 22) (d := some 6) (g := some (2, true)) (by kernel_rfl) (by kernel_rfl) (by kernel_rfl) (Does.new (o := .cells #[.slice (some ⟨b6, 0, none⟩) ([97] : List Int).length 1] 32 (0, 0)) (v := fun r => .slice (some ⟨r, 0, none⟩) 1 1) (fun r => by kernel_rfl)) ?_
      rintro _ _ _ ⟨b10, rfl, rfl, rfl⟩
      rw [Option.bind_eq_some_iff] at h
      obtain ⟨t13, ht14, h⟩ := h
      refine WL.op (op := .call { callee := (.value (.func 13)), args := #[(.tmp 6)], argTypes := #[22] }) (ty := 26) (d := some 7) (g := some (2, true)) (by kernel_rfl) (by kernel_rfl) (by kernel_rfl) (Does.call (Φ := fun v' G' Γ' => v' = .int .u64 t13 ∧ G = G' ∧ [(b10, .cells #[.slice (some ⟨b6, 0, none⟩) ([97] : List Int).length 1] 32 (0, 0))] :: CM9 :: Γ = Γ') (f := 13) (args := [.slice (some ⟨b10, 0, none⟩) ([([97] : List Int)] : List (List Int)).length 1]) (by kernel_rfl) (fun W hI => Calls.lend (i := 1) rfl (Ow.nodup HM9) hI (fun _ e l15 hI => by subst e; exact Calls.lend (i := 0) rfl (by simp) hI (fun _ e l16 hI => by subst e; exact (digest_Of_calls k ([([97] : List Int)] : List (List Int)) (some ⟨b10, 0, none⟩) 1 ((Ow.lit (kd := (kSlice (kInt .u8))) (b := b10) (T := 32) (xs := ([([97] : List Int)] : List (List Int))) (cs := [.slice (some ⟨b6, 0, none⟩) ([97] : List Int).length 1]) (.cons (x := ([97] : List Int)) (cs := [.slice (some ⟨b6, 0, none⟩) ([97] : List Int).length 1]) ⟨(some ⟨b6, 0, none⟩), 1, rfl, (HM9.rd l15)⟩ .nil)).rd l16) t13 ht14 hI))))) ?_
      rintro _ _ _ ⟨rfl, rfl, rfl⟩
      refine WL.pure 7 10 [10] (L' := [(10, .bool (t13 == 12638187200555641996))]) (by kernel_rfl) (by decide) ?_
      refine WL.split 10 (b := (t13 == 12638187200555641996)) (by kernel_rfl) (fun hc => ?_) (fun hc => ?_)
      · replace hc := eq_of_beq hc
        rw [if_pos hc] at h
        have hc17 := hc
        clear hc
        rw [Option.bind_eq_some_iff] at h
        obtain ⟨t18, ht19, h⟩ := h
        refine WL.op (op := .call { callee := (.value (.func 15)), args := #[(.const (.slice none 0 0))], argTypes := #[23] }) (ty := 26) (d := some 11) (g := some (9, true)) (by kernel_rfl) (by kernel_rfl) (by kernel_rfl) (Does.call (f := 15) (args := [.slice none 0 0]) (by kernel_rfl) (fun W hI => (digest_All_calls k ([] : List Int) none 0 (Rd.nil _ _ _ _) t18 ht19 hI))) ?_
        rintro _ _ _ ⟨rfl, rfl, rfl⟩
        refine WL.pure 11 14 [14] (L' := [(14, .bool (t18 == 0))]) (by kernel_rfl) (by decide) ?_
        refine WL.split 14 (b := (t18 == 0)) (by kernel_rfl) (fun hc => ?_) (fun hc => ?_)
        · replace hc := eq_of_beq hc
          rw [if_pos hc] at h
          have hc20 := hc
          clear hc
          refine WL.op (op := .buildSlice 23 2 #[(0, (.const (.int .u64 0))), (1, (.const (.int .u64 0)))]) (ty := 23) (d := some 15) (g := some (13, true)) (by kernel_rfl) (by kernel_rfl) (by kernel_rfl) (Does.new (o := .cells #[.int .u64 0, .int .u64 0] 26 (0, 0)) (v := fun r => .slice (some ⟨r, 0, none⟩) 2 2) (fun r => by kernel_rfl)) ?_
          rintro _ _ _ ⟨b21, rfl, rfl, rfl⟩
          have Ho23 : Ow (kInt .u64) G (some ⟨b21, 0, none⟩) 2 ([0, 0] : List Int) [(b21, .cells #[.int .u64 0, .int .u64 0] 26 (0, 0))] := Ow.lit (kd := (kInt .u64)) (G := G) (b := b21) (T := 26) (xs := ([0, 0] : List Int)) (cs := [.int .u64 0, .int .u64 0]) (.cons (x := 0) (cs := [.int .u64 0]) (by exact rfl) (.cons (x := 0) (cs := [.int .u64 0]) (by exact rfl) .nil))
          rw [Option.bind_eq_some_iff] at h
          obtain ⟨t24, ht25, h⟩ := h
          refine WL.op (op := .call { callee := (.value (.func 15)), args := #[(.tmp 15)], argTypes := #[23] }) (ty := 26) (d := some 16) (g := some (13, true)) (by kernel_rfl) (by kernel_rfl) (by kernel_rfl) (Does.call (Φ := fun v' G' Γ' => v' = .int .u64 t24 ∧ G = G' ∧ [(b21, .cells #[.int .u64 0, .int .u64 0] 26 (0, 0))] :: [(b10, .cells #[.slice (some ⟨b6, 0, none⟩) ([97] : List Int).length 1] 32 (0, 0))] :: CM9 :: Γ = Γ') (f := 15) (args := [.slice (some ⟨b21, 0, none⟩) ([0, 0] : List Int).length 2]) (by kernel_rfl) (fun W hI => Calls.lend (i := 0) rfl (Ow.nodup Ho23) hI (fun _ e l26 hI => by subst e; exact (digest_All_calls k ([0, 0] : List Int) (some ⟨b21, 0, none⟩) 2 (Ho23.rd l26) t24 ht25 hI)))) ?_
          rintro _ _ _ ⟨rfl, rfl, rfl⟩
          refine WL.pure 16 19 [19] (L' := [(19, .bool (t24 == 0))]) (by kernel_rfl) (by decide) ?_
          refine WL.split 19 (b := (t24 == 0)) (by kernel_rfl) (fun hc => ?_) (fun hc => ?_)
          · replace hc := eq_of_beq hc
            rw [if_pos hc] at h
            have hc27 := hc
            clear hc
            refine WL.op (op := .buildSlice 23 2 #[(0, (.const (.int .u64 0))), (1, (.const (.int .u64 1)))]) (ty := 23) (d := some 20) (g := some (18, true)) (by kernel_rfl) (by kernel_rfl) (by kernel_rfl) (Does.new (o := .cells #[.int .u64 0, .int .u64 1] 26 (0, 0)) (v := fun r => .slice (some ⟨r, 0, none⟩) 2 2) (fun r => by kernel_rfl)) ?_
            rintro _ _ _ ⟨b28, rfl, rfl, rfl⟩
            have Ho30 : Ow (kInt .u64) G (some ⟨b28, 0, none⟩) 2 ([0, 1] : List Int) [(b28, .cells #[.int .u64 0, .int .u64 1] 26 (0, 0))] := Ow.lit (kd := (kInt .u64)) (G := G) (b := b28) (T := 26) (xs := ([0, 1] : List Int)) (cs := [.int .u64 0, .int .u64 1]) (.cons (x := 0) (cs := [.int .u64 0]) (by exact rfl) (.cons (x := 1) (cs := [.int .u64 1]) (by exact rfl) .nil))
            rw [Option.bind_eq_some_iff] at h
            obtain ⟨t31, ht32, h⟩ := h
            refine WL.op (op := .call { callee := (.value (.func 15)), args := #[(.tmp 20)], argTypes := #[23] }) (ty := 26) (d := some 21) (g := some (18, true)) (by kernel_rfl) (by kernel_rfl) (by kernel_rfl) (Does.call (Φ := fun v' G' Γ' => v' = .int .u64 t31 ∧ G = G' ∧ [(b28, .cells #[.int .u64 0, .int .u64 1] 26 (0, 0))] :: [(b21, .cells #[.int .u64 0, .int .u64 0] 26 (0, 0))] :: [(b10, .cells #[.slice (some ⟨b6, 0, none⟩) ([97] : List Int).length 1] 32 (0, 0))] :: CM9 :: Γ = Γ') (f := 15) (args := [.slice (some ⟨b28, 0, none⟩) ([0, 1] : List Int).length 2]) (by kernel_rfl) (fun W hI => Calls.lend (i := 0) rfl (Ow.nodup Ho30) hI (fun _ e l33 hI => by subst e; exact (digest_All_calls k ([0, 1] : List Int) (some ⟨b28, 0, none⟩) 2 (Ho30.rd l33) t31 ht32 hI)))) ?_
            rintro _ _ _ ⟨rfl, rfl, rfl⟩
            refine WL.rest 21 [0] (L' := [(0, .bool (t31 != 0))]) (by kernel_rfl) ?_
            refine QP.dropAt 3 ?_
            refine QP.dropAt 2 ?_
            refine QP.dropAt 1 ?_
            refine QP.dropAt 0 ?_
            refine QP.pick [0] ?_
            exact QP.meet ⟨_, Option.some.inj h, rfl, rfl, rfl⟩
          · replace hc := ne_of_beq_false hc
            rw [if_neg hc] at h
            have hc27 := hc
            clear hc
            refine WL.rest 19 [0] (L' := [(0, .bool false)]) (by kernel_rfl) ?_
            refine QP.dropAt 2 ?_
            refine QP.dropAt 1 ?_
            refine QP.dropAt 0 ?_
            refine QP.pick [0] ?_
            exact QP.meet ⟨_, Option.some.inj h, rfl, rfl, rfl⟩
        · replace hc := ne_of_beq_false hc
          rw [if_neg hc] at h
          have hc20 := hc
          clear hc
          refine WL.rest 14 [0] (L' := [(0, .bool false)]) (by kernel_rfl) ?_
          refine QP.dropAt 1 ?_
          refine QP.dropAt 0 ?_
          refine QP.pick [0] ?_
          exact QP.meet ⟨_, Option.some.inj h, rfl, rfl, rfl⟩
      · replace hc := ne_of_beq_false hc
        rw [if_neg hc] at h
        have hc17 := hc
        clear hc
        refine WL.rest 10 [0] (L' := [(0, .bool false)]) (by kernel_rfl) ?_
        refine QP.dropAt 1 ?_
        refine QP.dropAt 0 ?_
        refine QP.pick [0] ?_
        exact QP.meet ⟨_, Option.some.inj h, rfl, rfl, rfl⟩
    · replace hc := ne_of_beq_false hc
      rw [if_neg hc] at h
      have hc5 := hc
      clear hc
      refine WL.rest 3 [0] (L' := [(0, .bool false)]) (by kernel_rfl) ?_
      refine QP.pick [0] ?_
      exact QP.meet ⟨_, Option.some.inj h, rfl, rfl, rfl⟩
  · rintro _ _ _ ⟨s1, rfl, rfl, rfl, rfl⟩
    clear h
    replace h := hk2
    refine WP.ret ?_
    obtain rfl := Option.some.inj h
    exact QP.returned [0] [.bool s1] _ (by kernel_rfl) (by kernel_rfl) (by kernel_rfl) (fun W hI => ⟨_, _, _, rfl, ⟨rfl, rfl, rfl⟩, hI⟩)

/-! ### grapevine/grapevineref5.more: function 30 -/
def grapevineref5_more_l0 (l1 : List Int) : Nat → Int → Int → Option Int
  | 0, _, _ => none
  | k + 1, y3, y4 => (if y4 < (l1.length : Int) then (if 0 ≤ y4 ∧ y4 < (l1.length : Int) then grapevineref5_more_l0 l1 k (IntKind.u64.wrap ((Go.bits .xor .u64 y3 (IntKind.u64.wrap (l1.getD y4.toNat 0))) * 1099511628211)) (IntKind.i64.wrap (y4 + 1)) else none) else some y3)
def grapevineref5_more (k : Nat) (a0 : Int) (l1 : List Int) : Option Int := ((grapevineref5_more_l0 l1 k a0 0).bind fun s1 => some s1)
set_option maxHeartbeats 4000000 in
theorem grapevineref5_more_calls {B : World} {G : GMap} {Γ : List Chunk} {W : World} (k : Nat) (a0 : Int) (l1 : List Int) (Al1 : Option Addr) (cl1 : Nat) (Hl1 : Rd (kInt .u8) G Al1 cl1 l1) (r : Int) (h : grapevineref5_more k a0 l1 = some r) (hI : Inv B G (Γ) W) :
    Calls Try.prog 30 [.int .u64 a0, .slice Al1 l1.length cl1].toArray W (Ret B (fun v G' Γ' => v = .int .u64 r ∧ G = G' ∧ Γ = Γ')) := by
  refine calls_WP (Γ := Γ) (G := G) (B := B) Try.func30 rfl (by kernel_rfl) ?_ hI
  clear hI
  unfold grapevineref5_more at h
  refine WP.seqP [0, 1] (L' := [(0, .int .u64 a0), (1, .slice Al1 l1.length cl1)]) (by kernel_rfl) ?_
  refine WP.seq ?_
  refine WP.seqP [0, 1, 5] (L' := [(0, .int .u64 a0), (1, .slice Al1 l1.length cl1), (5, .int .i64 0)]) (by kernel_rfl) ?_
  rw [Option.bind_eq_some_iff] at h
  obtain ⟨os1, h, hk2⟩ := h
  refine WP.cutQ (fun L' G' Γ' => ∃ s1 : Int, s1 = os1 ∧ L' = [(0, .int .u64 s1)] ∧ G = G' ∧ Γ = Γ') ?_ ?_
  · clear hk2
    refine WP.block ?_
    refine WP.pick [0, 1, 5] ?_
    refine WP.loopF (fun k5 L' G' Γ' => ∃ (y3 : Int), ∃ (y4 : Int), grapevineref5_more_l0 l1 k5 y3 y4 = some os1 ∧ L' = [(0, .int .u64 y3), (1, .slice Al1 l1.length cl1), (5, .int .i64 y4)] ∧ G = G' ∧ Γ = Γ') ?_ k ⟨a0, 0, h, rfl, rfl, rfl⟩
    clear h
    rintro k6 _ _ _ ⟨y3, y4, h, rfl, rfl, rfl⟩
    cases k6 with
    | zero => exact absurd h (by simp [grapevineref5_more_l0])
    | succ k6 =>
      simp only [grapevineref5_more_l0] at h
      refine WP.seq ?_
      refine WP.seqP [0, 1, 5, 9] (L' := [(0, .int .u64 y3), (1, .slice Al1 l1.length cl1), (5, .int .i64 y4), (9, .bool (decide (y4 < (l1.length : Int))))]) (by kernel_rfl) ?_
      refine WP.cond (b := decide (y4 < (l1.length : Int))) (by kernel_rfl) (fun hc => ?_) (fun hc => ?_)
      · replace hc := of_decide_eq_true hc
        rw [if_pos hc] at h
        have hc7 := hc
        clear hc
        refine WP.skip ?_
        refine QP.next ?_
        refine WP.pick [0, 1, 5] ?_
        refine WP.seq ?_
        refine WP.block ?_
        refine WP.region ?_
        refine WL.pure 0 3 [0, 1, 5, 12, 13, 14] (L' := [(0, .int .u64 y3), (1, .slice Al1 l1.length cl1), (5, .int .i64 y4), (12, .int .u64 y3), (13, .slice Al1 l1.length cl1), (14, .int .i64 y4)]) (by kernel_rfl) (by decide) ?_
        by_cases hb8 : 0 ≤ y4 ∧ y4 < (l1.length : Int)
        case neg => rw [if_neg hb8] at h; cases h
        rw [if_pos hb8] at h
        refine WL.tell (op := .indexAddr 32 (.tmp 13) (.tmp 14)) (ty := 0) (d := some 15) (g := none) (by kernel_rfl) (by kernel_rfl) (by kernel_rfl) (Tells.indexAddr (A := Al1) (n := l1.length) (c := cl1) (k := .i64) (j := y4) (by kernel_rfl) (by kernel_rfl) (Hl1.isSome hb8.1 hb8.2) hb8.1 hb8.2 sl32) ?_
        refine WL.tellE (op := .load 5 (.tmp 15)) (ty := 5) (d := some 16) (g := none) (by kernel_rfl) (by kernel_rfl) (by kernel_rfl) (Hl1.load (agg := false) hb8.1 hb8.2 0 ag5 (fun _ => rfl) (by kernel_rfl)) ?_
        rintro _ rfl
        refine WL.rest 5 [0, 1, 5] (L' := [(0, .int .u64 (IntKind.u64.wrap ((Go.bits .xor .u64 y3 (IntKind.u64.wrap (l1.getD y4.toNat 0))) * 1099511628211))), (1, .slice Al1 l1.length cl1), (5, .int .i64 y4)]) (by kernel_rfl) ?_
        refine QP.blockN ?_
        refine QP.next ?_
        refine WP.pick [0, 1, 5] ?_
        refine WP.regionP [0, 1, 5] (L' := [(0, .int .u64 (IntKind.u64.wrap ((Go.bits .xor .u64 y3 (IntKind.u64.wrap (l1.getD y4.toNat 0))) * 1099511628211))), (1, .slice Al1 l1.length cl1), (5, .int .i64 (IntKind.i64.wrap (y4 + 1)))]) (by kernel_rfl) ?_
        refine QP.pick [0, 1, 5] ?_
        exact QP.meet ⟨k6, Nat.lt_succ_self _, (IntKind.u64.wrap ((Go.bits .xor .u64 y3 (IntKind.u64.wrap (l1.getD y4.toNat 0))) * 1099511628211)), (IntKind.i64.wrap (y4 + 1)), h, rfl, rfl, rfl⟩
      · replace hc := of_decide_eq_false hc
        rw [if_neg hc] at h
        have hc7 := hc
        clear hc
        refine WP.exit ?_
        refine QP.thenE ?_
        refine QP.thenE ?_
        refine QP.blockE ?_
        refine QP.pick [0] ?_
        exact QP.meet ⟨_, Option.some.inj h, rfl, rfl, rfl⟩
  · rintro _ _ _ ⟨s1, rfl, rfl, rfl, rfl⟩
    clear h
    replace h := hk2
    refine QP.next ?_
    refine WP.pick [0] ?_
    refine WP.seqP [4] (L' := [(4, .int .u64 s1)]) (by kernel_rfl) ?_
    refine WP.ret ?_
    obtain rfl := Option.some.inj h
    exact QP.returned [4] [.int .u64 s1] _ (by kernel_rfl) (by kernel_rfl) (by kernel_rfl) (fun W hI => ⟨_, _, _, rfl, ⟨rfl, rfl, rfl⟩, hI⟩)

/-! ### grapevine/grapevineref5.Of: function 14 -/
def grapevineref5_Of_l0 (l0 : List (List Int)) : Nat → Int → Int → Option Int
  | 0, _, _ => none
  | k + 1, y3, y4 => (if y4 < (l0.length : Int) then (if 0 ≤ y4 ∧ y4 < (l0.length : Int) then ((grapevineref5_more k y3 (l0.getD y4.toNat [])).bind fun t10 => grapevineref5_Of_l0 l0 k t10 (IntKind.i64.wrap (y4 + 1))) else none) else some y3)
def grapevineref5_Of (k : Nat) (l0 : List (List Int)) : Option Int := ((grapevineref5_Of_l0 l0 k 14695981039346656037 0).bind fun s1 => some s1)
set_option maxHeartbeats 4000000 in
theorem grapevineref5_Of_calls {B : World} {G : GMap} {Γ : List Chunk} {W : World} (k : Nat) (l0 : List (List Int)) (Al0 : Option Addr) (cl0 : Nat) (Hl0 : Rd (kSlice (kInt .u8)) G Al0 cl0 l0) (r : Int) (h : grapevineref5_Of k l0 = some r) (hI : Inv B G (Γ) W) :
    Calls Try.prog 14 [.slice Al0 l0.length cl0].toArray W (Ret B (fun v G' Γ' => v = .int .u64 r ∧ G = G' ∧ Γ = Γ')) := by
  refine calls_WP (Γ := Γ) (G := G) (B := B) Try.func14 rfl (by kernel_rfl) ?_ hI
  clear hI
  unfold grapevineref5_Of at h
  refine WP.seqP [0] (L' := [(0, .slice Al0 l0.length cl0)]) (by kernel_rfl) ?_
  refine WP.seqP [0, 3] (L' := [(0, .slice Al0 l0.length cl0), (3, .int .u64 14695981039346656037)]) (by kernel_rfl) ?_
  refine WP.seq ?_
  refine WP.seqP [0, 3, 4] (L' := [(0, .slice Al0 l0.length cl0), (3, .int .u64 14695981039346656037), (4, .int .i64 0)]) (by kernel_rfl) ?_
  rw [Option.bind_eq_some_iff] at h
  obtain ⟨os1, h, hk2⟩ := h
  refine WP.cutQ (fun L' G' Γ' => ∃ s1 : Int, s1 = os1 ∧ L' = [(3, .int .u64 s1)] ∧ G = G' ∧ Γ = Γ') ?_ ?_
  · clear hk2
    refine WP.block ?_
    refine WP.pick [0, 3, 4] ?_
    refine WP.loopF (fun k5 L' G' Γ' => ∃ (y3 : Int), ∃ (y4 : Int), grapevineref5_Of_l0 l0 k5 y3 y4 = some os1 ∧ L' = [(0, .slice Al0 l0.length cl0), (3, .int .u64 y3), (4, .int .i64 y4)] ∧ G = G' ∧ Γ = Γ') ?_ k ⟨14695981039346656037, 0, h, rfl, rfl, rfl⟩
    clear h
    rintro k6 _ _ _ ⟨y3, y4, h, rfl, rfl, rfl⟩
    cases k6 with
    | zero => exact absurd h (by simp [grapevineref5_Of_l0])
    | succ k6 =>
      simp only [grapevineref5_Of_l0] at h
      refine WP.seq ?_
      refine WP.seqP [0, 3, 4, 8] (L' := [(0, .slice Al0 l0.length cl0), (3, .int .u64 y3), (4, .int .i64 y4), (8, .bool (decide (y4 < (l0.length : Int))))]) (by kernel_rfl) ?_
      refine WP.cond (b := decide (y4 < (l0.length : Int))) (by kernel_rfl) (fun hc => ?_) (fun hc => ?_)
      · replace hc := of_decide_eq_true hc
        rw [if_pos hc] at h
        have hc7 := hc
        clear hc
        refine WP.skip ?_
        refine QP.next ?_
        refine WP.pick [0, 3, 4] ?_
        refine WP.seq ?_
        refine WP.block ?_
        refine WP.region ?_
        refine WL.pure 0 3 [0, 3, 4, 11, 12, 13] (L' := [(0, .slice Al0 l0.length cl0), (3, .int .u64 y3), (4, .int .i64 y4), (11, .int .u64 y3), (12, .slice Al0 l0.length cl0), (13, .int .i64 y4)]) (by kernel_rfl) (by decide) ?_
        by_cases hb8 : 0 ≤ y4 ∧ y4 < (l0.length : Int)
        case neg => rw [if_neg hb8] at h; cases h
        rw [if_pos hb8] at h
        refine WL.tell (op := .indexAddr 22 (.tmp 12) (.tmp 13)) (ty := 0) (d := some 14) (g := none) (by kernel_rfl) (by kernel_rfl) (by kernel_rfl) (Tells.indexAddr (A := Al0) (n := l0.length) (c := cl0) (k := .i64) (j := y4) (by kernel_rfl) (by kernel_rfl) (Hl0.isSome hb8.1 hb8.2) hb8.1 hb8.2 sl22) ?_
        refine WL.tellE (op := .load 32 (.tmp 14)) (ty := 32) (d := some 15) (g := none) (by kernel_rfl) (by kernel_rfl) (by kernel_rfl) (Hl0.load (agg := false) hb8.1 hb8.2 [] ag32 (fun _ => rfl) (by kernel_rfl)) ?_
        rintro _ ⟨Ae9, ce9, rfl, He9⟩
        rw [Option.bind_eq_some_iff] at h
        obtain ⟨t10, ht11, h⟩ := h
        refine WL.op (op := .call { callee := (.value (.func 30)), args := #[(.tmp 11), (.tmp 15)], argTypes := #[26, 32] }) (ty := 26) (d := some 16) (g := none) (by kernel_rfl) (by kernel_rfl) (by kernel_rfl) (Does.call (f := 30) (args := [.int .u64 y3, .slice Ae9 (l0.getD y4.toNat []).length ce9]) (by kernel_rfl) (fun W hI => (grapevineref5_more_calls k6 y3 (l0.getD y4.toNat []) Ae9 ce9 He9 t10 ht11 hI))) ?_
        rintro _ _ _ ⟨rfl, rfl, rfl⟩
        refine WL.rest 6 [0, 3, 4] (L' := [(0, .slice Al0 l0.length cl0), (3, .int .u64 t10), (4, .int .i64 y4)]) (by kernel_rfl) ?_
        refine QP.blockN ?_
        refine QP.next ?_
        refine WP.pick [0, 3, 4] ?_
        refine WP.regionP [0, 3, 4] (L' := [(0, .slice Al0 l0.length cl0), (3, .int .u64 t10), (4, .int .i64 (IntKind.i64.wrap (y4 + 1)))]) (by kernel_rfl) ?_
        refine QP.pick [0, 3, 4] ?_
        exact QP.meet ⟨k6, Nat.lt_succ_self _, t10, (IntKind.i64.wrap (y4 + 1)), h, rfl, rfl, rfl⟩
      · replace hc := of_decide_eq_false hc
        rw [if_neg hc] at h
        have hc7 := hc
        clear hc
        refine WP.exit ?_
        refine QP.thenE ?_
        refine QP.thenE ?_
        refine QP.blockE ?_
        refine QP.pick [3] ?_
        exact QP.meet ⟨_, Option.some.inj h, rfl, rfl, rfl⟩
  · rintro _ _ _ ⟨s1, rfl, rfl, rfl, rfl⟩
    clear h
    replace h := hk2
    refine QP.next ?_
    refine WP.pick [3] ?_
    refine WP.seqP [2] (L' := [(2, .int .u64 s1)]) (by kernel_rfl) ?_
    refine WP.ret ?_
    obtain rfl := Option.some.inj h
    exact QP.returned [2] [.int .u64 s1] _ (by kernel_rfl) (by kernel_rfl) (by kernel_rfl) (fun W hI => ⟨_, _, _, rfl, ⟨rfl, rfl, rfl⟩, hI⟩)

/-! ### grapevine/grapevineref5.One: function 31 -/
def grapevineref5_One (k : Nat) (l0 : List Int) : Option Int := ((grapevineref5_Of k ([l0] : List (List Int))).bind fun t4 => some t4)
set_option maxHeartbeats 4000000 in
theorem grapevineref5_One_calls {B : World} {G : GMap} {Γ : List Chunk} {W : World} (k : Nat) (l0 : List Int) (Al0 : Option Addr) (cl0 : Nat) (Hl0 : Rd (kInt .u8) G Al0 cl0 l0) (r : Int) (h : grapevineref5_One k l0 = some r) (hI : Inv B G (Γ) W) :
    Calls Try.prog 31 [.slice Al0 l0.length cl0].toArray W (Ret B (fun v G' Γ' => v = .int .u64 r ∧ G = G' ∧ Γ = Γ')) := by
  refine calls_WP (Γ := Γ) (G := G) (B := B) Try.func31 rfl (by kernel_rfl) ?_ hI
  clear hI
  unfold grapevineref5_One at h
  refine WP.seqP [0] (L' := [(0, .slice Al0 l0.length cl0)]) (by kernel_rfl) ?_
  refine WP.seqR ?_
  refine WL.pure 0 1 [3] (L' := [(3, .slice Al0 l0.length cl0)]) (by kernel_rfl) (by decide) ?_
  refine WL.op (op := .buildSlice 22 1 #[(0, (.tmp 3))]) (ty := 22) (d := some 4) (g := none) (by kernel_rfl) (by kernel_rfl) (by kernel_rfl) (Does.new (o := .cells #[.slice Al0 l0.length cl0] 32 (0, 0)) (v := fun r => .slice (some ⟨r, 0, none⟩) 1 1) (fun r => by kernel_rfl)) ?_
  rintro _ _ _ ⟨b1, rfl, rfl, rfl⟩
  have Ho3 : Ow (kSlice (kInt .u8)) G (some ⟨b1, 0, none⟩) 1 ([l0] : List (List Int)) [(b1, .cells #[.slice Al0 l0.length cl0] 32 (0, 0))] := Ow.lit (kd := (kSlice (kInt .u8))) (G := G) (b := b1) (T := 32) (xs := ([l0] : List (List Int))) (cs := [.slice Al0 l0.length cl0]) (.cons (x := l0) (cs := [.slice Al0 l0.length cl0]) ⟨Al0, cl0, rfl, Hl0⟩ .nil)
  rw [Option.bind_eq_some_iff] at h
  obtain ⟨t4, ht5, h⟩ := h
  refine WL.op (op := .call { callee := (.value (.func 14)), args := #[(.tmp 4)], argTypes := #[22] }) (ty := 26) (d := some 5) (g := none) (by kernel_rfl) (by kernel_rfl) (by kernel_rfl) (Does.call (Φ := fun v' G' Γ' => v' = .int .u64 t4 ∧ G = G' ∧ [(b1, .cells #[.slice Al0 l0.length cl0] 32 (0, 0))] :: Γ = Γ') (f := 14) (args := [.slice (some ⟨b1, 0, none⟩) ([l0] : List (List Int)).length 1]) (by kernel_rfl) (fun W hI => Calls.lend (i := 0) rfl (Ow.nodup Ho3) hI (fun _ e l6 hI => by subst e; exact (grapevineref5_Of_calls k ([l0] : List (List Int)) (some ⟨b1, 0, none⟩) 1 (Ho3.rd l6) t4 ht5 hI)))) ?_
  rintro _ _ _ ⟨rfl, rfl, rfl⟩
  refine WL.restQ 3 [2] (L' := [(2, .int .u64 t4)]) (by kernel_rfl) ?_
  refine WP.ret ?_
  obtain rfl := Option.some.inj h
  refine QP.dropAt 0 ?_
  exact QP.returned [2] [.int .u64 t4] _ (by kernel_rfl) (by kernel_rfl) (by kernel_rfl) (fun W hI => ⟨_, _, _, rfl, ⟨rfl, rfl, rfl⟩, hI⟩)

/-! ### grapevine/grapevineref5.All: function 16 -/
def grapevineref5_All_l1 (l0 : List Int) (y5 : Int) : Nat → (List Int) → Int → Option (List Int)
  | 0, _, _ => none
  | k + 1, y15, y16 => (if y16 ≥ 0 then (if 0 ≤ y5 ∧ y5 < (l0.length : Int) then (if 0 ≤ (IntKind.i64.wrap (8 * y16)) then (if y15.length + ([IntKind.u8.wrap (shrK .u64 (l0.getD y5.toNat 0) (IntKind.i64.wrap (8 * y16)))] : List Int).length ≤ 1073741824 then grapevineref5_All_l1 l0 y5 k (y15 ++ ([IntKind.u8.wrap (shrK .u64 (l0.getD y5.toNat 0) (IntKind.i64.wrap (8 * y16)))] : List Int)) (IntKind.i64.wrap (y16 - 1)) else none) else none) else none) else some y15)
def grapevineref5_All_l0 (l0 : List Int) : Nat → Bool → (List Int) → Int → Option (Bool × (List Int))
  | 0, _, _, _ => none
  | k + 1, y3, y4, y5 => (if y5 < (l0.length : Int) then ((if y3 = true then some true else (if 0 ≤ y5 ∧ y5 < (l0.length : Int) then some ((l0.getD y5.toNat 0) != 0) else none)).bind fun s9 => ((grapevineref5_All_l1 l0 y5 k y4 7).bind fun s13 => grapevineref5_All_l0 l0 k s9 s13 (IntKind.i64.wrap (y5 + 1)))) else some (y3, y4))
def grapevineref5_All (k : Nat) (l0 : List Int) : Option Int := ((grapevineref5_All_l0 l0 k false ([] : List Int) 0).bind fun s1 => (if (!s1.1) = true then some 0 else ((grapevineref5_One k s1.2).bind fun t28 => some t28)))
set_option maxHeartbeats 4000000 in
theorem grapevineref5_All_calls {B : World} {G : GMap} {Γ : List Chunk} {W : World} (k : Nat) (l0 : List Int) (Al0 : Option Addr) (cl0 : Nat) (Hl0 : Rd (kInt .u64) G Al0 cl0 l0) (r : Int) (h : grapevineref5_All k l0 = some r) (hI : Inv B G (Γ) W) :
    Calls Try.prog 16 [.slice Al0 l0.length cl0].toArray W (Ret B (fun v G' Γ' => v = .int .u64 r ∧ G = G' ∧ Γ = Γ')) := by
  refine calls_WP (Γ := Γ) (G := G) (B := B) Try.func16 rfl (by kernel_rfl) ?_ hI
  clear hI
  unfold grapevineref5_All at h
  refine WP.seqP [0] (L' := [(0, .slice Al0 l0.length cl0)]) (by kernel_rfl) ?_
  refine WP.seqP [0, 3] (L' := [(0, .slice Al0 l0.length cl0), (3, .bool false)]) (by kernel_rfl) ?_
  refine WP.seqP [0, 3, 4] (L' := [(0, .slice Al0 l0.length cl0), (3, .bool false), (4, .slice none 0 0)]) (by kernel_rfl) ?_
  refine WP.seq ?_
  refine WP.seqP [0, 3, 4, 5] (L' := [(0, .slice Al0 l0.length cl0), (3, .bool false), (4, .slice none 0 0), (5, .int .i64 0)]) (by kernel_rfl) ?_
  rw [Option.bind_eq_some_iff] at h
  obtain ⟨os1, h, hk2⟩ := h
  refine WP.cutQ (fun L' G' Γ' => ∃ s1 : Bool × (List Int), s1 = os1 ∧ ∃ (As1_2 : Option Addr), ∃ (cs1_2 : Nat), ∃ (Cs1_2 : Chunk), L' = [(3, .bool s1.1), (4, .slice As1_2 s1.2.length cs1_2)] ∧ G = G' ∧ Cs1_2 :: Γ = Γ' ∧ Ow (kInt .u8) G As1_2 cs1_2 s1.2 Cs1_2) ?_ ?_
  · clear hk2
    refine WP.block ?_
    refine WP.addNil ?_
    refine WP.pick [0, 3, 4, 5] ?_
    refine WP.loopF (fun k6 L' G' Γ' => ∃ (y3 : Bool), ∃ (y4 : List Int), ∃ (y5 : Int), grapevineref5_All_l0 l0 k6 y3 y4 y5 = some os1 ∧ ∃ (Ay4 : Option Addr), ∃ (cy4 : Nat), ∃ (Cy4 : Chunk), L' = [(0, .slice Al0 l0.length cl0), (3, .bool y3), (4, .slice Ay4 y4.length cy4), (5, .int .i64 y5)] ∧ G = G' ∧ Cy4 :: Γ = Γ' ∧ Ow (kInt .u8) G Ay4 cy4 y4 Cy4) ?_ k ⟨false, ([] : List Int), 0, h, none, 0, [], rfl, rfl, rfl, (Ow.nil _ _)⟩
    clear h
    rintro k7 _ _ _ ⟨y3, y4, y5, h, Ay4, cy4, Cy4, rfl, rfl, rfl, Hy4⟩
    cases k7 with
    | zero => exact absurd h (by simp [grapevineref5_All_l0])
    | succ k7 =>
      simp only [grapevineref5_All_l0] at h
      refine WP.seq ?_
      refine WP.seqP [0, 3, 4, 5, 10] (L' := [(0, .slice Al0 l0.length cl0), (3, .bool y3), (4, .slice Ay4 y4.length cy4), (5, .int .i64 y5), (10, .bool (decide (y5 < (l0.length : Int))))]) (by kernel_rfl) ?_
      refine WP.cond (b := decide (y5 < (l0.length : Int))) (by kernel_rfl) (fun hc => ?_) (fun hc => ?_)
      · replace hc := of_decide_eq_true hc
        rw [if_pos hc] at h
        have hc8 := hc
        clear hc
        refine WP.skip ?_
        refine QP.next ?_
        refine WP.pick [0, 3, 4, 5] ?_
        refine WP.seq ?_
        refine WP.block ?_
        rw [Option.bind_eq_some_iff] at h
        obtain ⟨os9, h, hk10⟩ := h
        refine WP.cut (fun L' G' Γ' => ∃ s9 : Bool, s9 = os9 ∧ L' = [(0, .slice Al0 l0.length cl0), (3, .bool s9), (4, .slice Ay4 y4.length cy4), (5, .int .i64 y5)] ∧ G = G' ∧ Cy4 :: Γ = Γ') ?_ ?_
        · clear hk10
          refine WP.region ?_
          refine WL.pure 0 2 [0, 3, 4, 5, 14] (L' := [(0, .slice Al0 l0.length cl0), (3, .bool y3), (4, .slice Ay4 y4.length cy4), (5, .int .i64 y5), (14, .bool y3)]) (by kernel_rfl) (by decide) ?_
          refine WL.split 14 (b := y3) (by kernel_rfl) (fun hc => ?_) (fun hc => ?_)
          · replace hc := hc
            rw [if_pos hc] at h
            have hc11 := hc
            clear hc
            refine WL.rest 2 [0, 3, 4, 5] (L' := [(0, .slice Al0 l0.length cl0), (3, .bool true), (4, .slice Ay4 y4.length cy4), (5, .int .i64 y5)]) (by kernel_rfl) ?_
            refine QP.pick [0, 3, 4, 5] ?_
            exact QP.meet ⟨_, Option.some.inj h, rfl, rfl, rfl⟩
          · replace hc := (Bool.eq_false_iff.1 hc)
            rw [if_neg hc] at h
            have hc11 := hc
            clear hc
            refine WL.pure 2 4 [0, 3, 4, 5, 14, 15, 16] (L' := [(0, .slice Al0 l0.length cl0), (3, .bool y3), (4, .slice Ay4 y4.length cy4), (5, .int .i64 y5), (14, .bool false), (15, .slice Al0 l0.length cl0), (16, .int .i64 y5)]) (by kernel_rfl) (by decide) ?_
            by_cases hb12 : 0 ≤ y5 ∧ y5 < (l0.length : Int)
            case neg => rw [if_neg hb12] at h; cases h
            rw [if_pos hb12] at h
            refine WL.tell (op := .indexAddr 23 (.tmp 15) (.tmp 16)) (ty := 0) (d := some 17) (g := some (1, false)) (by kernel_rfl) (by kernel_rfl) (by kernel_rfl) (Tells.indexAddr (A := Al0) (n := l0.length) (c := cl0) (k := .i64) (j := y5) (by kernel_rfl) (by kernel_rfl) (Hl0.isSome hb12.1 hb12.2) hb12.1 hb12.2 sl23) ?_
            refine WL.tellE (op := .load 26 (.tmp 17)) (ty := 26) (d := some 18) (g := some (1, false)) (by kernel_rfl) (by kernel_rfl) (by kernel_rfl) (Hl0.load (agg := false) hb12.1 hb12.2 0 ag26 (fun _ => rfl) (by kernel_rfl)) ?_
            rintro _ rfl
            refine WL.rest 6 [0, 3, 4, 5] (L' := [(0, .slice Al0 l0.length cl0), (3, .bool ((l0.getD y5.toNat 0) != 0)), (4, .slice Ay4 y4.length cy4), (5, .int .i64 y5)]) (by kernel_rfl) ?_
            refine QP.pick [0, 3, 4, 5] ?_
            exact QP.meet ⟨_, Option.some.inj h, rfl, rfl, rfl⟩
        · rintro _ _ _ ⟨s9, rfl, rfl, rfl, rfl⟩
          clear h
          replace h := hk10
          refine WP.seqP [0, 3, 4, 5, 6] (L' := [(0, .slice Al0 l0.length cl0), (3, .bool s9), (4, .slice Ay4 y4.length cy4), (5, .int .i64 y5), (6, .int .i64 7)]) (by kernel_rfl) ?_
          rw [Option.bind_eq_some_iff] at h
          obtain ⟨os13, h, hk14⟩ := h
          refine WP.cutQ (fun L' G' Γ' => ∃ s13 : (List Int), s13 = os13 ∧ ∃ (As13 : Option Addr), ∃ (cs13 : Nat), ∃ (Cs13 : Chunk), L' = [(0, .slice Al0 l0.length cl0), (3, .bool s9), (4, .slice As13 s13.length cs13), (5, .int .i64 y5)] ∧ G = G' ∧ Cs13 :: Γ = Γ' ∧ Ow (kInt .u8) G As13 cs13 s13 Cs13) ?_ ?_
          · clear hk14
            refine WP.block ?_
            refine WP.pick [0, 3, 4, 5, 6] ?_
            refine WP.loopF (fun k17 L' G' Γ' => ∃ (y15 : List Int), ∃ (y16 : Int), grapevineref5_All_l1 l0 y5 k17 y15 y16 = some os13 ∧ ∃ (Ay15 : Option Addr), ∃ (cy15 : Nat), ∃ (Cy15 : Chunk), L' = [(0, .slice Al0 l0.length cl0), (3, .bool s9), (4, .slice Ay15 y15.length cy15), (5, .int .i64 y5), (6, .int .i64 y16)] ∧ G = G' ∧ Cy15 :: Γ = Γ' ∧ Ow (kInt .u8) G Ay15 cy15 y15 Cy15) ?_ k7 ⟨y4, 7, h, Ay4, cy4, Cy4, rfl, rfl, rfl, Hy4⟩
            clear h
            rintro k18 _ _ _ ⟨y15, y16, h, Ay15, cy15, Cy15, rfl, rfl, rfl, Hy15⟩
            cases k18 with
            | zero => exact absurd h (by simp [grapevineref5_All_l1])
            | succ k18 =>
              simp only [grapevineref5_All_l1] at h
              refine WP.seq ?_
              refine WP.seqP [0, 3, 4, 5, 6, 22] (L' := [(0, .slice Al0 l0.length cl0), (3, .bool s9), (4, .slice Ay15 y15.length cy15), (5, .int .i64 y5), (6, .int .i64 y16), (22, .bool (decide (y16 ≥ 0)))]) (by kernel_rfl) ?_
              refine WP.cond (b := decide (y16 ≥ 0)) (by kernel_rfl) (fun hc => ?_) (fun hc => ?_)
              · replace hc := of_decide_eq_true hc
                rw [if_pos hc] at h
                have hc19 := hc
                clear hc
                refine WP.skip ?_
                refine QP.next ?_
                refine WP.pick [0, 3, 4, 5, 6] ?_
                refine WP.seq ?_
                refine WP.block ?_
                refine WP.region ?_
                refine WL.pure 0 3 [0, 3, 4, 5, 6, 25, 26, 27] (L' := [(0, .slice Al0 l0.length cl0), (3, .bool s9), (4, .slice Ay15 y15.length cy15), (5, .int .i64 y5), (6, .int .i64 y16), (25, .slice Ay15 y15.length cy15), (26, .slice Al0 l0.length cl0), (27, .int .i64 y5)]) (by kernel_rfl) (by decide) ?_
                by_cases hb20 : 0 ≤ y5 ∧ y5 < (l0.length : Int)
                case neg => rw [if_neg hb20] at h; cases h
                rw [if_pos hb20] at h
                refine WL.tell (op := .indexAddr 23 (.tmp 26) (.tmp 27)) (ty := 0) (d := some 28) (g := none) (by kernel_rfl) (by kernel_rfl) (by kernel_rfl) (Tells.indexAddr (A := Al0) (n := l0.length) (c := cl0) (k := .i64) (j := y5) (by kernel_rfl) (by kernel_rfl) (Hl0.isSome hb20.1 hb20.2) hb20.1 hb20.2 sl23) ?_
                refine WL.tellE (op := .load 26 (.tmp 28)) (ty := 26) (d := some 29) (g := none) (by kernel_rfl) (by kernel_rfl) (by kernel_rfl) (Hl0.load (agg := false) hb20.1 hb20.2 0 ag26 (fun _ => rfl) (by kernel_rfl)) ?_
                rintro _ rfl
                refine WL.pure 5 7 [0, 3, 4, 5, 6, 25, 29, 31] (L' := [(0, .slice Al0 l0.length cl0), (3, .bool s9), (4, .slice Ay15 y15.length cy15), (5, .int .i64 y5), (6, .int .i64 y16), (25, .slice Ay15 y15.length cy15), (29, .int .u64 (l0.getD y5.toNat 0)), (31, .int .i64 (IntKind.i64.wrap (8 * y16)))]) (by kernel_rfl) (by decide) ?_
                by_cases hb21 : 0 ≤ (IntKind.i64.wrap (8 * y16))
                case neg => rw [if_neg hb21] at h; cases h
                rw [if_pos hb21] at h
                refine WL.tell (op := .binOp .shr 26 (.tmp 29) (.tmp 31) 3) (ty := 26) (d := some 32) (g := none) (by kernel_rfl) (by kernel_rfl) (by kernel_rfl) (Tells.shr (k := .u64) (k' := .i64) (a := (l0.getD y5.toNat 0)) (b := (IntKind.i64.wrap (8 * y16))) (by kernel_rfl) (by kernel_rfl) hb21) ?_
                refine WL.pure 8 9 [0, 3, 4, 5, 6, 25, 33] (L' := [(0, .slice Al0 l0.length cl0), (3, .bool s9), (4, .slice Ay15 y15.length cy15), (5, .int .i64 y5), (6, .int .i64 y16), (25, .slice Ay15 y15.length cy15), (33, .int .u8 (IntKind.u8.wrap (shrK .u64 (l0.getD y5.toNat 0) (IntKind.i64.wrap (8 * y16)))))]) (by kernel_rfl) (by decide) ?_
                refine WL.op (op := .buildSlice 32 1 #[(0, (.tmp 33))]) (ty := 32) (d := some 34) (g := none) (by kernel_rfl) (by kernel_rfl) (by kernel_rfl) (Does.new (o := .cells #[.int .u8 (IntKind.u8.wrap (shrK .u64 (l0.getD y5.toNat 0) (IntKind.i64.wrap (8 * y16))))] 5 (0, 0)) (v := fun r => .slice (some ⟨r, 0, none⟩) 1 1) (fun r => by kernel_rfl)) ?_
                rintro _ _ _ ⟨b22, rfl, rfl, rfl⟩
                have Ho24 : Ow (kInt .u8) G (some ⟨b22, 0, none⟩) 1 ([IntKind.u8.wrap (shrK .u64 (l0.getD y5.toNat 0) (IntKind.i64.wrap (8 * y16)))] : List Int) [(b22, .cells #[.int .u8 (IntKind.u8.wrap (shrK .u64 (l0.getD y5.toNat 0) (IntKind.i64.wrap (8 * y16))))] 5 (0, 0))] := Ow.lit (kd := (kInt .u8)) (G := G) (b := b22) (T := 5) (xs := ([IntKind.u8.wrap (shrK .u64 (l0.getD y5.toNat 0) (IntKind.i64.wrap (8 * y16)))] : List Int)) (cs := [.int .u8 (IntKind.u8.wrap (shrK .u64 (l0.getD y5.toNat 0) (IntKind.i64.wrap (8 * y16))))]) (.cons (x := (IntKind.u8.wrap (shrK .u64 (l0.getD y5.toNat 0) (IntKind.i64.wrap (8 * y16))))) (cs := [.int .u8 (IntKind.u8.wrap (shrK .u64 (l0.getD y5.toNat 0) (IntKind.i64.wrap (8 * y16))))]) (by exact rfl) .nil)
                by_cases hb25 : y15.length + ([IntKind.u8.wrap (shrK .u64 (l0.getD y5.toNat 0) (IntKind.i64.wrap (8 * y16)))] : List Int).length ≤ 1073741824
                case neg => rw [if_neg hb25] at h; cases h
                rw [if_pos hb25] at h
                refine WL.op (op := .call { callee := (.builtin .append), args := #[(.tmp 25), (.tmp 34)], argTypes := #[32, 32] }) (ty := 32) (d := some 35) (g := none) (by kernel_rfl) (by kernel_rfl) (by kernel_rfl) (Ow.append (ys := ([IntKind.u8.wrap (shrK .u64 (l0.getD y5.toNat 0) (IntKind.i64.wrap (8 * y16)))] : List Int)) (v := .slice (some ⟨b22, 0, none⟩) ([IntKind.u8.wrap (shrK .u64 (l0.getD y5.toNat 0) (IntKind.i64.wrap (8 * y16)))] : List Int).length 1) Hy15 (i := 1) rfl (by kernel_rfl) (by kernel_rfl) (Ho24.src (i := 0) rfl) sl32 ze5 nt32 (by decide) hb25) ?_
                rintro _ _ _ ⟨rfl, AN26, cN26, CN26, rfl, HN26, rfl⟩
                refine WL.rest 11 [0, 3, 4, 5, 6] (L' := [(0, .slice Al0 l0.length cl0), (3, .bool s9), (4, .slice AN26 (y15 ++ ([IntKind.u8.wrap (shrK .u64 (l0.getD y5.toNat 0) (IntKind.i64.wrap (8 * y16)))] : List Int)).length cN26), (5, .int .i64 y5), (6, .int .i64 y16)]) (by kernel_rfl) ?_
                refine QP.blockN ?_
                refine QP.next ?_
                refine WP.pick [0, 3, 4, 5, 6] ?_
                refine WP.regionP [0, 3, 4, 5, 6] (L' := [(0, .slice Al0 l0.length cl0), (3, .bool s9), (4, .slice AN26 (y15 ++ ([IntKind.u8.wrap (shrK .u64 (l0.getD y5.toNat 0) (IntKind.i64.wrap (8 * y16)))] : List Int)).length cN26), (5, .int .i64 y5), (6, .int .i64 (IntKind.i64.wrap (y16 - 1)))]) (by kernel_rfl) ?_
                refine QP.dropAt 0 ?_
                refine QP.pick [0, 3, 4, 5, 6] ?_
                exact QP.meet ⟨k18, Nat.lt_succ_self _, (y15 ++ ([IntKind.u8.wrap (shrK .u64 (l0.getD y5.toNat 0) (IntKind.i64.wrap (8 * y16)))] : List Int)), (IntKind.i64.wrap (y16 - 1)), h, AN26, cN26, CN26, rfl, rfl, rfl, HN26⟩
              · replace hc := of_decide_eq_false hc
                rw [if_neg hc] at h
                have hc19 := hc
                clear hc
                refine WP.exit ?_
                refine QP.thenE ?_
                refine QP.thenE ?_
                refine QP.blockE ?_
                refine QP.pick [0, 3, 4, 5] ?_
                exact QP.meet ⟨_, Option.some.inj h, Ay15, cy15, Cy15, rfl, rfl, rfl, Hy15⟩
          · rintro _ _ _ ⟨s13, rfl, As13, cs13, Cs13, rfl, rfl, rfl, Hs13⟩
            clear h
            replace h := hk14
            refine QP.blockN ?_
            refine QP.next ?_
            refine WP.pick [0, 3, 4, 5] ?_
            refine WP.regionP [0, 3, 4, 5] (L' := [(0, .slice Al0 l0.length cl0), (3, .bool s9), (4, .slice As13 s13.length cs13), (5, .int .i64 (IntKind.i64.wrap (y5 + 1)))]) (by kernel_rfl) ?_
            refine QP.pick [0, 3, 4, 5] ?_
            exact QP.meet ⟨k7, Nat.lt_succ_self _, s9, s13, (IntKind.i64.wrap (y5 + 1)), h, As13, cs13, Cs13, rfl, rfl, rfl, Hs13⟩
      · replace hc := of_decide_eq_false hc
        rw [if_neg hc] at h
        have hc8 := hc
        clear hc
        refine WP.exit ?_
        refine QP.thenE ?_
        refine QP.thenE ?_
        refine QP.blockE ?_
        refine QP.pick [3, 4] ?_
        exact QP.meet ⟨_, Option.some.inj h, Ay4, cy4, Cy4, rfl, rfl, rfl, Hy4⟩
  · rintro _ _ _ ⟨s1, rfl, As1_2, cs1_2, Cs1_2, rfl, rfl, rfl, Hs1_2⟩
    clear h
    replace h := hk2
    refine QP.next ?_
    refine WP.pick [3, 4] ?_
    refine WP.seq ?_
    refine WP.seqP [4, 37] (L' := [(4, .slice As1_2 s1.2.length cs1_2), (37, .bool (!s1.1))]) (by kernel_rfl) ?_
    refine WP.cond (b := (!s1.1)) (by kernel_rfl) (fun hc => ?_) (fun hc => ?_)
    · replace hc := hc
      rw [if_pos hc] at h
      have hc27 := hc
      clear hc
      refine WP.seqP [2] (L' := [(2, .int .u64 0)]) (by kernel_rfl) ?_
      refine WP.ret ?_
      refine QP.thenR ?_
      obtain rfl := Option.some.inj h
      refine QP.dropAt 0 ?_
      exact QP.returned [2] [.int .u64 0] _ (by kernel_rfl) (by kernel_rfl) (by kernel_rfl) (fun W hI => ⟨_, _, _, rfl, ⟨rfl, rfl, rfl⟩, hI⟩)
    · replace hc := (Bool.eq_false_iff.1 hc)
      rw [if_neg hc] at h
      have hc27 := hc
      clear hc
      refine WP.skip ?_
      refine QP.next ?_
      refine WP.pick [4] ?_
      refine WP.seqR ?_
      refine WL.pure 0 1 [38] (L' := [(38, .slice As1_2 s1.2.length cs1_2)]) (by kernel_rfl) (by decide) ?_
      rw [Option.bind_eq_some_iff] at h
      obtain ⟨t28, ht29, h⟩ := h
      refine WL.op (op := .call { callee := (.value (.func 31)), args := #[(.tmp 38)], argTypes := #[32] }) (ty := 26) (d := some 39) (g := none) (by kernel_rfl) (by kernel_rfl) (by kernel_rfl) (Does.call (Φ := fun v' G' Γ' => v' = .int .u64 t28 ∧ G = G' ∧ Cs1_2 :: Γ = Γ') (f := 31) (args := [.slice As1_2 s1.2.length cs1_2]) (by kernel_rfl) (fun W hI => Calls.lend (i := 0) rfl (Ow.nodup Hs1_2) hI (fun _ e l30 hI => by subst e; exact (grapevineref5_One_calls k s1.2 As1_2 cs1_2 (Hs1_2.rd l30) t28 ht29 hI)))) ?_
      rintro _ _ _ ⟨rfl, rfl, rfl⟩
      refine WL.restQ 2 [2] (L' := [(2, .int .u64 t28)]) (by kernel_rfl) ?_
      refine WP.ret ?_
      obtain rfl := Option.some.inj h
      refine QP.dropAt 0 ?_
      exact QP.returned [2] [.int .u64 t28] _ (by kernel_rfl) (by kernel_rfl) (by kernel_rfl) (fun W hI => ⟨_, _, _, rfl, ⟨rfl, rfl, rfl⟩, hI⟩)

/-! ### grapevine/grapevinelaw0.Low: function 17 -/
def grapevinelaw0_Low (a0 : Int) (a1 : Int) : Option Int := (if ¬ (IntKind.u64.wrap a1) = 0 then some (IntKind.i64.wrap (Int.tmod (IntKind.u64.wrap a0) (IntKind.u64.wrap a1))) else none)
set_option maxHeartbeats 4000000 in
theorem grapevinelaw0_Low_calls {B : World} {G : GMap} {Γ : List Chunk} {W : World} (a0 : Int) (a1 : Int) (r : Int) (h : grapevinelaw0_Low a0 a1 = some r) (hI : Inv B G (Γ) W) :
    Calls Try.prog 17 [.int .i64 a0, .int .i64 a1].toArray W (Ret B (fun v G' Γ' => v = .int .i64 r ∧ G = G' ∧ Γ = Γ')) := by
  refine calls_WP (Γ := Γ) (G := G) (B := B) Try.func17 rfl (by kernel_rfl) ?_ hI
  clear hI
  unfold grapevinelaw0_Low at h
  refine WP.seqP [0, 1] (L' := [(0, .int .i64 a0), (1, .int .i64 a1)]) (by kernel_rfl) ?_
  refine WP.seqR ?_
  refine WL.pure 0 4 [6, 8] (L' := [(6, .int .u64 (IntKind.u64.wrap a0)), (8, .int .u64 (IntKind.u64.wrap a1))]) (by kernel_rfl) (by decide) ?_
  by_cases hb1 : ¬ (IntKind.u64.wrap a1) = 0
  case neg => rw [if_neg hb1] at h; cases h
  rw [if_pos hb1] at h
  refine WL.tell (op := .binOp .rem 56 (.tmp 6) (.tmp 8) 56) (ty := 56) (d := some 9) (g := none) (by kernel_rfl) (by kernel_rfl) (by kernel_rfl) (Tells.rem (k := .u64) (a := (IntKind.u64.wrap a0)) (b := (IntKind.u64.wrap a1)) (by kernel_rfl) (by kernel_rfl) hb1) ?_
  refine WL.restQ 5 [4] (L' := [(4, .int .i64 (IntKind.i64.wrap (Int.tmod (IntKind.u64.wrap a0) (IntKind.u64.wrap a1))))]) (by kernel_rfl) ?_
  refine WP.ret ?_
  obtain rfl := Option.some.inj h
  exact QP.returned [4] [.int .i64 (IntKind.i64.wrap (Int.tmod (IntKind.u64.wrap a0) (IntKind.u64.wrap a1)))] _ (by kernel_rfl) (by kernel_rfl) (by kernel_rfl) (fun W hI => ⟨_, _, _, rfl, ⟨rfl, rfl, rfl⟩, hI⟩)

/-! ### grapevine/frame.seal: function 32 -/
def frame_seal_l0 (t4 : Int) : Nat → (List Int) → Int → Option (List Int)
  | 0, _, _ => none
  | k + 1, y10, y11 => (if y11 ≥ 0 then (if 0 ≤ y11 then (if y10.length + ([IntKind.u8.wrap (shrK .u64 t4 y11)] : List Int).length ≤ 1073741824 then frame_seal_l0 t4 k (y10 ++ ([IntKind.u8.wrap (shrK .u64 t4 y11)] : List Int)) (IntKind.i64.wrap (y11 - 8)) else none) else none) else some y10)
def frame_seal (k : Nat) (l0 : List Int) : Option (List Int) := ((digest_Of k ([l0] : List (List Int))).bind fun t4 => ((frame_seal_l0 t4 k l0 56).bind fun s8 => some s8))
set_option maxHeartbeats 4000000 in
theorem frame_seal_calls {B : World} {G : GMap} {Γ : List Chunk} {W : World} (k : Nat) (l0 : List Int) (Al0 : Option Addr) (cl0 : Nat) (Cl0 : Chunk) (Hl0 : Ow (kInt .u8) G Al0 cl0 l0 Cl0) (r : List Int) (h : frame_seal k l0 = some r) (hI : Inv B G (Cl0 :: Γ) W) :
    Calls Try.prog 32 [.slice Al0 l0.length cl0].toArray W (Ret B (fun v G' Γ' => ∃ (AR : Option Addr), ∃ (cR : Nat), ∃ (CR : Chunk), v = .slice AR r.length cR ∧ Ow (kInt .u8) G' AR cR r CR ∧ G = G' ∧ CR :: Γ = Γ')) := by
  refine calls_WP (Γ := Cl0 :: Γ) (G := G) (B := B) Try.func32 rfl (by kernel_rfl) ?_ hI
  clear hI
  unfold frame_seal at h
  refine WP.seqP [0] (L' := [(0, .slice Al0 l0.length cl0)]) (by kernel_rfl) ?_
  refine WP.seqR ?_
  refine WL.pure 0 1 [0, 5] (L' := [(0, .slice Al0 l0.length cl0), (5, .slice Al0 l0.length cl0)]) (by kernel_rfl) (by decide) ?_
  refine WL.op (op := .buildSlice 22 1 #[(0, (.tmp 5))]) (ty := 22) (d := some 6) (g := none) (by kernel_rfl) (by kernel_rfl) (by kernel_rfl) (Does.new (o := .cells #[.slice Al0 l0.length cl0] 32 (0, 0)) (v := fun r => .slice (some ⟨r, 0, none⟩) 1 1) (fun r => by kernel_rfl)) ?_
  rintro _ _ _ ⟨b1, rfl, rfl, rfl⟩
  rw [Option.bind_eq_some_iff] at h
  obtain ⟨t4, ht5, h⟩ := h
  refine WL.op (op := .call { callee := (.value (.func 13)), args := #[(.tmp 6)], argTypes := #[22] }) (ty := 26) (d := some 7) (g := none) (by kernel_rfl) (by kernel_rfl) (by kernel_rfl) (Does.call (Φ := fun v' G' Γ' => v' = .int .u64 t4 ∧ G = G' ∧ [(b1, .cells #[.slice Al0 l0.length cl0] 32 (0, 0))] :: Cl0 :: Γ = Γ') (f := 13) (args := [.slice (some ⟨b1, 0, none⟩) ([l0] : List (List Int)).length 1]) (by kernel_rfl) (fun W hI => Calls.lend (i := 1) rfl (Ow.nodup Hl0) hI (fun _ e l6 hI => by subst e; exact Calls.lend (i := 0) rfl (by simp) hI (fun _ e l7 hI => by subst e; exact (digest_Of_calls k ([l0] : List (List Int)) (some ⟨b1, 0, none⟩) 1 ((Ow.lit (kd := (kSlice (kInt .u8))) (b := b1) (T := 32) (xs := ([l0] : List (List Int))) (cs := [.slice Al0 l0.length cl0]) (.cons (x := l0) (cs := [.slice Al0 l0.length cl0]) ⟨Al0, cl0, rfl, (Hl0.rd l6)⟩ .nil)).rd l7) t4 ht5 hI))))) ?_
  rintro _ _ _ ⟨rfl, rfl, rfl⟩
  refine WL.restQ 3 [0, 3] (L' := [(0, .slice Al0 l0.length cl0), (3, .int .u64 t4)]) (by kernel_rfl) ?_
  refine WP.seq ?_
  refine WP.seqP [0, 3, 4] (L' := [(0, .slice Al0 l0.length cl0), (3, .int .u64 t4), (4, .int .i64 56)]) (by kernel_rfl) ?_
  rw [Option.bind_eq_some_iff] at h
  obtain ⟨os8, h, hk9⟩ := h
  refine WP.cutQ (fun L' G' Γ' => ∃ s8 : (List Int), s8 = os8 ∧ ∃ (As8 : Option Addr), ∃ (cs8 : Nat), ∃ (Cs8 : Chunk), L' = [(0, .slice As8 s8.length cs8)] ∧ G = G' ∧ Cs8 :: [(b1, .cells #[.slice Al0 l0.length cl0] 32 (0, 0))] :: Γ = Γ' ∧ Ow (kInt .u8) G As8 cs8 s8 Cs8) ?_ ?_
  · clear hk9
    refine WP.block ?_
    refine WP.pick [0, 3, 4] ?_
    refine WP.loopF (fun k12 L' G' Γ' => ∃ (y10 : List Int), ∃ (y11 : Int), frame_seal_l0 t4 k12 y10 y11 = some os8 ∧ ∃ (Ay10 : Option Addr), ∃ (cy10 : Nat), ∃ (Cy10 : Chunk), L' = [(0, .slice Ay10 y10.length cy10), (3, .int .u64 t4), (4, .int .i64 y11)] ∧ G = G' ∧ [(b1, .cells #[.slice Al0 l0.length cl0] 32 (0, 0))] :: Cy10 :: Γ = Γ' ∧ Ow (kInt .u8) G Ay10 cy10 y10 Cy10) ?_ k ⟨l0, 56, h, Al0, cl0, Cl0, rfl, rfl, rfl, Hl0⟩
    clear h
    rintro k13 _ _ _ ⟨y10, y11, h, Ay10, cy10, Cy10, rfl, rfl, rfl, Hy10⟩
    cases k13 with
    | zero => exact absurd h (by simp [frame_seal_l0])
    | succ k13 =>
      simp only [frame_seal_l0] at h
      refine WP.seq ?_
      refine WP.seqP [0, 3, 4, 9] (L' := [(0, .slice Ay10 y10.length cy10), (3, .int .u64 t4), (4, .int .i64 y11), (9, .bool (decide (y11 ≥ 0)))]) (by kernel_rfl) ?_
      refine WP.cond (b := decide (y11 ≥ 0)) (by kernel_rfl) (fun hc => ?_) (fun hc => ?_)
      · replace hc := of_decide_eq_true hc
        rw [if_pos hc] at h
        have hc14 := hc
        clear hc
        refine WP.skip ?_
        refine QP.next ?_
        refine WP.pick [0, 3, 4] ?_
        refine WP.seq ?_
        refine WP.block ?_
        refine WP.region ?_
        refine WL.pure 0 3 [0, 3, 4, 12, 13, 14] (L' := [(0, .slice Ay10 y10.length cy10), (3, .int .u64 t4), (4, .int .i64 y11), (12, .slice Ay10 y10.length cy10), (13, .int .u64 t4), (14, .int .i64 y11)]) (by kernel_rfl) (by decide) ?_
        by_cases hb15 : 0 ≤ y11
        case neg => rw [if_neg hb15] at h; cases h
        rw [if_pos hb15] at h
        refine WL.tell (op := .binOp .shr 26 (.tmp 13) (.tmp 14) 3) (ty := 26) (d := some 15) (g := none) (by kernel_rfl) (by kernel_rfl) (by kernel_rfl) (Tells.shr (k := .u64) (k' := .i64) (a := t4) (b := y11) (by kernel_rfl) (by kernel_rfl) hb15) ?_
        refine WL.pure 4 5 [0, 3, 4, 12, 16] (L' := [(0, .slice Ay10 y10.length cy10), (3, .int .u64 t4), (4, .int .i64 y11), (12, .slice Ay10 y10.length cy10), (16, .int .u8 (IntKind.u8.wrap (shrK .u64 t4 y11)))]) (by kernel_rfl) (by decide) ?_
        refine WL.op (op := .buildSlice 32 1 #[(0, (.tmp 16))]) (ty := 32) (d := some 17) (g := none) (by kernel_rfl) (by kernel_rfl) (by kernel_rfl) (Does.new (o := .cells #[.int .u8 (IntKind.u8.wrap (shrK .u64 t4 y11))] 5 (0, 0)) (v := fun r => .slice (some ⟨r, 0, none⟩) 1 1) (fun r => by kernel_rfl)) ?_
        rintro _ _ _ ⟨b16, rfl, rfl, rfl⟩
        have Ho18 : Ow (kInt .u8) G (some ⟨b16, 0, none⟩) 1 ([IntKind.u8.wrap (shrK .u64 t4 y11)] : List Int) [(b16, .cells #[.int .u8 (IntKind.u8.wrap (shrK .u64 t4 y11))] 5 (0, 0))] := Ow.lit (kd := (kInt .u8)) (G := G) (b := b16) (T := 5) (xs := ([IntKind.u8.wrap (shrK .u64 t4 y11)] : List Int)) (cs := [.int .u8 (IntKind.u8.wrap (shrK .u64 t4 y11))]) (.cons (x := (IntKind.u8.wrap (shrK .u64 t4 y11))) (cs := [.int .u8 (IntKind.u8.wrap (shrK .u64 t4 y11))]) (by exact rfl) .nil)
        by_cases hb19 : y10.length + ([IntKind.u8.wrap (shrK .u64 t4 y11)] : List Int).length ≤ 1073741824
        case neg => rw [if_neg hb19] at h; cases h
        rw [if_pos hb19] at h
        refine WL.op (op := .call { callee := (.builtin .append), args := #[(.tmp 12), (.tmp 17)], argTypes := #[32, 32] }) (ty := 32) (d := some 18) (g := none) (by kernel_rfl) (by kernel_rfl) (by kernel_rfl) (Ow.append (ys := ([IntKind.u8.wrap (shrK .u64 t4 y11)] : List Int)) (v := .slice (some ⟨b16, 0, none⟩) ([IntKind.u8.wrap (shrK .u64 t4 y11)] : List Int).length 1) Hy10 (i := 2) rfl (by kernel_rfl) (by kernel_rfl) (Ho18.src (i := 0) rfl) sl32 ze5 nt32 (by decide) hb19) ?_
        rintro _ _ _ ⟨rfl, AN20, cN20, CN20, rfl, HN20, rfl⟩
        refine WL.rest 7 [0, 3, 4] (L' := [(0, .slice AN20 (y10 ++ ([IntKind.u8.wrap (shrK .u64 t4 y11)] : List Int)).length cN20), (3, .int .u64 t4), (4, .int .i64 y11)]) (by kernel_rfl) ?_
        refine QP.blockN ?_
        refine QP.next ?_
        refine WP.pick [0, 3, 4] ?_
        refine WP.regionP [0, 3, 4] (L' := [(0, .slice AN20 (y10 ++ ([IntKind.u8.wrap (shrK .u64 t4 y11)] : List Int)).length cN20), (3, .int .u64 t4), (4, .int .i64 (IntKind.i64.wrap (y11 - 8)))]) (by kernel_rfl) ?_
        refine QP.dropAt 0 ?_
        refine QP.pick [0, 3, 4] ?_
        exact QP.meet ⟨k13, Nat.lt_succ_self _, (y10 ++ ([IntKind.u8.wrap (shrK .u64 t4 y11)] : List Int)), (IntKind.i64.wrap (y11 - 8)), h, AN20, cN20, CN20, rfl, rfl, rfl, HN20⟩
      · replace hc := of_decide_eq_false hc
        rw [if_neg hc] at h
        have hc14 := hc
        clear hc
        refine WP.exit ?_
        refine QP.thenE ?_
        refine QP.thenE ?_
        refine QP.blockE ?_
        refine QP.front (i := 1) rfl ?_
        refine QP.pick [0] ?_
        exact QP.meet ⟨_, Option.some.inj h, Ay10, cy10, Cy10, rfl, rfl, rfl, Hy10⟩
  · rintro _ _ _ ⟨s8, rfl, As8, cs8, Cs8, rfl, rfl, rfl, Hs8⟩
    clear h
    replace h := hk9
    refine QP.next ?_
    refine WP.pick [0] ?_
    refine WP.seqP [2] (L' := [(2, .slice As8 s8.length cs8)]) (by kernel_rfl) ?_
    refine WP.ret ?_
    obtain rfl := Option.some.inj h
    refine QP.dropAt 1 ?_
    exact QP.returned [2] [.slice As8 s8.length cs8] _ (by kernel_rfl) (by kernel_rfl) (by kernel_rfl) (fun W hI => ⟨_, _, _, rfl, ⟨As8, cs8, Cs8, rfl, Hs8, rfl, rfl⟩, hI⟩)

/-! ### grapevine/frame.Lay: function 19 -/
def frame_Lay (k : Nat) (a0 : Int) (l1 : List Int) : Option ((List Int) × Int) := ((if a0 < 1 then some true else (if a0 > 255 then some true else some (decide ((l1.length : Int) > 65535)))).bind fun s1 => (if s1 = true then some (([] : List Int), 2) else (if ([71, IntKind.u8.wrap a0, IntKind.u8.wrap (shrK .i64 (l1.length : Int) 8), IntKind.u8.wrap (l1.length : Int)] : List Int).length + l1.length ≤ 1073741824 then ((some (([71, IntKind.u8.wrap a0, IntKind.u8.wrap (shrK .i64 (l1.length : Int) 8), IntKind.u8.wrap (l1.length : Int)] : List Int) ++ l1)).bind fun v11 => ((frame_seal k v11).bind fun t14 => some (t14, 0))) else none)))
set_option maxHeartbeats 4000000 in
theorem frame_Lay_calls {B : World} {G : GMap} {Γ : List Chunk} {W : World} (k : Nat) (a0 : Int) (l1 : List Int) (Al1 : Option Addr) (cl1 : Nat) (Hl1 : Rd (kInt .u8) G Al1 cl1 l1) (r : (List Int) × Int) (h : frame_Lay k a0 l1 = some r) (hI : Inv B G (Γ) W) :
    Calls Try.prog 19 [.int .i64 a0, .slice Al1 l1.length cl1].toArray W (Ret B (fun v G' Γ' => ∃ (AR0 : Option Addr), ∃ (cR0 : Nat), ∃ (CR0 : Chunk), v = .tuple #[.slice AR0 r.1.length cR0, .int .i64 r.2] ∧ Ow (kInt .u8) G' AR0 cR0 r.1 CR0 ∧ G = G' ∧ CR0 :: Γ = Γ')) := by
  refine calls_WP (Γ := Γ) (G := G) (B := B) Try.func19 rfl (by kernel_rfl) ?_ hI
  clear hI
  unfold frame_Lay at h
  refine WP.seqP [0, 1] (L' := [(0, .int .i64 a0), (1, .slice Al1 l1.length cl1)]) (by kernel_rfl) ?_
  refine WP.seq ?_
  rw [Option.bind_eq_some_iff] at h
  obtain ⟨os1, h, hk2⟩ := h
  refine WP.cut (fun L' G' Γ' => ∃ s1 : Bool, s1 = os1 ∧ L' = [(0, .int .i64 a0), (1, .slice Al1 l1.length cl1), (17, .bool s1)] ∧ G = G' ∧ Γ = Γ') ?_ ?_
  · clear hk2
    refine WP.region ?_
    refine WL.pure 0 3 [0, 1, 9] (L' := [(0, .int .i64 a0), (1, .slice Al1 l1.length cl1), (9, .bool (decide (a0 < 1)))]) (by kernel_rfl) (by decide) ?_
    refine WL.split 9 (b := decide (a0 < 1)) (by kernel_rfl) (fun hc => ?_) (fun hc => ?_)
    · replace hc := of_decide_eq_true hc
      rw [if_pos hc] at h
      have hc3 := hc
      clear hc
      refine WL.rest 3 [0, 1, 17] (L' := [(0, .int .i64 a0), (1, .slice Al1 l1.length cl1), (17, .bool true)]) (by kernel_rfl) ?_
      refine QP.pick [0, 1, 17] ?_
      exact QP.meet ⟨_, Option.some.inj h, rfl, rfl, rfl⟩
    · replace hc := of_decide_eq_false hc
      rw [if_neg hc] at h
      have hc3 := hc
      clear hc
      refine WL.pure 3 7 [0, 1, 13] (L' := [(0, .int .i64 a0), (1, .slice Al1 l1.length cl1), (13, .bool (decide (a0 > 255)))]) (by kernel_rfl) (by decide) ?_
      refine WL.split 13 (b := decide (a0 > 255)) (by kernel_rfl) (fun hc => ?_) (fun hc => ?_)
      · replace hc := of_decide_eq_true hc
        rw [if_pos hc] at h
        have hc4 := hc
        clear hc
        refine WL.rest 7 [0, 1, 17] (L' := [(0, .int .i64 a0), (1, .slice Al1 l1.length cl1), (17, .bool true)]) (by kernel_rfl) ?_
        refine QP.pick [0, 1, 17] ?_
        exact QP.meet ⟨_, Option.some.inj h, rfl, rfl, rfl⟩
      · replace hc := of_decide_eq_false hc
        rw [if_neg hc] at h
        have hc4 := hc
        clear hc
        refine WL.rest 7 [0, 1, 17] (L' := [(0, .int .i64 a0), (1, .slice Al1 l1.length cl1), (17, .bool (decide ((l1.length : Int) > 65535)))]) (by kernel_rfl) ?_
        refine QP.pick [0, 1, 17] ?_
        exact QP.meet ⟨_, Option.some.inj h, rfl, rfl, rfl⟩
  · rintro _ _ _ ⟨s1, rfl, rfl, rfl, rfl⟩
    clear h
    replace h := hk2
    refine WP.cond (b := s1) (by kernel_rfl) (fun hc => ?_) (fun hc => ?_)
    · replace hc := hc
      rw [if_pos hc] at h
      have hc5 := hc
      clear hc
      refine WP.seqP [4, 5] (L' := [(4, .slice none 0 0), (5, .int .i64 2)]) (by kernel_rfl) ?_
      refine WP.ret ?_
      refine QP.thenR ?_
      obtain rfl := Option.some.inj h
      refine QP.addNil ?_
      exact QP.returned [4, 5] [.slice none 0 0, .int .i64 2] _ (by kernel_rfl) (by kernel_rfl) (by kernel_rfl) (fun W hI => ⟨_, _, _, rfl, ⟨none, 0, [], rfl, Ow.nil _ _, rfl, rfl⟩, hI⟩)
    · replace hc := (Bool.eq_false_iff.1 hc)
      rw [if_neg hc] at h
      have hc5 := hc
      clear hc
      refine WP.skip ?_
      refine QP.next ?_
      refine WP.pick [0, 1] ?_
      refine WP.seqR ?_
      refine WL.pure 0 9 [1, 19, 23, 26] (L' := [(1, .slice Al1 l1.length cl1), (19, .int .u8 (IntKind.u8.wrap a0)), (23, .int .u8 (IntKind.u8.wrap (shrK .i64 (l1.length : Int) 8))), (26, .int .u8 (IntKind.u8.wrap (l1.length : Int)))]) (by kernel_rfl) (by decide) ?_
      refine WL.op (op := .buildSlice 32 4 #[(0, (.const (.int .u8 71))), (1, (.tmp 19)), (2, (.tmp 23)), (3, (.tmp 26))]) (ty := 32) (d := some 27) (g := none) (by kernel_rfl) (by kernel_rfl) (by kernel_rfl) (Does.new (o := .cells #[.int .u8 71, .int .u8 (IntKind.u8.wrap a0), .int .u8 (IntKind.u8.wrap (shrK .i64 (l1.length : Int) 8)), .int .u8 (IntKind.u8.wrap (l1.length : Int))] 5 (0, 0)) (v := fun r => .slice (some ⟨r, 0, none⟩) 4 4) (fun r => by kernel_rfl)) ?_
      rintro _ _ _ ⟨b6, rfl, rfl, rfl⟩
      have Ho8 : Ow (kInt .u8) G (some ⟨b6, 0, none⟩) 4 ([71, IntKind.u8.wrap a0, IntKind.u8.wrap (shrK .i64 (l1.length : Int) 8), IntKind.u8.wrap (l1.length : Int)] : List Int) [(b6, .cells #[.int .u8 71, .int .u8 (IntKind.u8.wrap a0), .int .u8 (IntKind.u8.wrap (shrK .i64 (l1.length : Int) 8)), .int .u8 (IntKind.u8.wrap (l1.length : Int))] 5 (0, 0))] := Ow.lit (kd := (kInt .u8)) (G := G) (b := b6) (T := 5) (xs := ([71, IntKind.u8.wrap a0, IntKind.u8.wrap (shrK .i64 (l1.length : Int) 8), IntKind.u8.wrap (l1.length : Int)] : List Int)) (cs := [.int .u8 71, .int .u8 (IntKind.u8.wrap a0), .int .u8 (IntKind.u8.wrap (shrK .i64 (l1.length : Int) 8)), .int .u8 (IntKind.u8.wrap (l1.length : Int))]) (.cons (x := 71) (cs := [.int .u8 71]) (by exact rfl) (.cons (x := (IntKind.u8.wrap a0)) (cs := [.int .u8 (IntKind.u8.wrap a0)]) (by exact rfl) (.cons (x := (IntKind.u8.wrap (shrK .i64 (l1.length : Int) 8))) (cs := [.int .u8 (IntKind.u8.wrap (shrK .i64 (l1.length : Int) 8))]) (by exact rfl) (.cons (x := (IntKind.u8.wrap (l1.length : Int))) (cs := [.int .u8 (IntKind.u8.wrap (l1.length : Int))]) (by exact rfl) .nil))))
      refine WL.pure 10 11 [27, 28] (L' := [(27, .slice (some ⟨b6, 0, none⟩) ([71, IntKind.u8.wrap a0, IntKind.u8.wrap (shrK .i64 (l1.length : Int) 8), IntKind.u8.wrap (l1.length : Int)] : List Int).length 4), (28, .slice Al1 l1.length cl1)]) (by kernel_rfl) (by decide) ?_
      by_cases hb9 : ([71, IntKind.u8.wrap a0, IntKind.u8.wrap (shrK .i64 (l1.length : Int) 8), IntKind.u8.wrap (l1.length : Int)] : List Int).length + l1.length ≤ 1073741824
      case neg => rw [if_neg hb9] at h; cases h
      rw [if_pos hb9] at h
      refine WL.op (op := .call { callee := (.builtin .append), args := #[(.tmp 27), (.tmp 28)], argTypes := #[32, 32] }) (ty := 32) (d := some 29) (g := none) (by kernel_rfl) (by kernel_rfl) (by kernel_rfl) (Ow.append (ys := l1) (v := .slice Al1 l1.length cl1) Ho8 (i := 0) rfl (by kernel_rfl) (by kernel_rfl) Hl1.src sl32 ze5 nt32 (by decide) hb9) ?_
      rintro _ _ _ ⟨rfl, AN10, cN10, CN10, rfl, HN10, rfl⟩
      refine WL.restQ 12 [6] (L' := [(6, .slice AN10 (([71, IntKind.u8.wrap a0, IntKind.u8.wrap (shrK .i64 (l1.length : Int) 8), IntKind.u8.wrap (l1.length : Int)] : List Int) ++ l1).length cN10)]) (by kernel_rfl) ?_
      obtain ⟨v11, hv12, h⟩ := Option.bind_eq_some_iff.1 h
      replace hv12 := Option.some.inj hv12
      have Hn13 := HN10
      rw [hv12] at Hn13
      refine WP.reput 6 (v := .slice AN10 (([71, IntKind.u8.wrap a0, IntKind.u8.wrap (shrK .i64 (l1.length : Int) 8), IntKind.u8.wrap (l1.length : Int)] : List Int) ++ l1).length cN10) (v' := .slice AN10 v11.length cN10) (by kernel_rfl) (by subst hv12; rfl) ?_
      refine WP.pick [6] ?_
      refine WP.seqR ?_
      refine WL.pure 0 1 [30] (L' := [(30, .slice AN10 v11.length cN10)]) (by kernel_rfl) (by decide) ?_
      rw [Option.bind_eq_some_iff] at h
      obtain ⟨t14, ht15, h⟩ := h
      refine WL.op (op := .call { callee := (.value (.func 32)), args := #[(.tmp 30)], argTypes := #[32] }) (ty := 32) (d := some 31) (g := none) (by kernel_rfl) (by kernel_rfl) (by kernel_rfl) (Does.callN (i := 0) rfl (f := 32) (args := [.slice AN10 v11.length cN10]) (by kernel_rfl) (fun W hI => (frame_seal_calls k v11 AN10 cN10 CN10 Hn13 t14 ht15 hI)) (by rintro _ _ _ ⟨AR16, cR16, CR16, _, _, rfl, rfl⟩; exact ⟨[CR16], rfl⟩)) ?_
      rintro _ _ _ ⟨_, ⟨AR16, cR16, CR16, rfl, HR16, rfl, hE⟩, rfl⟩; obtain rfl := app_inj (a := [CR16]) hE; clear hE
      refine WL.restQ 2 [4, 5] (L' := [(4, .slice AR16 t14.length cR16), (5, .int .i64 0)]) (by kernel_rfl) ?_
      refine WP.ret ?_
      obtain rfl := Option.some.inj h
      exact QP.returned [4, 5] [.slice AR16 t14.length cR16, .int .i64 0] _ (by kernel_rfl) (by kernel_rfl) (by kernel_rfl) (fun W hI => ⟨_, _, _, rfl, ⟨AR16, cR16, CR16, rfl, HR16, rfl, rfl⟩, hI⟩)

/-! ### slices.Clone[[]byte,byte]: function 35 -/
def slices_Clone_byte_byte (l0 : List Int) : Option (List Int) := if l0.length ≤ 1073741824 then some l0 else none
set_option maxHeartbeats 4000000 in
theorem slices_Clone_byte_byte_calls {B : World} {G : GMap} {Γ : List Chunk} {W : World} (l0 : List Int) (Al0 : Option Addr) (cl0 : Nat) (Hl0 : Rd (kInt .u8) G Al0 cl0 l0) (r : List Int) (h : slices_Clone_byte_byte l0 = some r) (hI : Inv B G Γ W) :
    Calls Try.prog 35 [.slice Al0 l0.length cl0].toArray W (Ret B (fun v G' Γ' => ∃ (AR : Option Addr), ∃ (cR : Nat), ∃ (CR : Chunk), v = .slice AR r.length cR ∧ Ow (kInt .u8) G' AR cR r CR ∧ G = G' ∧ CR :: Γ = Γ')) := by
  refine calls_WP (Γ := Γ) (G := G) (B := B) Try.func35 rfl (by kernel_rfl) ?_ hI
  clear hI
  unfold slices_Clone_byte_byte at h
  by_cases hb : l0.length ≤ 1073741824
  case neg => rw [if_neg hb] at h; cases h
  rw [if_pos hb] at h
  obtain rfl := Option.some.inj h
  refine WP.seqP [0] (L' := [(0, .slice Al0 l0.length cl0)]) (by kernel_rfl) ?_
  refine WP.seq ?_
  cases Al0 with
  | none =>
    obtain rfl : l0 = [] := by
      cases l0 with
      | nil => rfl
      | cons x xs => obtain ⟨_, e, _⟩ := Hl0.2 (by simp); cases e
    refine WP.seqP [4] (L' := [(4, .bool true)]) (by kernel_rfl) ?_
    refine WP.yes (by kernel_rfl) ?_
    refine WP.seqP [2] (L' := [(2, .slice none 0 0)]) (by kernel_rfl) ?_
    refine WP.ret ?_
    refine QP.thenR ?_
    refine QP.addNil ?_
    exact QP.returned [2] [.slice none 0 0] _ (by kernel_rfl) (by kernel_rfl) (by kernel_rfl) (fun W hI => ⟨_, _, _, rfl, ⟨none, 0, [], rfl, Ow.nil _ _, rfl, rfl⟩, hI⟩)
  | some a =>
    refine WP.seqP [0, 4] (L' := [(0, .slice (some a) l0.length cl0), (4, .bool false)]) (by kernel_rfl) ?_
    refine WP.no (by kernel_rfl) ?_
    refine WP.skip ?_
    refine QP.next ?_
    refine WP.pick [0] ?_
    refine WP.seqR ?_
    refine WL.op (op := .buildSlice 32 0 #[]) (ty := 32) (d := some 5) (g := none) (by kernel_rfl) (by kernel_rfl) (by kernel_rfl) (Does.new (o := .cells #[] 5 (0, 0)) (v := fun r => .slice (some ⟨r, 0, none⟩) 0 0) (fun r => by kernel_rfl)) ?_
    rintro _ _ _ ⟨b, rfl, rfl, rfl⟩
    have H0 : Ow (kInt .u8) G (some ⟨b, 0, none⟩) 0 ([] : List Int) [(b, .cells #[] 5 (0, 0))] := Ow.lit (kd := (kInt .u8)) (G := G) (b := b) (T := 5) (xs := []) (cs := []) .nil
    refine WL.pure 1 2 [5, 6] (L' := [(5, .slice (some ⟨b, 0, none⟩) 0 0), (6, .slice (some a) l0.length cl0)]) (by kernel_rfl) (by decide) ?_
    refine WL.op (op := .call { callee := (.builtin .append), args := #[(.tmp 5), (.tmp 6)], argTypes := #[32, 32] }) (ty := 32) (d := some 7) (g := none) (by kernel_rfl) (by kernel_rfl) (by kernel_rfl) (Ow.append (ys := l0) (v := .slice (some a) l0.length cl0) H0 (i := 0) rfl (by kernel_rfl) (by kernel_rfl) Hl0.src sl32 ze5 nt32 (by decide) (by simpa using hb)) ?_
    rintro _ _ _ ⟨rfl, A1, c1, C1, rfl, H1, rfl⟩
    refine WL.restQ 3 [2] (L' := [(2, .slice A1 l0.length c1)]) (by kernel_rfl) ?_
    refine WP.ret ?_
    exact QP.returned [2] [.slice A1 l0.length c1] _ (by kernel_rfl) (by kernel_rfl) (by kernel_rfl) (fun W hI => ⟨_, _, _, rfl, ⟨A1, c1, C1, rfl, H1, rfl, rfl⟩, hI⟩)

/-! ### grapevine/frame.Next: function 24 -/
def frame_Next_l0 (t27 : Int) (v32 : List Int) (v35 : Int) : Nat → Int → Option (Sum (Int × (List Int) × Int × Bool) Unit)
  | 0, _ => none
  | k + 1, y39 => (if y39 < v35 then (if 0 ≤ y39 ∧ y39 < (v32.length : Int) then (if 0 ≤ (IntKind.i64.wrap (56 - (IntKind.i64.wrap (8 * y39)))) then (if ¬ (v32.getD y39.toNat 0) = (IntKind.u8.wrap (shrK .u64 t27 (IntKind.i64.wrap (56 - (IntKind.i64.wrap (8 * y39)))))) then some (Sum.inl (0, ([] : List Int), 0, false)) else frame_Next_l0 t27 v32 v35 k (IntKind.i64.wrap (y39 + 1))) else none) else none) else some (Sum.inr ()))
def frame_Next (k : Nat) (l0 : List Int) (a1 : Int) : Option (Int × (List Int) × Int × Bool) := ((if a1 < 0 then some true else (if a1 > (l0.length : Int) then some true else some (decide ((IntKind.i64.wrap ((l0.length : Int) - a1)) < 12)))).bind fun s1 => (if s1 = true then some (0, ([] : List Int), 0, false) else (if 0 ≤ a1 ∧ a1 ≤ (l0.length : Int) ∧ (l0.length : Int) ≤ (l0.length : Int) then ((some ((l0.take (l0.length : Int).toNat).drop a1.toNat)).bind fun v8 => (if 0 ≤ (2 : Int) ∧ (2 : Int) < (v8.length : Int) then (if 0 ≤ (3 : Int) ∧ (3 : Int) < (v8.length : Int) then ((some (IntKind.i64.wrap ((IntKind.i64.wrap (4 + (shlK .i64 (IntKind.i64.wrap (v8.getD (2 : Int).toNat 0)) 8))) + (IntKind.i64.wrap (v8.getD (3 : Int).toNat 0))))).bind fun v13 => ((if 0 ≤ (0 : Int) ∧ (0 : Int) < (v8.length : Int) then (if ¬ (v8.getD (0 : Int).toNat 0) = 71 then some true else (if 0 ≤ (1 : Int) ∧ (1 : Int) < (v8.length : Int) then (if (v8.getD (1 : Int).toNat 0) = 0 then some true else some (decide ((IntKind.i64.wrap ((v8.length : Int) - 8)) < v13))) else none)) else none).bind fun s15 => (if s15 = true then some (0, ([] : List Int), 0, false) else (if 0 ≤ (0 : Int) ∧ (0 : Int) ≤ v13 ∧ v13 ≤ (v8.length : Int) then ((digest_Of k ([((v8.take v13.toNat).drop (0 : Int).toNat)] : List (List Int))).bind fun t27 => (if 0 ≤ v13 ∧ v13 ≤ (IntKind.i64.wrap (v13 + 8)) ∧ (IntKind.i64.wrap (v13 + 8)) ≤ (v8.length : Int) then ((some ((v8.take (IntKind.i64.wrap (v13 + 8)).toNat).drop v13.toNat)).bind fun v32 => ((some (((v8.take (IntKind.i64.wrap (v13 + 8)).toNat).drop v13.toNat).length : Int)).bind fun v35 => ((frame_Next_l0 t27 v32 v35 k 0).bind fun os37 => match os37 with | Sum.inl r => some r | Sum.inr s37 => (if 0 ≤ (1 : Int) ∧ (1 : Int) < (v8.length : Int) then (if 0 ≤ (4 : Int) ∧ (4 : Int) ≤ v13 ∧ v13 ≤ (v8.length : Int) then ((slices_Clone_byte_byte ((v8.take v13.toNat).drop (4 : Int).toNat)).bind fun t49 => some (IntKind.i64.wrap (v8.getD (1 : Int).toNat 0), t49, IntKind.i64.wrap ((IntKind.i64.wrap (a1 + v13)) + 8), true)) else none) else none)))) else none)) else none)))) else none) else none)) else none)))
set_option maxHeartbeats 4000000 in
theorem frame_Next_calls {B : World} {G : GMap} {Γ : List Chunk} {W : World} (k : Nat) (l0 : List Int) (a1 : Int) (Al0 : Option Addr) (cl0 : Nat) (Hl0 : Rd (kInt .u8) G Al0 cl0 l0) (r : Int × (List Int) × Int × Bool) (h : frame_Next k l0 a1 = some r) (hI : Inv B G (Γ) W) :
    Calls Try.prog 24 [.slice Al0 l0.length cl0, .int .i64 a1].toArray W (Ret B (fun v G' Γ' => ∃ (AR1 : Option Addr), ∃ (cR1 : Nat), ∃ (CR1 : Chunk), v = .tuple #[.int .i64 r.1, .slice AR1 r.2.1.length cR1, .int .i64 r.2.2.1, .bool r.2.2.2] ∧ Ow (kInt .u8) G' AR1 cR1 r.2.1 CR1 ∧ G = G' ∧ CR1 :: Γ = Γ')) := by
  refine calls_WP (Γ := Γ) (G := G) (B := B) Try.func24 rfl (by kernel_rfl) ?_ hI
  clear hI
  unfold frame_Next at h
  refine WP.seqP [0, 1] (L' := [(0, .slice Al0 l0.length cl0), (1, .int .i64 a1)]) (by kernel_rfl) ?_
  refine WP.seq ?_
  rw [Option.bind_eq_some_iff] at h
  obtain ⟨os1, h, hk2⟩ := h
  refine WP.cut (fun L' G' Γ' => ∃ s1 : Bool, s1 = os1 ∧ L' = [(0, .slice Al0 l0.length cl0), (1, .int .i64 a1), (27, .bool s1)] ∧ G = G' ∧ Γ = Γ') ?_ ?_
  · clear hk2
    refine WP.region ?_
    refine WL.pure 0 3 [0, 1, 15] (L' := [(0, .slice Al0 l0.length cl0), (1, .int .i64 a1), (15, .bool (decide (a1 < 0)))]) (by kernel_rfl) (by decide) ?_
    refine WL.split 15 (b := decide (a1 < 0)) (by kernel_rfl) (fun hc => ?_) (fun hc => ?_)
    · replace hc := of_decide_eq_true hc
      rw [if_pos hc] at h
      have hc3 := hc
      clear hc
      refine WL.rest 3 [0, 1, 27] (L' := [(0, .slice Al0 l0.length cl0), (1, .int .i64 a1), (27, .bool true)]) (by kernel_rfl) ?_
      refine QP.pick [0, 1, 27] ?_
      exact QP.meet ⟨_, Option.some.inj h, rfl, rfl, rfl⟩
    · replace hc := of_decide_eq_false hc
      rw [if_neg hc] at h
      have hc3 := hc
      clear hc
      refine WL.pure 3 9 [0, 1, 21] (L' := [(0, .slice Al0 l0.length cl0), (1, .int .i64 a1), (21, .bool (decide (a1 > (l0.length : Int))))]) (by kernel_rfl) (by decide) ?_
      refine WL.split 21 (b := decide (a1 > (l0.length : Int))) (by kernel_rfl) (fun hc => ?_) (fun hc => ?_)
      · replace hc := of_decide_eq_true hc
        rw [if_pos hc] at h
        have hc4 := hc
        clear hc
        refine WL.rest 9 [0, 1, 27] (L' := [(0, .slice Al0 l0.length cl0), (1, .int .i64 a1), (27, .bool true)]) (by kernel_rfl) ?_
        refine QP.pick [0, 1, 27] ?_
        exact QP.meet ⟨_, Option.some.inj h, rfl, rfl, rfl⟩
      · replace hc := of_decide_eq_false hc
        rw [if_neg hc] at h
        have hc4 := hc
        clear hc
        refine WL.rest 9 [0, 1, 27] (L' := [(0, .slice Al0 l0.length cl0), (1, .int .i64 a1), (27, .bool (decide ((IntKind.i64.wrap ((l0.length : Int) - a1)) < 12)))]) (by kernel_rfl) ?_
        refine QP.pick [0, 1, 27] ?_
        exact QP.meet ⟨_, Option.some.inj h, rfl, rfl, rfl⟩
  · rintro _ _ _ ⟨s1, rfl, rfl, rfl, rfl⟩
    clear h
    replace h := hk2
    refine WP.cond (b := s1) (by kernel_rfl) (fun hc => ?_) (fun hc => ?_)
    · replace hc := hc
      rw [if_pos hc] at h
      have hc5 := hc
      clear hc
      refine WP.seqP [4, 5, 6, 7] (L' := [(4, .int .i64 0), (5, .slice none 0 0), (6, .int .i64 0), (7, .bool false)]) (by kernel_rfl) ?_
      refine WP.ret ?_
      refine QP.thenR ?_
      obtain rfl := Option.some.inj h
      refine QP.addNil ?_
      exact QP.returned [4, 5, 6, 7] [.int .i64 0, .slice none 0 0, .int .i64 0, .bool false] _ (by kernel_rfl) (by kernel_rfl) (by kernel_rfl) (fun W hI => ⟨_, _, _, rfl, ⟨none, 0, [], rfl, Ow.nil _ _, rfl, rfl⟩, hI⟩)
    · replace hc := (Bool.eq_false_iff.1 hc)
      rw [if_neg hc] at h
      have hc5 := hc
      clear hc
      refine WP.skip ?_
      refine QP.next ?_
      refine WP.pick [0, 1] ?_
      refine WP.seqR ?_
      refine WL.pure 0 2 [1, 28, 29] (L' := [(1, .int .i64 a1), (28, .slice Al0 l0.length cl0), (29, .int .i64 a1)]) (by kernel_rfl) (by decide) ?_
      by_cases hb6 : 0 ≤ a1 ∧ a1 ≤ (l0.length : Int) ∧ (l0.length : Int) ≤ (l0.length : Int)
      case neg => rw [if_neg hb6] at h; cases h
      rw [if_pos hb6] at h
      refine WL.tellS (op := .slice 32 (.tmp 28) (some (.tmp 29)) none none) (ty := 32) (d := some 30) (g := none) (by kernel_rfl) (by kernel_rfl) (by kernel_rfl) (Hl0.slice (l := a1) (h := (l0.length : Int)) (by kernel_rfl) ⟨.i64, by kernel_rfl⟩ rfl hb6.1 hb6.2.1 hb6.2.2 sl32) ?_
      rintro AP7 cP7 HP7
      refine WL.restQ 3 [1, 8] (L' := [(1, .int .i64 a1), (8, .slice AP7 ((l0.take (l0.length : Int).toNat).drop a1.toNat).length cP7)]) (by kernel_rfl) ?_
      obtain ⟨v8, hv9, h⟩ := Option.bind_eq_some_iff.1 h
      replace hv9 := Option.some.inj hv9
      have Hn10 := HP7
      rw [hv9] at Hn10
      refine WP.reput 8 (v := .slice AP7 ((l0.take (l0.length : Int).toNat).drop a1.toNat).length cP7) (v' := .slice AP7 v8.length cP7) (by kernel_rfl) (by subst hv9; rfl) ?_
      refine WP.pick [1, 8] ?_
      refine WP.seq ?_
      refine WP.any (G0 := G) (Γ0 := Γ) mo ?_
      refine WA.pure [0, 6] [1, 8, 31, 37] (m := 10) (done' := #[true, false, false, false, false, false, true, false, false, false, false, false]) (L' := [(1, .int .i64 a1), (8, .slice AP7 v8.length cP7), (31, .slice AP7 v8.length cP7), (37, .slice AP7 v8.length cP7)]) (by kernel_rfl) (by repeat (first | exact NoPanic.body | refine NoPanic.then ?_ | refine NoPanic.block ?_)) Under.refl (by kernel_rfl) ?_
      by_cases hb11 : 0 ≤ (2 : Int) ∧ (2 : Int) < (v8.length : Int)
      case neg => rw [if_neg hb11] at h; cases h
      rw [if_pos hb11] at h
      refine WA.tell (i := 1) (m := 9) (by kernel_rfl) (by repeat (first | exact NoPanic.body | refine NoPanic.then ?_ | refine NoPanic.block ?_)) Under.refl (by kernel_rfl) (op := .indexAddr 32 (.tmp 31) (.const (.int .i64 2))) (ty := 0) (d := some 32) (g := none) (by kernel_rfl) (by kernel_rfl) (by kernel_rfl) (Tells.indexAddr (A := AP7) (n := v8.length) (c := cP7) (k := .i64) (j := 2) (by kernel_rfl) (by kernel_rfl) (Hn10.isSome hb11.1 hb11.2) hb11.1 hb11.2 sl32) ?_
      refine WA.tellE (i := 2) (m := 8) (by kernel_rfl) (by repeat (first | exact NoPanic.body | refine NoPanic.then ?_ | refine NoPanic.block ?_)) Under.refl (by kernel_rfl) (op := .load 5 (.tmp 32)) (ty := 5) (d := some 33) (g := none) (by kernel_rfl) (by kernel_rfl) (by kernel_rfl) (Hn10.load (agg := false) hb11.1 hb11.2 0 ag5 (fun _ => rfl) (by kernel_rfl)) ?_
      rintro _ rfl
      refine WA.pure [3, 4, 5] [1, 8, 36, 37] (m := 5) (done' := #[true, true, true, true, true, true, true, false, false, false, false, false]) (L' := [(1, .int .i64 a1), (8, .slice AP7 v8.length cP7), (36, .int .i64 (IntKind.i64.wrap (4 + (shlK .i64 (IntKind.i64.wrap (v8.getD (2 : Int).toNat 0)) 8)))), (37, .slice AP7 v8.length cP7)]) (by kernel_rfl) (by repeat (first | exact NoPanic.body | refine NoPanic.then ?_ | refine NoPanic.block ?_)) Under.refl (by kernel_rfl) ?_
      by_cases hb12 : 0 ≤ (3 : Int) ∧ (3 : Int) < (v8.length : Int)
      case neg => rw [if_neg hb12] at h; cases h
      rw [if_pos hb12] at h
      refine WA.tell (i := 7) (m := 4) (by kernel_rfl) (by repeat (first | exact NoPanic.body | refine NoPanic.then ?_ | refine NoPanic.block ?_)) Under.refl (by kernel_rfl) (op := .indexAddr 32 (.tmp 37) (.const (.int .i64 3))) (ty := 0) (d := some 38) (g := none) (by kernel_rfl) (by kernel_rfl) (by kernel_rfl) (Tells.indexAddr (A := AP7) (n := v8.length) (c := cP7) (k := .i64) (j := 3) (by kernel_rfl) (by kernel_rfl) (Hn10.isSome hb12.1 hb12.2) hb12.1 hb12.2 sl32) ?_
      refine WA.tellE (i := 8) (m := 3) (by kernel_rfl) (by repeat (first | exact NoPanic.body | refine NoPanic.then ?_ | refine NoPanic.block ?_)) Under.refl (by kernel_rfl) (op := .load 5 (.tmp 38)) (ty := 5) (d := some 39) (g := none) (by kernel_rfl) (by kernel_rfl) (by kernel_rfl) (Hn10.load (agg := false) hb12.1 hb12.2 0 ag5 (fun _ => rfl) (by kernel_rfl)) ?_
      rintro _ rfl
      refine WA.pure [9, 10, 11] [1, 8, 9] (m := 0) (done' := #[true, true, true, true, true, true, true, true, true, true, true, true]) (L' := [(1, .int .i64 a1), (8, .slice AP7 v8.length cP7), (9, .int .i64 (IntKind.i64.wrap ((IntKind.i64.wrap (4 + (shlK .i64 (IntKind.i64.wrap (v8.getD (2 : Int).toNat 0)) 8))) + (IntKind.i64.wrap (v8.getD (3 : Int).toNat 0)))))]) (by kernel_rfl) (by repeat (first | exact NoPanic.body | refine NoPanic.then ?_ | refine NoPanic.block ?_)) Under.refl (by kernel_rfl) ?_
      refine WA.done (by kernel_rfl) ?_
      refine QP.pick [1, 8, 9] ?_
      refine QP.next ?_
      obtain ⟨v13, hv14, h⟩ := Option.bind_eq_some_iff.1 h
      replace hv14 := Option.some.inj hv14
      refine WP.reput 9 (v := .int .i64 (IntKind.i64.wrap ((IntKind.i64.wrap (4 + (shlK .i64 (IntKind.i64.wrap (v8.getD (2 : Int).toNat 0)) 8))) + (IntKind.i64.wrap (v8.getD (3 : Int).toNat 0))))) (v' := .int .i64 v13) (by kernel_rfl) (by subst hv14; rfl) ?_
      refine WP.pick [1, 8, 9] ?_
      refine WP.seq ?_
      rw [Option.bind_eq_some_iff] at h
      obtain ⟨os15, h, hk16⟩ := h
      refine WP.cut (fun L' G' Γ' => ∃ s15 : Bool, s15 = os15 ∧ L' = [(1, .int .i64 a1), (8, .slice AP7 v8.length cP7), (9, .int .i64 v13), (58, .bool s15)] ∧ G = G' ∧ Γ = Γ') ?_ ?_
      · clear hk16
        refine WP.region ?_
        refine WL.pure 0 1 [1, 8, 9, 42] (L' := [(1, .int .i64 a1), (8, .slice AP7 v8.length cP7), (9, .int .i64 v13), (42, .slice AP7 v8.length cP7)]) (by kernel_rfl) (by decide) ?_
        by_cases hb17 : 0 ≤ (0 : Int) ∧ (0 : Int) < (v8.length : Int)
        case neg => rw [if_neg hb17] at h; cases h
        rw [if_pos hb17] at h
        refine WL.tell (op := .indexAddr 32 (.tmp 42) (.const (.int .i64 0))) (ty := 0) (d := some 43) (g := none) (by kernel_rfl) (by kernel_rfl) (by kernel_rfl) (Tells.indexAddr (A := AP7) (n := v8.length) (c := cP7) (k := .i64) (j := 0) (by kernel_rfl) (by kernel_rfl) (Hn10.isSome hb17.1 hb17.2) hb17.1 hb17.2 sl32) ?_
        refine WL.tellE (op := .load 5 (.tmp 43)) (ty := 5) (d := some 44) (g := none) (by kernel_rfl) (by kernel_rfl) (by kernel_rfl) (Hn10.load (agg := false) hb17.1 hb17.2 0 ag5 (fun _ => rfl) (by kernel_rfl)) ?_
        rintro _ rfl
        refine WL.pure 3 5 [1, 8, 9, 46] (L' := [(1, .int .i64 a1), (8, .slice AP7 v8.length cP7), (9, .int .i64 v13), (46, .bool ((v8.getD (0 : Int).toNat 0) != 71))]) (by kernel_rfl) (by decide) ?_
        refine WL.split 46 (b := ((v8.getD (0 : Int).toNat 0) != 71)) (by kernel_rfl) (fun hc => ?_) (fun hc => ?_)
        · replace hc := (bne_iff_ne.1 hc)
          rw [if_pos hc] at h
          have hc18 := hc
          clear hc
          refine WL.rest 5 [1, 8, 9, 58] (L' := [(1, .int .i64 a1), (8, .slice AP7 v8.length cP7), (9, .int .i64 v13), (58, .bool true)]) (by kernel_rfl) ?_
          refine QP.pick [1, 8, 9, 58] ?_
          exact QP.meet ⟨_, Option.some.inj h, rfl, rfl, rfl⟩
        · replace hc := (not_not_intro (bne_eq_false_iff_eq.1 hc))
          rw [if_neg hc] at h
          have hc18 := hc
          clear hc
          refine WL.pure 5 6 [1, 8, 9, 46, 47] (L' := [(1, .int .i64 a1), (8, .slice AP7 v8.length cP7), (9, .int .i64 v13), (46, .bool false), (47, .slice AP7 v8.length cP7)]) (by kernel_rfl) (by decide) ?_
          by_cases hb19 : 0 ≤ (1 : Int) ∧ (1 : Int) < (v8.length : Int)
          case neg => rw [if_neg hb19] at h; cases h
          rw [if_pos hb19] at h
          refine WL.tell (op := .indexAddr 32 (.tmp 47) (.const (.int .i64 1))) (ty := 0) (d := some 48) (g := some (4, false)) (by kernel_rfl) (by kernel_rfl) (by kernel_rfl) (Tells.indexAddr (A := AP7) (n := v8.length) (c := cP7) (k := .i64) (j := 1) (by kernel_rfl) (by kernel_rfl) (Hn10.isSome hb19.1 hb19.2) hb19.1 hb19.2 sl32) ?_
          refine WL.tellE (op := .load 5 (.tmp 48)) (ty := 5) (d := some 49) (g := some (4, false)) (by kernel_rfl) (by kernel_rfl) (by kernel_rfl) (Hn10.load (agg := false) hb19.1 hb19.2 0 ag5 (fun _ => rfl) (by kernel_rfl)) ?_
          rintro _ rfl
          refine WL.pure 8 11 [1, 8, 9, 52] (L' := [(1, .int .i64 a1), (8, .slice AP7 v8.length cP7), (9, .int .i64 v13), (52, .bool ((v8.getD (1 : Int).toNat 0) == 0))]) (by kernel_rfl) (by decide) ?_
          refine WL.split 52 (b := ((v8.getD (1 : Int).toNat 0) == 0)) (by kernel_rfl) (fun hc => ?_) (fun hc => ?_)
          · replace hc := eq_of_beq hc
            rw [if_pos hc] at h
            have hc20 := hc
            clear hc
            refine WL.rest 11 [1, 8, 9, 58] (L' := [(1, .int .i64 a1), (8, .slice AP7 v8.length cP7), (9, .int .i64 v13), (58, .bool true)]) (by kernel_rfl) ?_
            refine QP.pick [1, 8, 9, 58] ?_
            exact QP.meet ⟨_, Option.some.inj h, rfl, rfl, rfl⟩
          · replace hc := ne_of_beq_false hc
            rw [if_neg hc] at h
            have hc20 := hc
            clear hc
            refine WL.rest 11 [1, 8, 9, 58] (L' := [(1, .int .i64 a1), (8, .slice AP7 v8.length cP7), (9, .int .i64 v13), (58, .bool (decide ((IntKind.i64.wrap ((v8.length : Int) - 8)) < v13)))]) (by kernel_rfl) ?_
            refine QP.pick [1, 8, 9, 58] ?_
            exact QP.meet ⟨_, Option.some.inj h, rfl, rfl, rfl⟩
      · rintro _ _ _ ⟨s15, rfl, rfl, rfl, rfl⟩
        clear h
        replace h := hk16
        refine WP.cond (b := s15) (by kernel_rfl) (fun hc => ?_) (fun hc => ?_)
        · replace hc := hc
          rw [if_pos hc] at h
          have hc21 := hc
          clear hc
          refine WP.seqP [4, 5, 6, 7] (L' := [(4, .int .i64 0), (5, .slice none 0 0), (6, .int .i64 0), (7, .bool false)]) (by kernel_rfl) ?_
          refine WP.ret ?_
          refine QP.thenR ?_
          obtain rfl := Option.some.inj h
          refine QP.addNil ?_
          exact QP.returned [4, 5, 6, 7] [.int .i64 0, .slice none 0 0, .int .i64 0, .bool false] _ (by kernel_rfl) (by kernel_rfl) (by kernel_rfl) (fun W hI => ⟨_, _, _, rfl, ⟨none, 0, [], rfl, Ow.nil _ _, rfl, rfl⟩, hI⟩)
        · replace hc := (Bool.eq_false_iff.1 hc)
          rw [if_neg hc] at h
          have hc21 := hc
          clear hc
          refine WP.skip ?_
          refine QP.next ?_
          refine WP.pick [1, 8, 9] ?_
          refine WP.seqR ?_
          refine WL.pure 0 2 [1, 8, 9, 59, 60] (L' := [(1, .int .i64 a1), (8, .slice AP7 v8.length cP7), (9, .int .i64 v13), (59, .slice AP7 v8.length cP7), (60, .int .i64 v13)]) (by kernel_rfl) (by decide) ?_
          by_cases hb22 : 0 ≤ (0 : Int) ∧ (0 : Int) ≤ v13 ∧ v13 ≤ (v8.length : Int)
          case neg => rw [if_neg hb22] at h; cases h
          rw [if_pos hb22] at h
          refine WL.tellS (op := .slice 32 (.tmp 59) none (some (.tmp 60)) none) (ty := 32) (d := some 61) (g := none) (by kernel_rfl) (by kernel_rfl) (by kernel_rfl) (Hn10.slice (l := 0) (h := v13) (by kernel_rfl) rfl ⟨.i64, by kernel_rfl⟩ hb22.1 hb22.2.1 hb22.2.2 sl32) ?_
          rintro AP23 cP23 HP23
          refine WL.op (op := .buildSlice 22 1 #[(0, (.tmp 61))]) (ty := 22) (d := some 62) (g := none) (by kernel_rfl) (by kernel_rfl) (by kernel_rfl) (Does.new (o := .cells #[.slice AP23 ((v8.take v13.toNat).drop (0 : Int).toNat).length cP23] 32 (0, 0)) (v := fun r => .slice (some ⟨r, 0, none⟩) 1 1) (fun r => by kernel_rfl)) ?_
          rintro _ _ _ ⟨b24, rfl, rfl, rfl⟩
          have Ho26 : Ow (kSlice (kInt .u8)) G (some ⟨b24, 0, none⟩) 1 ([((v8.take v13.toNat).drop (0 : Int).toNat)] : List (List Int)) [(b24, .cells #[.slice AP23 ((v8.take v13.toNat).drop (0 : Int).toNat).length cP23] 32 (0, 0))] := Ow.lit (kd := (kSlice (kInt .u8))) (G := G) (b := b24) (T := 32) (xs := ([((v8.take v13.toNat).drop (0 : Int).toNat)] : List (List Int))) (cs := [.slice AP23 ((v8.take v13.toNat).drop (0 : Int).toNat).length cP23]) (.cons (x := ((v8.take v13.toNat).drop (0 : Int).toNat)) (cs := [.slice AP23 ((v8.take v13.toNat).drop (0 : Int).toNat).length cP23]) ⟨AP23, cP23, rfl, HP23⟩ .nil)
          rw [Option.bind_eq_some_iff] at h
          obtain ⟨t27, ht28, h⟩ := h
          refine WL.op (op := .call { callee := (.value (.func 13)), args := #[(.tmp 62)], argTypes := #[22] }) (ty := 26) (d := some 63) (g := none) (by kernel_rfl) (by kernel_rfl) (by kernel_rfl) (Does.call (Φ := fun v' G' Γ' => v' = .int .u64 t27 ∧ G = G' ∧ [(b24, .cells #[.slice AP23 ((v8.take v13.toNat).drop (0 : Int).toNat).length cP23] 32 (0, 0))] :: Γ = Γ') (f := 13) (args := [.slice (some ⟨b24, 0, none⟩) ([((v8.take v13.toNat).drop (0 : Int).toNat)] : List (List Int)).length 1]) (by kernel_rfl) (fun W hI => Calls.lend (i := 0) rfl (Ow.nodup Ho26) hI (fun _ e l29 hI => by subst e; exact (digest_Of_calls k ([((v8.take v13.toNat).drop (0 : Int).toNat)] : List (List Int)) (some ⟨b24, 0, none⟩) 1 (Ho26.rd l29) t27 ht28 hI)))) ?_
          rintro _ _ _ ⟨rfl, rfl, rfl⟩
          refine WL.restQ 5 [1, 8, 9, 10] (L' := [(1, .int .i64 a1), (8, .slice AP7 v8.length cP7), (9, .int .i64 v13), (10, .int .u64 t27)]) (by kernel_rfl) ?_
          refine WP.seq ?_
          refine WP.seqR ?_
          refine WL.pure 0 4 [1, 8, 9, 10, 64, 65, 67] (L' := [(1, .int .i64 a1), (8, .slice AP7 v8.length cP7), (9, .int .i64 v13), (10, .int .u64 t27), (64, .slice AP7 v8.length cP7), (65, .int .i64 v13), (67, .int .i64 (IntKind.i64.wrap (v13 + 8)))]) (by kernel_rfl) (by decide) ?_
          by_cases hb30 : 0 ≤ v13 ∧ v13 ≤ (IntKind.i64.wrap (v13 + 8)) ∧ (IntKind.i64.wrap (v13 + 8)) ≤ (v8.length : Int)
          case neg => rw [if_neg hb30] at h; cases h
          rw [if_pos hb30] at h
          refine WL.tellS (op := .slice 32 (.tmp 64) (some (.tmp 65)) (some (.tmp 67)) none) (ty := 32) (d := some 68) (g := none) (by kernel_rfl) (by kernel_rfl) (by kernel_rfl) (Hn10.slice (l := v13) (h := (IntKind.i64.wrap (v13 + 8))) (by kernel_rfl) ⟨.i64, by kernel_rfl⟩ ⟨.i64, by kernel_rfl⟩ hb30.1 hb30.2.1 hb30.2.2 sl32) ?_
          rintro AP31 cP31 HP31
          refine WL.restQ 5 [1, 8, 9, 10, 68, 69, 70] (L' := [(1, .int .i64 a1), (8, .slice AP7 v8.length cP7), (9, .int .i64 v13), (10, .int .u64 t27), (68, .slice AP31 ((v8.take (IntKind.i64.wrap (v13 + 8)).toNat).drop v13.toNat).length cP31), (69, .int .i64 (((v8.take (IntKind.i64.wrap (v13 + 8)).toNat).drop v13.toNat).length : Int)), (70, .int .i64 0)]) (by kernel_rfl) ?_
          obtain ⟨v32, hv33, h⟩ := Option.bind_eq_some_iff.1 h
          replace hv33 := Option.some.inj hv33
          have Hn34 := HP31
          rw [hv33] at Hn34
          refine WP.reput 68 (v := .slice AP31 ((v8.take (IntKind.i64.wrap (v13 + 8)).toNat).drop v13.toNat).length cP31) (v' := .slice AP31 v32.length cP31) (by kernel_rfl) (by subst hv33; rfl) ?_
          obtain ⟨v35, hv36, h⟩ := Option.bind_eq_some_iff.1 h
          replace hv36 := Option.some.inj hv36
          refine WP.reput 69 (v := .int .i64 (((v8.take (IntKind.i64.wrap (v13 + 8)).toNat).drop v13.toNat).length : Int)) (v' := .int .i64 v35) (by kernel_rfl) (by subst hv36; rfl) ?_
          refine WP.pick [1, 8, 9, 10, 68, 69, 70] ?_
          rw [Option.bind_eq_some_iff] at h
          obtain ⟨os37, h, hk38⟩ := h
          refine WP.cutQ (fun L' G' Γ' => ∃ s37 : Unit, Sum.inr s37 = os37 ∧ L' = [(1, .int .i64 a1), (8, .slice AP7 v8.length cP7), (9, .int .i64 v13)] ∧ G = G' ∧ [(b24, .cells #[.slice AP23 ((v8.take v13.toNat).drop (0 : Int).toNat).length cP23] 32 (0, 0))] :: Γ = Γ') ?_ ?_
          · skip
            refine WP.block ?_
            refine WP.pick [1, 8, 9, 10, 68, 69, 70] ?_
            refine WP.loopF (fun k40 L' G' Γ' => ∃ (y39 : Int), frame_Next_l0 t27 v32 v35 k40 y39 = some os37 ∧ L' = [(1, .int .i64 a1), (8, .slice AP7 v8.length cP7), (9, .int .i64 v13), (10, .int .u64 t27), (68, .slice AP31 v32.length cP31), (69, .int .i64 v35), (70, .int .i64 y39)] ∧ G = G' ∧ [(b24, .cells #[.slice AP23 ((v8.take v13.toNat).drop (0 : Int).toNat).length cP23] 32 (0, 0))] :: Γ = Γ') ?_ k ⟨0, h, rfl, rfl, rfl⟩
            clear h
            rintro k41 _ _ _ ⟨y39, h, rfl, rfl, rfl⟩
            cases k41 with
            | zero => exact absurd h (by simp [frame_Next_l0])
            | succ k41 =>
              simp only [frame_Next_l0] at h
              refine WP.seqP [1, 8, 9, 10, 68, 69, 70, 71] (L' := [(1, .int .i64 a1), (8, .slice AP7 v8.length cP7), (9, .int .i64 v13), (10, .int .u64 t27), (68, .slice AP31 v32.length cP31), (69, .int .i64 v35), (70, .int .i64 y39), (71, .bool (decide (y39 < v35)))]) (by kernel_rfl) ?_
              refine WP.seq ?_
              refine WP.cond (b := decide (y39 < v35)) (by kernel_rfl) (fun hc => ?_) (fun hc => ?_)
              · replace hc := of_decide_eq_true hc
                rw [if_pos hc] at h
                have hc42 := hc
                clear hc
                refine WP.skip ?_
                refine QP.next ?_
                refine WP.pick [1, 8, 9, 10, 68, 69, 70] ?_
                refine WP.seq ?_
                refine WP.block ?_
                refine WP.seqR ?_
                refine WL.pure 0 1 [1, 8, 9, 10, 68, 69, 70, 72] (L' := [(1, .int .i64 a1), (8, .slice AP7 v8.length cP7), (9, .int .i64 v13), (10, .int .u64 t27), (68, .slice AP31 v32.length cP31), (69, .int .i64 v35), (70, .int .i64 y39), (72, .int .i64 y39)]) (by kernel_rfl) (by decide) ?_
                by_cases hb43 : 0 ≤ y39 ∧ y39 < (v32.length : Int)
                case neg => rw [if_neg hb43] at h; cases h
                rw [if_pos hb43] at h
                refine WL.tell (op := .indexAddr 32 (.tmp 68) (.tmp 70)) (ty := 0) (d := some 73) (g := none) (by kernel_rfl) (by kernel_rfl) (by kernel_rfl) (Tells.indexAddr (A := AP31) (n := v32.length) (c := cP31) (k := .i64) (j := y39) (by kernel_rfl) (by kernel_rfl) (Hn34.isSome hb43.1 hb43.2) hb43.1 hb43.2 sl32) ?_
                refine WL.tellE (op := .load 5 (.tmp 73)) (ty := 5) (d := some 74) (g := none) (by kernel_rfl) (by kernel_rfl) (by kernel_rfl) (Hn34.load (agg := false) hb43.1 hb43.2 0 ag5 (fun _ => rfl) (by kernel_rfl)) ?_
                rintro _ rfl
                refine WL.restQ 3 [1, 8, 9, 10, 11, 12, 68, 69, 70] (L' := [(1, .int .i64 a1), (8, .slice AP7 v8.length cP7), (9, .int .i64 v13), (10, .int .u64 t27), (11, .int .i64 y39), (12, .int .u8 (v32.getD y39.toNat 0)), (68, .slice AP31 v32.length cP31), (69, .int .i64 v35), (70, .int .i64 y39)]) (by kernel_rfl) ?_
                refine WP.seqR ?_
                refine WL.pure 0 5 [1, 8, 9, 10, 68, 69, 70, 75, 76, 79] (L' := [(1, .int .i64 a1), (8, .slice AP7 v8.length cP7), (9, .int .i64 v13), (10, .int .u64 t27), (68, .slice AP31 v32.length cP31), (69, .int .i64 v35), (70, .int .i64 y39), (75, .int .u8 (v32.getD y39.toNat 0)), (76, .int .u64 t27), (79, .int .i64 (IntKind.i64.wrap (56 - (IntKind.i64.wrap (8 * y39)))))]) (by kernel_rfl) (by decide) ?_
                by_cases hb44 : 0 ≤ (IntKind.i64.wrap (56 - (IntKind.i64.wrap (8 * y39))))
                case neg => rw [if_neg hb44] at h; cases h
                rw [if_pos hb44] at h
                refine WL.tell (op := .binOp .shr 26 (.tmp 76) (.tmp 79) 3) (ty := 26) (d := some 80) (g := none) (by kernel_rfl) (by kernel_rfl) (by kernel_rfl) (Tells.shr (k := .u64) (k' := .i64) (a := t27) (b := (IntKind.i64.wrap (56 - (IntKind.i64.wrap (8 * y39))))) (by kernel_rfl) (by kernel_rfl) hb44) ?_
                refine WL.restQ 6 [1, 8, 9, 10, 68, 69, 70, 82] (L' := [(1, .int .i64 a1), (8, .slice AP7 v8.length cP7), (9, .int .i64 v13), (10, .int .u64 t27), (68, .slice AP31 v32.length cP31), (69, .int .i64 v35), (70, .int .i64 y39), (82, .bool ((v32.getD y39.toNat 0) != (IntKind.u8.wrap (shrK .u64 t27 (IntKind.i64.wrap (56 - (IntKind.i64.wrap (8 * y39))))))))]) (by kernel_rfl) ?_
                refine WP.cond (b := ((v32.getD y39.toNat 0) != (IntKind.u8.wrap (shrK .u64 t27 (IntKind.i64.wrap (56 - (IntKind.i64.wrap (8 * y39)))))))) (by kernel_rfl) (fun hc => ?_) (fun hc => ?_)
                · replace hc := (bne_iff_ne.1 hc)
                  rw [if_pos hc] at h
                  have hc45 := hc
                  clear hc
                  refine WP.seqP [4, 5, 6, 7] (L' := [(4, .int .i64 0), (5, .slice none 0 0), (6, .int .i64 0), (7, .bool false)]) (by kernel_rfl) ?_
                  refine WP.ret ?_
                  refine QP.blockR ?_
                  refine QP.thenR ?_
                  refine QP.thenR ?_
                  refine QP.blockR ?_
                  refine QP.thenR ?_
                  refine QP.thenR ?_
                  obtain rfl := Option.some.inj h
                  obtain rfl := Option.some.inj (show some _ = some _ from hk38)
                  refine QP.addNil ?_
                  refine QP.dropAt 1 ?_
                  exact QP.returned [4, 5, 6, 7] [.int .i64 0, .slice none 0 0, .int .i64 0, .bool false] _ (by kernel_rfl) (by kernel_rfl) (by kernel_rfl) (fun W hI => ⟨_, _, _, rfl, ⟨none, 0, [], rfl, Ow.nil _ _, rfl, rfl⟩, hI⟩)
                · replace hc := (not_not_intro (bne_eq_false_iff_eq.1 hc))
                  rw [if_neg hc] at h
                  have hc45 := hc
                  clear hc
                  refine WP.skip ?_
                  refine QP.blockN ?_
                  refine QP.next ?_
                  refine WP.pick [1, 8, 9, 10, 68, 69, 70] ?_
                  refine WP.regionP [1, 8, 9, 10, 68, 69, 70] (L' := [(1, .int .i64 a1), (8, .slice AP7 v8.length cP7), (9, .int .i64 v13), (10, .int .u64 t27), (68, .slice AP31 v32.length cP31), (69, .int .i64 v35), (70, .int .i64 (IntKind.i64.wrap (y39 + 1)))]) (by kernel_rfl) ?_
                  refine QP.pick [1, 8, 9, 10, 68, 69, 70] ?_
                  exact QP.meet ⟨k41, Nat.lt_succ_self _, (IntKind.i64.wrap (y39 + 1)), h, rfl, rfl, rfl⟩
              · replace hc := of_decide_eq_false hc
                rw [if_neg hc] at h
                have hc42 := hc
                clear hc
                refine WP.exit ?_
                refine QP.thenE ?_
                refine QP.thenE ?_
                refine QP.blockE ?_
                refine QP.pick [1, 8, 9] ?_
                exact QP.meet ⟨_, Option.some.inj h, rfl, rfl, rfl⟩
          · rintro _ _ _ ⟨s37, rfl, rfl, rfl, rfl⟩
            clear h
            replace h := hk38
            refine QP.next ?_
            refine WP.pick [1, 8, 9] ?_
            refine WP.seq ?_
            refine WP.any (G0 := G) (Γ0 := [(b24, .cells #[.slice AP23 ((v8.take v13.toNat).drop (0 : Int).toNat).length cP23] 32 (0, 0))] :: Γ) mo ?_
            refine WA.pure [0, 4, 5, 8, 9, 10, 11] [84, 88, 89, 95] (m := 9) (done' := #[true, false, false, false, true, true, false, false, true, true, true, true, false, false, false, false]) (L' := [(84, .slice AP7 v8.length cP7), (88, .slice AP7 v8.length cP7), (89, .int .i64 v13), (95, .int .i64 (IntKind.i64.wrap ((IntKind.i64.wrap (a1 + v13)) + 8)))]) (by kernel_rfl) (by repeat (first | exact NoPanic.body | refine NoPanic.then ?_ | refine NoPanic.block ?_)) Under.refl (by kernel_rfl) ?_
            by_cases hb46 : 0 ≤ (1 : Int) ∧ (1 : Int) < (v8.length : Int)
            case neg => rw [if_neg hb46] at h; cases h
            rw [if_pos hb46] at h
            refine WA.tell (i := 1) (m := 8) (by kernel_rfl) (by repeat (first | exact NoPanic.body | refine NoPanic.then ?_ | refine NoPanic.block ?_)) Under.refl (by kernel_rfl) (op := .indexAddr 32 (.tmp 84) (.const (.int .i64 1))) (ty := 0) (d := some 85) (g := none) (by kernel_rfl) (by kernel_rfl) (by kernel_rfl) (Tells.indexAddr (A := AP7) (n := v8.length) (c := cP7) (k := .i64) (j := 1) (by kernel_rfl) (by kernel_rfl) (Hn10.isSome hb46.1 hb46.2) hb46.1 hb46.2 sl32) ?_
            refine WA.tellE (i := 2) (m := 7) (by kernel_rfl) (by repeat (first | exact NoPanic.body | refine NoPanic.then ?_ | refine NoPanic.block ?_)) Under.refl (by kernel_rfl) (op := .load 5 (.tmp 85)) (ty := 5) (d := some 86) (g := none) (by kernel_rfl) (by kernel_rfl) (by kernel_rfl) (Hn10.load (agg := false) hb46.1 hb46.2 0 ag5 (fun _ => rfl) (by kernel_rfl)) ?_
            rintro _ rfl
            refine WA.pure [3] [87, 88, 89, 95] (m := 6) (done' := #[true, true, true, true, true, true, false, false, true, true, true, true, false, false, false, false]) (L' := [(87, .int .i64 (IntKind.i64.wrap (v8.getD (1 : Int).toNat 0))), (88, .slice AP7 v8.length cP7), (89, .int .i64 v13), (95, .int .i64 (IntKind.i64.wrap ((IntKind.i64.wrap (a1 + v13)) + 8)))]) (by kernel_rfl) (by repeat (first | exact NoPanic.body | refine NoPanic.then ?_ | refine NoPanic.block ?_)) Under.refl (by kernel_rfl) ?_
            by_cases hb47 : 0 ≤ (4 : Int) ∧ (4 : Int) ≤ v13 ∧ v13 ≤ (v8.length : Int)
            case neg => rw [if_neg hb47] at h; cases h
            rw [if_pos hb47] at h
            refine WA.tellS (i := 6) (m := 5) (by kernel_rfl) (by repeat (first | exact NoPanic.body | refine NoPanic.then ?_ | refine NoPanic.block ?_)) Under.refl (by kernel_rfl) (op := .slice 32 (.tmp 88) (some (.const (.int .i64 4))) (some (.tmp 89)) none) (ty := 32) (d := some 90) (g := none) (by kernel_rfl) (by kernel_rfl) (by kernel_rfl) (Hn10.slice (l := 4) (h := v13) (by kernel_rfl) ⟨.i64, by kernel_rfl⟩ ⟨.i64, by kernel_rfl⟩ hb47.1 hb47.2.1 hb47.2.2 sl32) ?_
            rintro AP48 cP48 HP48
            rw [Option.bind_eq_some_iff] at h
            obtain ⟨t49, ht50, h⟩ := h
            refine WA.op (i := 7) (m := 4) (by kernel_rfl) (by kernel_rfl) (op := .call { callee := (.value (.func 35)), args := #[(.tmp 90)], argTypes := #[32] }) (ty := 32) (d := some 91) (g := none) (by kernel_rfl) (by kernel_rfl) (by kernel_rfl) (Does.call (f := 35) (args := [.slice AP48 ((v8.take v13.toNat).drop (4 : Int).toNat).length cP48]) (by kernel_rfl) (fun W hI => (slices_Clone_byte_byte_calls ((v8.take v13.toNat).drop (4 : Int).toNat) AP48 cP48 HP48 t49 ht50 hI))) ?_
            rintro _ _ _ ⟨AR51, cR51, CR51, rfl, HR51, rfl, rfl⟩
            refine ⟨_, _, Under.cons (Under.refl), Under.refl, ?_⟩
            refine WA.pure [12, 13, 14, 15] [4, 5, 6, 7] (m := 0) (done' := #[true, true, true, true, true, true, true, true, true, true, true, true, true, true, true, true]) (L' := [(4, .int .i64 (IntKind.i64.wrap (v8.getD (1 : Int).toNat 0))), (5, .slice AR51 t49.length cR51), (6, .int .i64 (IntKind.i64.wrap ((IntKind.i64.wrap (a1 + v13)) + 8))), (7, .bool true)]) (by kernel_rfl) (by repeat (first | exact NoPanic.body | refine NoPanic.then ?_ | refine NoPanic.block ?_)) Under.refl (by kernel_rfl) ?_
            refine WA.done (by kernel_rfl) ?_
            refine QP.pick [4, 5, 6, 7] ?_
            refine QP.next ?_
            refine WP.ret ?_
            obtain rfl := Option.some.inj h
            refine QP.dropAt 1 ?_
            exact QP.returned [4, 5, 6, 7] [.int .i64 (IntKind.i64.wrap (v8.getD (1 : Int).toNat 0)), .slice AR51 t49.length cR51, .int .i64 (IntKind.i64.wrap ((IntKind.i64.wrap (a1 + v13)) + 8)), .bool true] _ (by kernel_rfl) (by kernel_rfl) (by kernel_rfl) (fun W hI => ⟨_, _, _, rfl, ⟨AR51, cR51, CR51, rfl, HR51, rfl, rfl⟩, hI⟩)

/-! ### grapevine/frame.Count: function 26 -/
def frame_Count_l0 (l0 : List Int) : Nat → Int → Int → Option (Int × Int)
  | 0, _, _ => none
  | k + 1, y1, y2 => ((frame_Next k l0 y2).bind fun t5 => (if (!t5.2.2.2) = true then some (y1, y2) else frame_Count_l0 l0 k (IntKind.i64.wrap (y1 + 1)) t5.2.2.1))
def frame_Count (k : Nat) (l0 : List Int) : Option (Int × Int) := frame_Count_l0 l0 k 0 0
set_option maxHeartbeats 4000000 in
theorem frame_Count_calls {B : World} {G : GMap} {Γ : List Chunk} {W : World} (k : Nat) (l0 : List Int) (Al0 : Option Addr) (cl0 : Nat) (Hl0 : Rd (kInt .u8) G Al0 cl0 l0) (r : Int × Int) (h : frame_Count k l0 = some r) (hI : Inv B G (Γ) W) :
    Calls Try.prog 26 [.slice Al0 l0.length cl0].toArray W (Ret B (fun v G' Γ' => v = .tuple #[.int .i64 r.1, .int .i64 r.2] ∧ G = G' ∧ Γ = Γ')) := by
  refine calls_WP (Γ := Γ) (G := G) (B := B) Try.func26 rfl (by kernel_rfl) ?_ hI
  clear hI
  unfold frame_Count at h
  refine WP.seqP [0] (L' := [(0, .slice Al0 l0.length cl0)]) (by kernel_rfl) ?_
  refine WP.seqP [0, 4, 5] (L' := [(0, .slice Al0 l0.length cl0), (4, .int .i64 0), (5, .int .i64 0)]) (by kernel_rfl) ?_
  refine WP.block ?_
  refine WP.pick [0, 4, 5] ?_
  refine WP.loopF (fun k3 L' G' Γ' => ∃ (y1 : Int), ∃ (y2 : Int), frame_Count_l0 l0 k3 y1 y2 = some r ∧ L' = [(0, .slice Al0 l0.length cl0), (4, .int .i64 y1), (5, .int .i64 y2)] ∧ G = G' ∧ Γ = Γ') ?_ k ⟨0, 0, h, rfl, rfl, rfl⟩
  clear h
  rintro k4 _ _ _ ⟨y1, y2, h, rfl, rfl, rfl⟩
  cases k4 with
  | zero => exact absurd h (by simp [frame_Count_l0])
  | succ k4 =>
    simp only [frame_Count_l0] at h
    refine WP.block ?_
    refine WP.seqR ?_
    refine WL.pure 0 2 [0, 4, 5, 11, 12] (L' := [(0, .slice Al0 l0.length cl0), (4, .int .i64 y1), (5, .int .i64 y2), (11, .slice Al0 l0.length cl0), (12, .int .i64 y2)]) (by kernel_rfl) (by decide) ?_
    rw [Option.bind_eq_some_iff] at h
    obtain ⟨t5, ht6, h⟩ := h
    refine WL.op (op := .call { callee := (.value (.func 24)), args := #[(.tmp 11), (.tmp 12)], argTypes := #[32, 3] }) (ty := 45) (d := some 13) (g := none) (by kernel_rfl) (by kernel_rfl) (by kernel_rfl) (Does.call (f := 24) (args := [.slice Al0 l0.length cl0, .int .i64 y2]) (by kernel_rfl) (fun W hI => (frame_Next_calls k4 l0 y2 Al0 cl0 Hl0 t5 ht6 hI))) ?_
    rintro _ _ _ ⟨AR7, cR7, CR7, rfl, HR7, rfl, rfl⟩
    refine WL.restQ 3 [0, 4, 5, 8, 9] (L' := [(0, .slice Al0 l0.length cl0), (4, .int .i64 y1), (5, .int .i64 y2), (8, .int .i64 t5.2.2.1), (9, .bool t5.2.2.2)]) (by kernel_rfl) ?_
    refine WP.seq ?_
    refine WP.seqP [0, 4, 5, 8, 19] (L' := [(0, .slice Al0 l0.length cl0), (4, .int .i64 y1), (5, .int .i64 y2), (8, .int .i64 t5.2.2.1), (19, .bool (!t5.2.2.2))]) (by kernel_rfl) ?_
    refine WP.cond (b := (!t5.2.2.2)) (by kernel_rfl) (fun hc => ?_) (fun hc => ?_)
    · replace hc := hc
      rw [if_pos hc] at h
      have hc8 := hc
      clear hc
      refine WP.seqP [2, 3] (L' := [(2, .int .i64 y1), (3, .int .i64 y2)]) (by kernel_rfl) ?_
      refine WP.ret ?_
      refine QP.thenR ?_
      refine QP.blockR ?_
      refine QP.thenR ?_
      refine QP.blockR ?_
      obtain rfl := Option.some.inj h
      refine QP.dropAt 0 ?_
      exact QP.returned [2, 3] [.int .i64 y1, .int .i64 y2] _ (by kernel_rfl) (by kernel_rfl) (by kernel_rfl) (fun W hI => ⟨_, _, _, rfl, ⟨rfl, rfl, rfl⟩, hI⟩)
    · replace hc := (Bool.eq_false_iff.1 hc)
      rw [if_neg hc] at h
      have hc8 := hc
      clear hc
      refine WP.skip ?_
      refine QP.next ?_
      refine WP.pick [0, 4, 8] ?_
      refine WP.regionP [0, 4, 5] (L' := [(0, .slice Al0 l0.length cl0), (4, .int .i64 (IntKind.i64.wrap (y1 + 1))), (5, .int .i64 t5.2.2.1)]) (by kernel_rfl) ?_
      refine QP.blockN ?_
      refine QP.dropAt 0 ?_
      refine QP.pick [0, 4, 5] ?_
      exact QP.meet ⟨k4, Nat.lt_succ_self _, (IntKind.i64.wrap (y1 + 1)), t5.2.2.1, h, rfl, rfl, rfl⟩

/-! ### grapevine/grapevinelaw6.awake: function 18 -/
def grapevinelaw6_awake (k : Nat) : Option Bool := ((frame_Lay k 3 ([97, 98] : List Int)).bind fun t5 => ((frame_Next k t5.1 0).bind fun t9 => (if ([] : List Int).length + t5.1.length ≤ 1073741824 then (if (([] : List Int) ++ t5.1).length + t5.1.length ≤ 1073741824 then ((frame_Count k ((([] : List Int) ++ t5.1) ++ t5.1)).bind fun t17 => ((frame_Lay k 0 ([] : List Int)).bind fun t20 => ((if t5.2 = 0 then (if (t5.1.length : Int) = 14 then (if t9.1 = 3 then (if ((strOfNums t9.2.1).toList == (⟨#[97, 98]⟩ : ByteArray).toList) = true then (if t9.2.2.1 = 14 then (if t9.2.2.2 = true then (if t17.1 = 2 then (if t17.2 = 28 then some (t20.2 == 2) else some false) else some false) else some false) else some false) else some false) else some false) else some false) else some false).bind fun s23 => some s23))) else none) else none)))
set_option maxHeartbeats 4000000 in
theorem grapevinelaw6_awake_calls {B : World} {G : GMap} {Γ : List Chunk} {W : World} (k : Nat) (r : Bool) (h : grapevinelaw6_awake k  = some r) (hI : Inv B G (Γ) W) :
    Calls Try.prog 18 [].toArray W (Ret B (fun v G' Γ' => v = .bool r ∧ G = G' ∧ Γ = Γ')) := by
  refine calls_WP (Γ := Γ) (G := G) (B := B) Try.func18 rfl (by kernel_rfl) ?_ hI
  clear hI
  unfold grapevinelaw6_awake at h
  refine WP.seqP [] (L' := []) (by kernel_rfl) ?_
  refine WP.seqR ?_
  refine WL.op (op := .buildSlice 32 2 #[(0, (.const (.int .u8 97))), (1, (.const (.int .u8 98)))]) (ty := 32) (d := some 12) (g := none) (by kernel_rfl) (by kernel_rfl) (by kernel_rfl) (Does.new (o := .cells #[.int .u8 97, .int .u8 98] 5 (0, 0)) (v := fun r => .slice (some ⟨r, 0, none⟩) 2 2) (fun r => by kernel_rfl)) ?_
  rintro _ _ _ ⟨b1, rfl, rfl, rfl⟩
  have Ho3 : Ow (kInt .u8) G (some ⟨b1, 0, none⟩) 2 ([97, 98] : List Int) [(b1, .cells #[.int .u8 97, .int .u8 98] 5 (0, 0))] := Ow.lit (kd := (kInt .u8)) (G := G) (b := b1) (T := 5) (xs := ([97, 98] : List Int)) (cs := [.int .u8 97, .int .u8 98]) (.cons (x := 97) (cs := [.int .u8 97]) (by exact rfl) (.cons (x := 98) (cs := [.int .u8 98]) (by exact rfl) .nil))
  refine WL.op (op := .convert 32 32 (.tmp 12)) (ty := 32) (d := some 13) (g := none) (by kernel_rfl) (by kernel_rfl) (by kernel_rfl) (Ho3.mark (by rfl) (i := 0) rfl (by kernel_rfl) by32) ?_
  rintro _ _ _ ⟨rfl, CM4, rfl, HM4, rfl⟩
  rw [Option.bind_eq_some_iff] at h
  obtain ⟨t5, ht6, h⟩ := h
  refine WL.op (op := .call { callee := (.value (.func 19)), args := #[(.const (.int .i64 3)), (.tmp 13)], argTypes := #[3, 32] }) (ty := 37) (d := some 14) (g := none) (by kernel_rfl) (by kernel_rfl) (by kernel_rfl) (Does.call (Φ := fun v' G' Γ' => ∃ (AR7 : Option Addr), ∃ (cR7 : Nat), ∃ (CR7 : Chunk), v' = .tuple #[.slice AR7 t5.1.length cR7, .int .i64 t5.2] ∧ Ow (kInt .u8) G AR7 cR7 t5.1 CR7 ∧ G = G' ∧ CR7 :: CM4 :: Γ = Γ') (f := 19) (args := [.int .i64 3, .slice (some ⟨b1, 0, none⟩) ([97, 98] : List Int).length 2]) (by kernel_rfl) (fun W hI => (Calls.lendR (Φ := fun v' N => ∃ (AR7 : Option Addr), ∃ (cR7 : Nat), ∃ (CR7 : Chunk), v' = .tuple #[.slice AR7 t5.1.length cR7, .int .i64 t5.2] ∧ Ow (kInt .u8) G AR7 cR7 t5.1 CR7 ∧ N = [CR7]) (i := 0) rfl (Ow.nodup HM4) hI (fun _ e l8 hI => by subst e; exact ((frame_Lay_calls k 3 ([97, 98] : List Int) (some ⟨b1, 0, none⟩) 2 (HM4.rd l8) t5 ht6 hI).mono fun _ _ hr => by obtain ⟨_, _, _, rfl, ⟨AR7, cR7, CR7, rfl, HR7, rfl, rfl⟩, hI⟩ := hr; exact ⟨_, _, _, rfl, ⟨[CR7], ⟨AR7, cR7, CR7, rfl, (HR7.flat (kInt_flat _)), rfl⟩, rfl, rfl⟩, hI⟩))).mono fun _ _ hr => by obtain ⟨_, _, _, rfl, ⟨_, ⟨AR7, cR7, CR7, rfl, HR7, rfl⟩, rfl, rfl⟩, hI⟩ := hr; exact ⟨_, _, _, rfl, ⟨AR7, cR7, CR7, rfl, HR7, rfl, rfl⟩, hI⟩)) ?_
  rintro _ _ _ ⟨AR7, cR7, CR7, rfl, HR7, rfl, rfl⟩
  refine WL.restQ 3 [1, 2] (L' := [(1, .slice AR7 t5.1.length cR7), (2, .int .i64 t5.2)]) (by kernel_rfl) ?_
  refine WP.seqR ?_
  refine WL.pure 0 1 [1, 2, 18] (L' := [(1, .slice AR7 t5.1.length cR7), (2, .int .i64 t5.2), (18, .slice AR7 t5.1.length cR7)]) (by kernel_rfl) (by decide) ?_
  rw [Option.bind_eq_some_iff] at h
  obtain ⟨t9, ht10, h⟩ := h
  refine WL.op (op := .call { callee := (.value (.func 24)), args := #[(.tmp 18), (.const (.int .i64 0))], argTypes := #[32, 3] }) (ty := 45) (d := some 19) (g := none) (by kernel_rfl) (by kernel_rfl) (by kernel_rfl) (Does.call (Φ := fun v' G' Γ' => ∃ (AR11 : Option Addr), ∃ (cR11 : Nat), ∃ (CR11 : Chunk), v' = .tuple #[.int .i64 t9.1, .slice AR11 t9.2.1.length cR11, .int .i64 t9.2.2.1, .bool t9.2.2.2] ∧ Ow (kInt .u8) G AR11 cR11 t9.2.1 CR11 ∧ G = G' ∧ CR11 :: CR7 :: CM4 :: Γ = Γ') (f := 24) (args := [.slice AR7 t5.1.length cR7, .int .i64 0]) (by kernel_rfl) (fun W hI => (Calls.lendR (Φ := fun v' N => ∃ (AR11 : Option Addr), ∃ (cR11 : Nat), ∃ (CR11 : Chunk), v' = .tuple #[.int .i64 t9.1, .slice AR11 t9.2.1.length cR11, .int .i64 t9.2.2.1, .bool t9.2.2.2] ∧ Ow (kInt .u8) G AR11 cR11 t9.2.1 CR11 ∧ N = [CR11]) (i := 0) rfl (Ow.nodup HR7) hI (fun _ e l12 hI => by subst e; exact ((frame_Next_calls k t5.1 0 AR7 cR7 (HR7.rd l12) t9 ht10 hI).mono fun _ _ hr => by obtain ⟨_, _, _, rfl, ⟨AR11, cR11, CR11, rfl, HR11, rfl, rfl⟩, hI⟩ := hr; exact ⟨_, _, _, rfl, ⟨[CR11], ⟨AR11, cR11, CR11, rfl, (HR11.flat (kInt_flat _)), rfl⟩, rfl, rfl⟩, hI⟩))).mono fun _ _ hr => by obtain ⟨_, _, _, rfl, ⟨_, ⟨AR11, cR11, CR11, rfl, HR11, rfl⟩, rfl, rfl⟩, hI⟩ := hr; exact ⟨_, _, _, rfl, ⟨AR11, cR11, CR11, rfl, HR11, rfl, rfl⟩, hI⟩)) ?_
  rintro _ _ _ ⟨AR11, cR11, CR11, rfl, HR11, rfl, rfl⟩
  refine WL.restQ 2 [1, 2, 3, 4, 5, 6] (L' := [(1, .slice AR7 t5.1.length cR7), (2, .int .i64 t5.2), (3, .int .i64 t9.1), (4, .slice AR11 t9.2.1.length cR11), (5, .int .i64 t9.2.2.1), (6, .bool t9.2.2.2)]) (by kernel_rfl) ?_
  refine WP.seqR ?_
  refine WL.pure 0 1 [1, 2, 3, 4, 5, 6, 25] (L' := [(1, .slice AR7 t5.1.length cR7), (2, .int .i64 t5.2), (3, .int .i64 t9.1), (4, .slice AR11 t9.2.1.length cR11), (5, .int .i64 t9.2.2.1), (6, .bool t9.2.2.2), (25, .slice AR7 t5.1.length cR7)]) (by kernel_rfl) (by decide) ?_
  refine WL.addNil ?_
  by_cases hb13 : ([] : List Int).length + t5.1.length ≤ 1073741824
  case neg => rw [if_neg hb13] at h; cases h
  rw [if_pos hb13] at h
  refine WL.op (op := .call { callee := (.builtin .append), args := #[(.const (.slice none 0 0)), (.tmp 25)], argTypes := #[32, 32] }) (ty := 32) (d := some 26) (g := none) (by kernel_rfl) (by kernel_rfl) (by kernel_rfl) (Ow.append (ys := t5.1) (v := .slice AR7 t5.1.length cR7) (Ow.nil (kInt .u8) G) (i := 0) rfl (by kernel_rfl) (by kernel_rfl) (HR7.src (i := 2) rfl) sl32 ze5 nt32 (by decide) hb13) ?_
  rintro _ _ _ ⟨rfl, AN14, cN14, CN14, rfl, HN14, rfl⟩
  refine WL.pure 2 3 [1, 2, 3, 4, 5, 6, 26, 27] (L' := [(1, .slice AR7 t5.1.length cR7), (2, .int .i64 t5.2), (3, .int .i64 t9.1), (4, .slice AR11 t9.2.1.length cR11), (5, .int .i64 t9.2.2.1), (6, .bool t9.2.2.2), (26, .slice AN14 (([] : List Int) ++ t5.1).length cN14), (27, .slice AR7 t5.1.length cR7)]) (by kernel_rfl) (by decide) ?_
  by_cases hb15 : (([] : List Int) ++ t5.1).length + t5.1.length ≤ 1073741824
  case neg => rw [if_neg hb15] at h; cases h
  rw [if_pos hb15] at h
  refine WL.op (op := .call { callee := (.builtin .append), args := #[(.tmp 26), (.tmp 27)], argTypes := #[32, 32] }) (ty := 32) (d := some 28) (g := none) (by kernel_rfl) (by kernel_rfl) (by kernel_rfl) (Ow.append (ys := t5.1) (v := .slice AR7 t5.1.length cR7) HN14 (i := 0) rfl (by kernel_rfl) (by kernel_rfl) (HR7.src (i := 2) rfl) sl32 ze5 nt32 (by decide) hb15) ?_
  rintro _ _ _ ⟨rfl, AN16, cN16, CN16, rfl, HN16, rfl⟩
  rw [Option.bind_eq_some_iff] at h
  obtain ⟨t17, ht18, h⟩ := h
  refine WL.op (op := .call { callee := (.value (.func 26)), args := #[(.tmp 28)], argTypes := #[32] }) (ty := 47) (d := some 29) (g := none) (by kernel_rfl) (by kernel_rfl) (by kernel_rfl) (Does.call (Φ := fun v' G' Γ' => v' = .tuple #[.int .i64 t17.1, .int .i64 t17.2] ∧ G = G' ∧ CN16 :: CR11 :: CR7 :: CM4 :: Γ = Γ') (f := 26) (args := [.slice AN16 ((([] : List Int) ++ t5.1) ++ t5.1).length cN16]) (by kernel_rfl) (fun W hI => Calls.lend (i := 0) rfl (Ow.nodup HN16) hI (fun _ e l19 hI => by subst e; exact (frame_Count_calls k ((([] : List Int) ++ t5.1) ++ t5.1) AN16 cN16 (HN16.rd l19) t17 ht18 hI)))) ?_
  rintro _ _ _ ⟨rfl, rfl, rfl⟩
  refine WL.restQ 5 [1, 2, 3, 4, 5, 6, 7, 8] (L' := [(1, .slice AR7 t5.1.length cR7), (2, .int .i64 t5.2), (3, .int .i64 t9.1), (4, .slice AR11 t9.2.1.length cR11), (5, .int .i64 t9.2.2.1), (6, .bool t9.2.2.2), (7, .int .i64 t17.1), (8, .int .i64 t17.2)]) (by kernel_rfl) ?_
  refine WP.seqR ?_
  rw [Option.bind_eq_some_iff] at h
  obtain ⟨t20, ht21, h⟩ := h
  refine WL.op (op := .call { callee := (.value (.func 19)), args := #[(.const (.int .i64 0)), (.const (.slice none 0 0))], argTypes := #[3, 32] }) (ty := 37) (d := some 33) (g := none) (by kernel_rfl) (by kernel_rfl) (by kernel_rfl) (Does.call (f := 19) (args := [.int .i64 0, .slice none 0 0]) (by kernel_rfl) (fun W hI => (frame_Lay_calls k 0 ([] : List Int) none 0 (Rd.nil _ _ _ _) t20 ht21 hI))) ?_
  rintro _ _ _ ⟨AR22, cR22, CR22, rfl, HR22, rfl, rfl⟩
  refine WL.restQ 1 [1, 2, 3, 4, 5, 6, 7, 8, 10] (L' := [(1, .slice AR7 t5.1.length cR7), (2, .int .i64 t5.2), (3, .int .i64 t9.1), (4, .slice AR11 t9.2.1.length cR11), (5, .int .i64 t9.2.2.1), (6, .bool t9.2.2.2), (7, .int .i64 t17.1), (8, .int .i64 t17.2), (10, .int .i64 t20.2)]) (by kernel_rfl) ?_
  rw [Option.bind_eq_some_iff] at h
  obtain ⟨os23, h, hk24⟩ := h
  refine WP.cut (fun L' G' Γ' => ∃ s23 : Bool, s23 = os23 ∧ L' = [(0, .bool s23)] ∧ G = G' ∧ CR22 :: CN16 :: CR11 :: CR7 :: CM4 :: Γ = Γ') ?_ ?_
  · clear hk24
    refine WP.region ?_
    refine WL.pure 0 3 [1, 3, 4, 5, 6, 7, 8, 10, 38] (L' := [(1, .slice AR7 t5.1.length cR7), (3, .int .i64 t9.1), (4, .slice AR11 t9.2.1.length cR11), (5, .int .i64 t9.2.2.1), (6, .bool t9.2.2.2), (7, .int .i64 t17.1), (8, .int .i64 t17.2), (10, .int .i64 t20.2), (38, .bool (t5.2 == 0))]) (by kernel_rfl) (by decide) ?_
    refine WL.split 38 (b := (t5.2 == 0)) (by kernel_rfl) (fun hc => ?_) (fun hc => ?_)
    · replace hc := eq_of_beq hc
      rw [if_pos hc] at h
      have hc25 := hc
      clear hc
      refine WL.pure 3 8 [3, 4, 5, 6, 7, 8, 10, 43] (L' := [(3, .int .i64 t9.1), (4, .slice AR11 t9.2.1.length cR11), (5, .int .i64 t9.2.2.1), (6, .bool t9.2.2.2), (7, .int .i64 t17.1), (8, .int .i64 t17.2), (10, .int .i64 t20.2), (43, .bool ((t5.1.length : Int) == 14))]) (by kernel_rfl) (by decide) ?_
      refine WL.split 43 (b := ((t5.1.length : Int) == 14)) (by kernel_rfl) (fun hc => ?_) (fun hc => ?_)
      · replace hc := eq_of_beq hc
        rw [if_pos hc] at h
        have hc26 := hc
        clear hc
        refine WL.pure 8 12 [4, 5, 6, 7, 8, 10, 47] (L' := [(4, .slice AR11 t9.2.1.length cR11), (5, .int .i64 t9.2.2.1), (6, .bool t9.2.2.2), (7, .int .i64 t17.1), (8, .int .i64 t17.2), (10, .int .i64 t20.2), (47, .bool (t9.1 == 3))]) (by kernel_rfl) (by decide) ?_
        refine WL.split 47 (b := (t9.1 == 3)) (by kernel_rfl) (fun hc => ?_) (fun hc => ?_)
        · replace hc := eq_of_beq hc
          rw [if_pos hc] at h
          have hc27 := hc
          clear hc
          refine WL.pure 12 13 [5, 6, 7, 8, 10, 47, 48] (L' := [(5, .int .i64 t9.2.2.1), (6, .bool t9.2.2.2), (7, .int .i64 t17.1), (8, .int .i64 t17.2), (10, .int .i64 t20.2), (47, .bool true), (48, .slice AR11 t9.2.1.length cR11)]) (by kernel_rfl) (by decide) ?_
          refine WL.tell (op := .convert 32 9 (.tmp 48)) (ty := 9) (d := some 49) (g := some (11, true)) (by kernel_rfl) (by kernel_rfl) (by kernel_rfl) (HR11.str (i := 2) rfl (by kernel_rfl) by32 st9) ?_
          refine WL.pure 14 17 [5, 6, 7, 8, 10, 52] (L' := [(5, .int .i64 t9.2.2.1), (6, .bool t9.2.2.2), (7, .int .i64 t17.1), (8, .int .i64 t17.2), (10, .int .i64 t20.2), (52, .bool ((strOfNums t9.2.1).toList == (⟨#[97, 98]⟩ : ByteArray).toList))]) (by kernel_rfl) (by decide) ?_
          refine WL.split 52 (b := ((strOfNums t9.2.1).toList == (⟨#[97, 98]⟩ : ByteArray).toList)) (by kernel_rfl) (fun hc => ?_) (fun hc => ?_)
          · replace hc := hc
            rw [if_pos hc] at h
            have hc28 := hc
            clear hc
            refine WL.pure 17 21 [6, 7, 8, 10, 56] (L' := [(6, .bool t9.2.2.2), (7, .int .i64 t17.1), (8, .int .i64 t17.2), (10, .int .i64 t20.2), (56, .bool (t9.2.2.1 == 14))]) (by kernel_rfl) (by decide) ?_
            refine WL.split 56 (b := (t9.2.2.1 == 14)) (by kernel_rfl) (fun hc => ?_) (fun hc => ?_)
            · replace hc := eq_of_beq hc
              rw [if_pos hc] at h
              have hc29 := hc
              clear hc
              refine WL.pure 21 24 [7, 8, 10, 59] (L' := [(7, .int .i64 t17.1), (8, .int .i64 t17.2), (10, .int .i64 t20.2), (59, .bool t9.2.2.2)]) (by kernel_rfl) (by decide) ?_
              refine WL.split 59 (b := t9.2.2.2) (by kernel_rfl) (fun hc => ?_) (fun hc => ?_)
              · replace hc := hc
                rw [if_pos hc] at h
                have hc30 := hc
                clear hc
                refine WL.pure 24 28 [8, 10, 63] (L' := [(8, .int .i64 t17.2), (10, .int .i64 t20.2), (63, .bool (t17.1 == 2))]) (by kernel_rfl) (by decide) ?_
                refine WL.split 63 (b := (t17.1 == 2)) (by kernel_rfl) (fun hc => ?_) (fun hc => ?_)
                · replace hc := eq_of_beq hc
                  rw [if_pos hc] at h
                  have hc31 := hc
                  clear hc
                  refine WL.pure 28 32 [10, 67] (L' := [(10, .int .i64 t20.2), (67, .bool (t17.2 == 28))]) (by kernel_rfl) (by decide) ?_
                  refine WL.split 67 (b := (t17.2 == 28)) (by kernel_rfl) (fun hc => ?_) (fun hc => ?_)
                  · replace hc := eq_of_beq hc
                    rw [if_pos hc] at h
                    have hc32 := hc
                    clear hc
                    refine WL.rest 32 [0] (L' := [(0, .bool (t20.2 == 2))]) (by kernel_rfl) ?_
                    refine QP.pick [0] ?_
                    exact QP.meet ⟨_, Option.some.inj h, rfl, rfl, rfl⟩
                  · replace hc := ne_of_beq_false hc
                    rw [if_neg hc] at h
                    have hc32 := hc
                    clear hc
                    refine WL.rest 32 [0] (L' := [(0, .bool false)]) (by kernel_rfl) ?_
                    refine QP.pick [0] ?_
                    exact QP.meet ⟨_, Option.some.inj h, rfl, rfl, rfl⟩
                · replace hc := ne_of_beq_false hc
                  rw [if_neg hc] at h
                  have hc31 := hc
                  clear hc
                  refine WL.rest 28 [0] (L' := [(0, .bool false)]) (by kernel_rfl) ?_
                  refine QP.pick [0] ?_
                  exact QP.meet ⟨_, Option.some.inj h, rfl, rfl, rfl⟩
              · replace hc := (Bool.eq_false_iff.1 hc)
                rw [if_neg hc] at h
                have hc30 := hc
                clear hc
                refine WL.rest 24 [0] (L' := [(0, .bool false)]) (by kernel_rfl) ?_
                refine QP.pick [0] ?_
                exact QP.meet ⟨_, Option.some.inj h, rfl, rfl, rfl⟩
            · replace hc := ne_of_beq_false hc
              rw [if_neg hc] at h
              have hc29 := hc
              clear hc
              refine WL.rest 21 [0] (L' := [(0, .bool false)]) (by kernel_rfl) ?_
              refine QP.pick [0] ?_
              exact QP.meet ⟨_, Option.some.inj h, rfl, rfl, rfl⟩
          · replace hc := (Bool.eq_false_iff.1 hc)
            rw [if_neg hc] at h
            have hc28 := hc
            clear hc
            refine WL.rest 17 [0] (L' := [(0, .bool false)]) (by kernel_rfl) ?_
            refine QP.pick [0] ?_
            exact QP.meet ⟨_, Option.some.inj h, rfl, rfl, rfl⟩
        · replace hc := ne_of_beq_false hc
          rw [if_neg hc] at h
          have hc27 := hc
          clear hc
          refine WL.rest 12 [0] (L' := [(0, .bool false)]) (by kernel_rfl) ?_
          refine QP.pick [0] ?_
          exact QP.meet ⟨_, Option.some.inj h, rfl, rfl, rfl⟩
      · replace hc := ne_of_beq_false hc
        rw [if_neg hc] at h
        have hc26 := hc
        clear hc
        refine WL.rest 8 [0] (L' := [(0, .bool false)]) (by kernel_rfl) ?_
        refine QP.pick [0] ?_
        exact QP.meet ⟨_, Option.some.inj h, rfl, rfl, rfl⟩
    · replace hc := ne_of_beq_false hc
      rw [if_neg hc] at h
      have hc25 := hc
      clear hc
      refine WL.rest 3 [0] (L' := [(0, .bool false)]) (by kernel_rfl) ?_
      refine QP.pick [0] ?_
      exact QP.meet ⟨_, Option.some.inj h, rfl, rfl, rfl⟩
  · rintro _ _ _ ⟨s23, rfl, rfl, rfl, rfl⟩
    clear h
    replace h := hk24
    refine WP.ret ?_
    obtain rfl := Option.some.inj h
    refine QP.dropAt 4 ?_
    refine QP.dropAt 3 ?_
    refine QP.dropAt 2 ?_
    refine QP.dropAt 1 ?_
    refine QP.dropAt 0 ?_
    exact QP.returned [0] [.bool s23] _ (by kernel_rfl) (by kernel_rfl) (by kernel_rfl) (fun W hI => ⟨_, _, _, rfl, ⟨rfl, rfl, rfl⟩, hI⟩)

/-! ### grapevine/grapevineref4.Num: function 33 -/
def grapevineref4_Num_l0 (a1 : Int) : Nat → (List Int) → Int → Option (List Int)
  | 0, _, _ => none
  | k + 1, y3, y4 => (if y4 ≥ 0 then (if 0 ≤ (IntKind.i64.wrap (8 * y4)) then (if y3.length + ([IntKind.u8.wrap (shrK .i64 a1 (IntKind.i64.wrap (8 * y4)))] : List Int).length ≤ 1073741824 then grapevineref4_Num_l0 a1 k (y3 ++ ([IntKind.u8.wrap (shrK .i64 a1 (IntKind.i64.wrap (8 * y4)))] : List Int)) (IntKind.i64.wrap (y4 - 1)) else none) else none) else some y3)
def grapevineref4_Num (k : Nat) (l0 : List Int) (a1 : Int) (a2 : Int) : Option (List Int) := ((grapevineref4_Num_l0 a1 k l0 (IntKind.i64.wrap (a2 - 1))).bind fun s1 => some s1)
set_option maxHeartbeats 4000000 in
theorem grapevineref4_Num_calls {B : World} {G : GMap} {Γ : List Chunk} {W : World} (k : Nat) (l0 : List Int) (a1 : Int) (a2 : Int) (Al0 : Option Addr) (cl0 : Nat) (Cl0 : Chunk) (Hl0 : Ow (kInt .u8) G Al0 cl0 l0 Cl0) (r : List Int) (h : grapevineref4_Num k l0 a1 a2 = some r) (hI : Inv B G (Cl0 :: Γ) W) :
    Calls Try.prog 33 [.slice Al0 l0.length cl0, .int .i64 a1, .int .i64 a2].toArray W (Ret B (fun v G' Γ' => ∃ (AR : Option Addr), ∃ (cR : Nat), ∃ (CR : Chunk), v = .slice AR r.length cR ∧ Ow (kInt .u8) G' AR cR r CR ∧ G = G' ∧ CR :: Γ = Γ')) := by
  refine calls_WP (Γ := Cl0 :: Γ) (G := G) (B := B) Try.func33 rfl (by kernel_rfl) ?_ hI
  clear hI
  unfold grapevineref4_Num at h
  refine WP.seqP [0, 1, 2] (L' := [(0, .slice Al0 l0.length cl0), (1, .int .i64 a1), (2, .int .i64 a2)]) (by kernel_rfl) ?_
  refine WP.seq ?_
  refine WP.seqP [0, 1, 7] (L' := [(0, .slice Al0 l0.length cl0), (1, .int .i64 a1), (7, .int .i64 (IntKind.i64.wrap (a2 - 1)))]) (by kernel_rfl) ?_
  rw [Option.bind_eq_some_iff] at h
  obtain ⟨os1, h, hk2⟩ := h
  refine WP.cutQ (fun L' G' Γ' => ∃ s1 : (List Int), s1 = os1 ∧ ∃ (As1 : Option Addr), ∃ (cs1 : Nat), ∃ (Cs1 : Chunk), L' = [(0, .slice As1 s1.length cs1)] ∧ G = G' ∧ Cs1 :: Γ = Γ' ∧ Ow (kInt .u8) G As1 cs1 s1 Cs1) ?_ ?_
  · clear hk2
    refine WP.block ?_
    refine WP.pick [0, 1, 7] ?_
    refine WP.loopF (fun k5 L' G' Γ' => ∃ (y3 : List Int), ∃ (y4 : Int), grapevineref4_Num_l0 a1 k5 y3 y4 = some os1 ∧ ∃ (Ay3 : Option Addr), ∃ (cy3 : Nat), ∃ (Cy3 : Chunk), L' = [(0, .slice Ay3 y3.length cy3), (1, .int .i64 a1), (7, .int .i64 y4)] ∧ G = G' ∧ Cy3 :: Γ = Γ' ∧ Ow (kInt .u8) G Ay3 cy3 y3 Cy3) ?_ k ⟨l0, (IntKind.i64.wrap (a2 - 1)), h, Al0, cl0, Cl0, rfl, rfl, rfl, Hl0⟩
    clear h
    rintro k6 _ _ _ ⟨y3, y4, h, Ay3, cy3, Cy3, rfl, rfl, rfl, Hy3⟩
    cases k6 with
    | zero => exact absurd h (by simp [grapevineref4_Num_l0])
    | succ k6 =>
      simp only [grapevineref4_Num_l0] at h
      refine WP.seq ?_
      refine WP.seqP [0, 1, 7, 11] (L' := [(0, .slice Ay3 y3.length cy3), (1, .int .i64 a1), (7, .int .i64 y4), (11, .bool (decide (y4 ≥ 0)))]) (by kernel_rfl) ?_
      refine WP.cond (b := decide (y4 ≥ 0)) (by kernel_rfl) (fun hc => ?_) (fun hc => ?_)
      · replace hc := of_decide_eq_true hc
        rw [if_pos hc] at h
        have hc7 := hc
        clear hc
        refine WP.skip ?_
        refine QP.next ?_
        refine WP.pick [0, 1, 7] ?_
        refine WP.seq ?_
        refine WP.block ?_
        refine WP.region ?_
        refine WL.pure 0 4 [0, 1, 7, 14, 15, 17] (L' := [(0, .slice Ay3 y3.length cy3), (1, .int .i64 a1), (7, .int .i64 y4), (14, .slice Ay3 y3.length cy3), (15, .int .i64 a1), (17, .int .i64 (IntKind.i64.wrap (8 * y4)))]) (by kernel_rfl) (by decide) ?_
        by_cases hb8 : 0 ≤ (IntKind.i64.wrap (8 * y4))
        case neg => rw [if_neg hb8] at h; cases h
        rw [if_pos hb8] at h
        refine WL.tell (op := .binOp .shr 3 (.tmp 15) (.tmp 17) 3) (ty := 3) (d := some 18) (g := none) (by kernel_rfl) (by kernel_rfl) (by kernel_rfl) (Tells.shr (k := .i64) (k' := .i64) (a := a1) (b := (IntKind.i64.wrap (8 * y4))) (by kernel_rfl) (by kernel_rfl) hb8) ?_
        refine WL.pure 5 6 [0, 1, 7, 14, 19] (L' := [(0, .slice Ay3 y3.length cy3), (1, .int .i64 a1), (7, .int .i64 y4), (14, .slice Ay3 y3.length cy3), (19, .int .u8 (IntKind.u8.wrap (shrK .i64 a1 (IntKind.i64.wrap (8 * y4)))))]) (by kernel_rfl) (by decide) ?_
        refine WL.op (op := .buildSlice 32 1 #[(0, (.tmp 19))]) (ty := 32) (d := some 20) (g := none) (by kernel_rfl) (by kernel_rfl) (by kernel_rfl) (Does.new (o := .cells #[.int .u8 (IntKind.u8.wrap (shrK .i64 a1 (IntKind.i64.wrap (8 * y4))))] 5 (0, 0)) (v := fun r => .slice (some ⟨r, 0, none⟩) 1 1) (fun r => by kernel_rfl)) ?_
        rintro _ _ _ ⟨b9, rfl, rfl, rfl⟩
        have Ho11 : Ow (kInt .u8) G (some ⟨b9, 0, none⟩) 1 ([IntKind.u8.wrap (shrK .i64 a1 (IntKind.i64.wrap (8 * y4)))] : List Int) [(b9, .cells #[.int .u8 (IntKind.u8.wrap (shrK .i64 a1 (IntKind.i64.wrap (8 * y4))))] 5 (0, 0))] := Ow.lit (kd := (kInt .u8)) (G := G) (b := b9) (T := 5) (xs := ([IntKind.u8.wrap (shrK .i64 a1 (IntKind.i64.wrap (8 * y4)))] : List Int)) (cs := [.int .u8 (IntKind.u8.wrap (shrK .i64 a1 (IntKind.i64.wrap (8 * y4))))]) (.cons (x := (IntKind.u8.wrap (shrK .i64 a1 (IntKind.i64.wrap (8 * y4))))) (cs := [.int .u8 (IntKind.u8.wrap (shrK .i64 a1 (IntKind.i64.wrap (8 * y4))))]) (by exact rfl) .nil)
        by_cases hb12 : y3.length + ([IntKind.u8.wrap (shrK .i64 a1 (IntKind.i64.wrap (8 * y4)))] : List Int).length ≤ 1073741824
        case neg => rw [if_neg hb12] at h; cases h
        rw [if_pos hb12] at h
        refine WL.op (op := .call { callee := (.builtin .append), args := #[(.tmp 14), (.tmp 20)], argTypes := #[32, 32] }) (ty := 32) (d := some 21) (g := none) (by kernel_rfl) (by kernel_rfl) (by kernel_rfl) (Ow.append (ys := ([IntKind.u8.wrap (shrK .i64 a1 (IntKind.i64.wrap (8 * y4)))] : List Int)) (v := .slice (some ⟨b9, 0, none⟩) ([IntKind.u8.wrap (shrK .i64 a1 (IntKind.i64.wrap (8 * y4)))] : List Int).length 1) Hy3 (i := 1) rfl (by kernel_rfl) (by kernel_rfl) (Ho11.src (i := 0) rfl) sl32 ze5 nt32 (by decide) hb12) ?_
        rintro _ _ _ ⟨rfl, AN13, cN13, CN13, rfl, HN13, rfl⟩
        refine WL.rest 8 [0, 1, 7] (L' := [(0, .slice AN13 (y3 ++ ([IntKind.u8.wrap (shrK .i64 a1 (IntKind.i64.wrap (8 * y4)))] : List Int)).length cN13), (1, .int .i64 a1), (7, .int .i64 y4)]) (by kernel_rfl) ?_
        refine QP.blockN ?_
        refine QP.next ?_
        refine WP.pick [0, 1, 7] ?_
        refine WP.regionP [0, 1, 7] (L' := [(0, .slice AN13 (y3 ++ ([IntKind.u8.wrap (shrK .i64 a1 (IntKind.i64.wrap (8 * y4)))] : List Int)).length cN13), (1, .int .i64 a1), (7, .int .i64 (IntKind.i64.wrap (y4 - 1)))]) (by kernel_rfl) ?_
        refine QP.dropAt 0 ?_
        refine QP.pick [0, 1, 7] ?_
        exact QP.meet ⟨k6, Nat.lt_succ_self _, (y3 ++ ([IntKind.u8.wrap (shrK .i64 a1 (IntKind.i64.wrap (8 * y4)))] : List Int)), (IntKind.i64.wrap (y4 - 1)), h, AN13, cN13, CN13, rfl, rfl, rfl, HN13⟩
      · replace hc := of_decide_eq_false hc
        rw [if_neg hc] at h
        have hc7 := hc
        clear hc
        refine WP.exit ?_
        refine QP.thenE ?_
        refine QP.thenE ?_
        refine QP.blockE ?_
        refine QP.pick [0] ?_
        exact QP.meet ⟨_, Option.some.inj h, Ay3, cy3, Cy3, rfl, rfl, rfl, Hy3⟩
  · rintro _ _ _ ⟨s1, rfl, As1, cs1, Cs1, rfl, rfl, rfl, Hs1⟩
    clear h
    replace h := hk2
    refine QP.next ?_
    refine WP.pick [0] ?_
    refine WP.seqP [6] (L' := [(6, .slice As1 s1.length cs1)]) (by kernel_rfl) ?_
    refine WP.ret ?_
    obtain rfl := Option.some.inj h
    exact QP.returned [6] [.slice As1 s1.length cs1] _ (by kernel_rfl) (by kernel_rfl) (by kernel_rfl) (fun W hI => ⟨_, _, _, rfl, ⟨As1, cs1, Cs1, rfl, Hs1, rfl, rfl⟩, hI⟩)

/-! ### grapevine/grapevineref6.seal: function 34 -/
def grapevineref6_seal_l0 (t1 : Int) : Nat → (List Int) → Int → Option (List Int)
  | 0, _, _ => none
  | k + 1, y5, y6 => (if y6 ≥ 0 then (if 0 ≤ (IntKind.i64.wrap (8 * y6)) then (if y5.length + ([IntKind.u8.wrap (shrK .u64 t1 (IntKind.i64.wrap (8 * y6)))] : List Int).length ≤ 1073741824 then grapevineref6_seal_l0 t1 k (y5 ++ ([IntKind.u8.wrap (shrK .u64 t1 (IntKind.i64.wrap (8 * y6)))] : List Int)) (IntKind.i64.wrap (y6 - 1)) else none) else none) else some y5)
def grapevineref6_seal (k : Nat) (l0 : List Int) : Option (List Int) := ((grapevineref5_One k l0).bind fun t1 => ((grapevineref6_seal_l0 t1 k ([] : List Int) 7).bind fun s3 => some s3))
set_option maxHeartbeats 4000000 in
theorem grapevineref6_seal_calls {B : World} {G : GMap} {Γ : List Chunk} {W : World} (k : Nat) (l0 : List Int) (Al0 : Option Addr) (cl0 : Nat) (Hl0 : Rd (kInt .u8) G Al0 cl0 l0) (r : List Int) (h : grapevineref6_seal k l0 = some r) (hI : Inv B G (Γ) W) :
    Calls Try.prog 34 [.slice Al0 l0.length cl0].toArray W (Ret B (fun v G' Γ' => ∃ (AR : Option Addr), ∃ (cR : Nat), ∃ (CR : Chunk), v = .slice AR r.length cR ∧ Ow (kInt .u8) G' AR cR r CR ∧ G = G' ∧ CR :: Γ = Γ')) := by
  refine calls_WP (Γ := Γ) (G := G) (B := B) Try.func34 rfl (by kernel_rfl) ?_ hI
  clear hI
  unfold grapevineref6_seal at h
  refine WP.seqP [0] (L' := [(0, .slice Al0 l0.length cl0)]) (by kernel_rfl) ?_
  refine WP.seqR ?_
  refine WL.pure 0 1 [6] (L' := [(6, .slice Al0 l0.length cl0)]) (by kernel_rfl) (by decide) ?_
  rw [Option.bind_eq_some_iff] at h
  obtain ⟨t1, ht2, h⟩ := h
  refine WL.op (op := .call { callee := (.value (.func 31)), args := #[(.tmp 6)], argTypes := #[32] }) (ty := 26) (d := some 7) (g := none) (by kernel_rfl) (by kernel_rfl) (by kernel_rfl) (Does.call (f := 31) (args := [.slice Al0 l0.length cl0]) (by kernel_rfl) (fun W hI => (grapevineref5_One_calls k l0 Al0 cl0 Hl0 t1 ht2 hI))) ?_
  rintro _ _ _ ⟨rfl, rfl, rfl⟩
  refine WL.restQ 2 [3] (L' := [(3, .int .u64 t1)]) (by kernel_rfl) ?_
  refine WP.seqP [3, 4] (L' := [(3, .int .u64 t1), (4, .slice none 0 0)]) (by kernel_rfl) ?_
  refine WP.seq ?_
  refine WP.seqP [3, 4, 5] (L' := [(3, .int .u64 t1), (4, .slice none 0 0), (5, .int .i64 7)]) (by kernel_rfl) ?_
  rw [Option.bind_eq_some_iff] at h
  obtain ⟨os3, h, hk4⟩ := h
  refine WP.cutQ (fun L' G' Γ' => ∃ s3 : (List Int), s3 = os3 ∧ ∃ (As3 : Option Addr), ∃ (cs3 : Nat), ∃ (Cs3 : Chunk), L' = [(4, .slice As3 s3.length cs3)] ∧ G = G' ∧ Cs3 :: Γ = Γ' ∧ Ow (kInt .u8) G As3 cs3 s3 Cs3) ?_ ?_
  · clear hk4
    refine WP.block ?_
    refine WP.addNil ?_
    refine WP.pick [3, 4, 5] ?_
    refine WP.loopF (fun k7 L' G' Γ' => ∃ (y5 : List Int), ∃ (y6 : Int), grapevineref6_seal_l0 t1 k7 y5 y6 = some os3 ∧ ∃ (Ay5 : Option Addr), ∃ (cy5 : Nat), ∃ (Cy5 : Chunk), L' = [(3, .int .u64 t1), (4, .slice Ay5 y5.length cy5), (5, .int .i64 y6)] ∧ G = G' ∧ Cy5 :: Γ = Γ' ∧ Ow (kInt .u8) G Ay5 cy5 y5 Cy5) ?_ k ⟨([] : List Int), 7, h, none, 0, [], rfl, rfl, rfl, (Ow.nil _ _)⟩
    clear h
    rintro k8 _ _ _ ⟨y5, y6, h, Ay5, cy5, Cy5, rfl, rfl, rfl, Hy5⟩
    cases k8 with
    | zero => exact absurd h (by simp [grapevineref6_seal_l0])
    | succ k8 =>
      simp only [grapevineref6_seal_l0] at h
      refine WP.seq ?_
      refine WP.seqP [3, 4, 5, 9] (L' := [(3, .int .u64 t1), (4, .slice Ay5 y5.length cy5), (5, .int .i64 y6), (9, .bool (decide (y6 ≥ 0)))]) (by kernel_rfl) ?_
      refine WP.cond (b := decide (y6 ≥ 0)) (by kernel_rfl) (fun hc => ?_) (fun hc => ?_)
      · replace hc := of_decide_eq_true hc
        rw [if_pos hc] at h
        have hc9 := hc
        clear hc
        refine WP.skip ?_
        refine QP.next ?_
        refine WP.pick [3, 4, 5] ?_
        refine WP.seq ?_
        refine WP.block ?_
        refine WP.region ?_
        refine WL.pure 0 4 [3, 4, 5, 12, 13, 15] (L' := [(3, .int .u64 t1), (4, .slice Ay5 y5.length cy5), (5, .int .i64 y6), (12, .slice Ay5 y5.length cy5), (13, .int .u64 t1), (15, .int .i64 (IntKind.i64.wrap (8 * y6)))]) (by kernel_rfl) (by decide) ?_
        by_cases hb10 : 0 ≤ (IntKind.i64.wrap (8 * y6))
        case neg => rw [if_neg hb10] at h; cases h
        rw [if_pos hb10] at h
        refine WL.tell (op := .binOp .shr 26 (.tmp 13) (.tmp 15) 3) (ty := 26) (d := some 16) (g := none) (by kernel_rfl) (by kernel_rfl) (by kernel_rfl) (Tells.shr (k := .u64) (k' := .i64) (a := t1) (b := (IntKind.i64.wrap (8 * y6))) (by kernel_rfl) (by kernel_rfl) hb10) ?_
        refine WL.pure 5 6 [3, 4, 5, 12, 17] (L' := [(3, .int .u64 t1), (4, .slice Ay5 y5.length cy5), (5, .int .i64 y6), (12, .slice Ay5 y5.length cy5), (17, .int .u8 (IntKind.u8.wrap (shrK .u64 t1 (IntKind.i64.wrap (8 * y6)))))]) (by kernel_rfl) (by decide) ?_
        refine WL.op (op := .buildSlice 32 1 #[(0, (.tmp 17))]) (ty := 32) (d := some 18) (g := none) (by kernel_rfl) (by kernel_rfl) (by kernel_rfl) (Does.new (o := .cells #[.int .u8 (IntKind.u8.wrap (shrK .u64 t1 (IntKind.i64.wrap (8 * y6))))] 5 (0, 0)) (v := fun r => .slice (some ⟨r, 0, none⟩) 1 1) (fun r => by kernel_rfl)) ?_
        rintro _ _ _ ⟨b11, rfl, rfl, rfl⟩
        have Ho13 : Ow (kInt .u8) G (some ⟨b11, 0, none⟩) 1 ([IntKind.u8.wrap (shrK .u64 t1 (IntKind.i64.wrap (8 * y6)))] : List Int) [(b11, .cells #[.int .u8 (IntKind.u8.wrap (shrK .u64 t1 (IntKind.i64.wrap (8 * y6))))] 5 (0, 0))] := Ow.lit (kd := (kInt .u8)) (G := G) (b := b11) (T := 5) (xs := ([IntKind.u8.wrap (shrK .u64 t1 (IntKind.i64.wrap (8 * y6)))] : List Int)) (cs := [.int .u8 (IntKind.u8.wrap (shrK .u64 t1 (IntKind.i64.wrap (8 * y6))))]) (.cons (x := (IntKind.u8.wrap (shrK .u64 t1 (IntKind.i64.wrap (8 * y6))))) (cs := [.int .u8 (IntKind.u8.wrap (shrK .u64 t1 (IntKind.i64.wrap (8 * y6))))]) (by exact rfl) .nil)
        by_cases hb14 : y5.length + ([IntKind.u8.wrap (shrK .u64 t1 (IntKind.i64.wrap (8 * y6)))] : List Int).length ≤ 1073741824
        case neg => rw [if_neg hb14] at h; cases h
        rw [if_pos hb14] at h
        refine WL.op (op := .call { callee := (.builtin .append), args := #[(.tmp 12), (.tmp 18)], argTypes := #[32, 32] }) (ty := 32) (d := some 19) (g := none) (by kernel_rfl) (by kernel_rfl) (by kernel_rfl) (Ow.append (ys := ([IntKind.u8.wrap (shrK .u64 t1 (IntKind.i64.wrap (8 * y6)))] : List Int)) (v := .slice (some ⟨b11, 0, none⟩) ([IntKind.u8.wrap (shrK .u64 t1 (IntKind.i64.wrap (8 * y6)))] : List Int).length 1) Hy5 (i := 1) rfl (by kernel_rfl) (by kernel_rfl) (Ho13.src (i := 0) rfl) sl32 ze5 nt32 (by decide) hb14) ?_
        rintro _ _ _ ⟨rfl, AN15, cN15, CN15, rfl, HN15, rfl⟩
        refine WL.rest 8 [3, 4, 5] (L' := [(3, .int .u64 t1), (4, .slice AN15 (y5 ++ ([IntKind.u8.wrap (shrK .u64 t1 (IntKind.i64.wrap (8 * y6)))] : List Int)).length cN15), (5, .int .i64 y6)]) (by kernel_rfl) ?_
        refine QP.blockN ?_
        refine QP.next ?_
        refine WP.pick [3, 4, 5] ?_
        refine WP.regionP [3, 4, 5] (L' := [(3, .int .u64 t1), (4, .slice AN15 (y5 ++ ([IntKind.u8.wrap (shrK .u64 t1 (IntKind.i64.wrap (8 * y6)))] : List Int)).length cN15), (5, .int .i64 (IntKind.i64.wrap (y6 - 1)))]) (by kernel_rfl) ?_
        refine QP.dropAt 0 ?_
        refine QP.pick [3, 4, 5] ?_
        exact QP.meet ⟨k8, Nat.lt_succ_self _, (y5 ++ ([IntKind.u8.wrap (shrK .u64 t1 (IntKind.i64.wrap (8 * y6)))] : List Int)), (IntKind.i64.wrap (y6 - 1)), h, AN15, cN15, CN15, rfl, rfl, rfl, HN15⟩
      · replace hc := of_decide_eq_false hc
        rw [if_neg hc] at h
        have hc9 := hc
        clear hc
        refine WP.exit ?_
        refine QP.thenE ?_
        refine QP.thenE ?_
        refine QP.blockE ?_
        refine QP.pick [4] ?_
        exact QP.meet ⟨_, Option.some.inj h, Ay5, cy5, Cy5, rfl, rfl, rfl, Hy5⟩
  · rintro _ _ _ ⟨s3, rfl, As3, cs3, Cs3, rfl, rfl, rfl, Hs3⟩
    clear h
    replace h := hk4
    refine QP.next ?_
    refine WP.pick [4] ?_
    refine WP.seqP [2] (L' := [(2, .slice As3 s3.length cs3)]) (by kernel_rfl) ?_
    refine WP.ret ?_
    obtain rfl := Option.some.inj h
    exact QP.returned [2] [.slice As3 s3.length cs3] _ (by kernel_rfl) (by kernel_rfl) (by kernel_rfl) (fun W hI => ⟨_, _, _, rfl, ⟨As3, cs3, Cs3, rfl, Hs3, rfl, rfl⟩, hI⟩)

/-! ### grapevine/grapevineref6.Lay: function 20 -/
def grapevineref6_Lay (k : Nat) (a0 : Int) (l1 : List Int) : Option ((List Int) × Int) := ((if a0 < 1 then some true else (if a0 > 255 then some true else some (decide ((l1.length : Int) > 65535)))).bind fun s1 => (if s1 = true then some (([] : List Int), 2) else ((grapevineref4_Num k ([71, IntKind.u8.wrap a0] : List Int) (l1.length : Int) 2).bind fun t9 => (if t9.length + l1.length ≤ 1073741824 then ((grapevineref6_seal k (t9 ++ l1)).bind fun t14 => (if (t9 ++ l1).length + t14.length ≤ 1073741824 then some (((t9 ++ l1) ++ t14), 0) else none)) else none))))
set_option maxHeartbeats 4000000 in
theorem grapevineref6_Lay_calls {B : World} {G : GMap} {Γ : List Chunk} {W : World} (k : Nat) (a0 : Int) (l1 : List Int) (Al1 : Option Addr) (cl1 : Nat) (Hl1 : Rd (kInt .u8) G Al1 cl1 l1) (r : (List Int) × Int) (h : grapevineref6_Lay k a0 l1 = some r) (hI : Inv B G (Γ) W) :
    Calls Try.prog 20 [.int .i64 a0, .slice Al1 l1.length cl1].toArray W (Ret B (fun v G' Γ' => ∃ (AR0 : Option Addr), ∃ (cR0 : Nat), ∃ (CR0 : Chunk), v = .tuple #[.slice AR0 r.1.length cR0, .int .i64 r.2] ∧ Ow (kInt .u8) G' AR0 cR0 r.1 CR0 ∧ G = G' ∧ CR0 :: Γ = Γ')) := by
  refine calls_WP (Γ := Γ) (G := G) (B := B) Try.func20 rfl (by kernel_rfl) ?_ hI
  clear hI
  unfold grapevineref6_Lay at h
  refine WP.seqP [0, 1] (L' := [(0, .int .i64 a0), (1, .slice Al1 l1.length cl1)]) (by kernel_rfl) ?_
  refine WP.seq ?_
  rw [Option.bind_eq_some_iff] at h
  obtain ⟨os1, h, hk2⟩ := h
  refine WP.cut (fun L' G' Γ' => ∃ s1 : Bool, s1 = os1 ∧ L' = [(0, .int .i64 a0), (1, .slice Al1 l1.length cl1), (17, .bool s1)] ∧ G = G' ∧ Γ = Γ') ?_ ?_
  · clear hk2
    refine WP.region ?_
    refine WL.pure 0 3 [0, 1, 9] (L' := [(0, .int .i64 a0), (1, .slice Al1 l1.length cl1), (9, .bool (decide (a0 < 1)))]) (by kernel_rfl) (by decide) ?_
    refine WL.split 9 (b := decide (a0 < 1)) (by kernel_rfl) (fun hc => ?_) (fun hc => ?_)
    · replace hc := of_decide_eq_true hc
      rw [if_pos hc] at h
      have hc3 := hc
      clear hc
      refine WL.rest 3 [0, 1, 17] (L' := [(0, .int .i64 a0), (1, .slice Al1 l1.length cl1), (17, .bool true)]) (by kernel_rfl) ?_
      refine QP.pick [0, 1, 17] ?_
      exact QP.meet ⟨_, Option.some.inj h, rfl, rfl, rfl⟩
    · replace hc := of_decide_eq_false hc
      rw [if_neg hc] at h
      have hc3 := hc
      clear hc
      refine WL.pure 3 7 [0, 1, 13] (L' := [(0, .int .i64 a0), (1, .slice Al1 l1.length cl1), (13, .bool (decide (a0 > 255)))]) (by kernel_rfl) (by decide) ?_
      refine WL.split 13 (b := decide (a0 > 255)) (by kernel_rfl) (fun hc => ?_) (fun hc => ?_)
      · replace hc := of_decide_eq_true hc
        rw [if_pos hc] at h
        have hc4 := hc
        clear hc
        refine WL.rest 7 [0, 1, 17] (L' := [(0, .int .i64 a0), (1, .slice Al1 l1.length cl1), (17, .bool true)]) (by kernel_rfl) ?_
        refine QP.pick [0, 1, 17] ?_
        exact QP.meet ⟨_, Option.some.inj h, rfl, rfl, rfl⟩
      · replace hc := of_decide_eq_false hc
        rw [if_neg hc] at h
        have hc4 := hc
        clear hc
        refine WL.rest 7 [0, 1, 17] (L' := [(0, .int .i64 a0), (1, .slice Al1 l1.length cl1), (17, .bool (decide ((l1.length : Int) > 65535)))]) (by kernel_rfl) ?_
        refine QP.pick [0, 1, 17] ?_
        exact QP.meet ⟨_, Option.some.inj h, rfl, rfl, rfl⟩
  · rintro _ _ _ ⟨s1, rfl, rfl, rfl, rfl⟩
    clear h
    replace h := hk2
    refine WP.cond (b := s1) (by kernel_rfl) (fun hc => ?_) (fun hc => ?_)
    · replace hc := hc
      rw [if_pos hc] at h
      have hc5 := hc
      clear hc
      refine WP.seqP [4, 5] (L' := [(4, .slice none 0 0), (5, .int .i64 2)]) (by kernel_rfl) ?_
      refine WP.ret ?_
      refine QP.thenR ?_
      obtain rfl := Option.some.inj h
      refine QP.addNil ?_
      exact QP.returned [4, 5] [.slice none 0 0, .int .i64 2] _ (by kernel_rfl) (by kernel_rfl) (by kernel_rfl) (fun W hI => ⟨_, _, _, rfl, ⟨none, 0, [], rfl, Ow.nil _ _, rfl, rfl⟩, hI⟩)
    · replace hc := (Bool.eq_false_iff.1 hc)
      rw [if_neg hc] at h
      have hc5 := hc
      clear hc
      refine WP.skip ?_
      refine QP.next ?_
      refine WP.pick [0, 1] ?_
      refine WP.seqR ?_
      refine WL.pure 0 2 [1, 19] (L' := [(1, .slice Al1 l1.length cl1), (19, .int .u8 (IntKind.u8.wrap a0))]) (by kernel_rfl) (by decide) ?_
      refine WL.op (op := .buildSlice 32 2 #[(0, (.const (.int .u8 71))), (1, (.tmp 19))]) (ty := 32) (d := some 20) (g := none) (by kernel_rfl) (by kernel_rfl) (by kernel_rfl) (Does.new (o := .cells #[.int .u8 71, .int .u8 (IntKind.u8.wrap a0)] 5 (0, 0)) (v := fun r => .slice (some ⟨r, 0, none⟩) 2 2) (fun r => by kernel_rfl)) ?_
      rintro _ _ _ ⟨b6, rfl, rfl, rfl⟩
      have Ho8 : Ow (kInt .u8) G (some ⟨b6, 0, none⟩) 2 ([71, IntKind.u8.wrap a0] : List Int) [(b6, .cells #[.int .u8 71, .int .u8 (IntKind.u8.wrap a0)] 5 (0, 0))] := Ow.lit (kd := (kInt .u8)) (G := G) (b := b6) (T := 5) (xs := ([71, IntKind.u8.wrap a0] : List Int)) (cs := [.int .u8 71, .int .u8 (IntKind.u8.wrap a0)]) (.cons (x := 71) (cs := [.int .u8 71]) (by exact rfl) (.cons (x := (IntKind.u8.wrap a0)) (cs := [.int .u8 (IntKind.u8.wrap a0)]) (by exact rfl) .nil))
      refine WL.pure 3 5 [1, 20, 22] (L' := [(1, .slice Al1 l1.length cl1), (20, .slice (some ⟨b6, 0, none⟩) ([71, IntKind.u8.wrap a0] : List Int).length 2), (22, .int .i64 (l1.length : Int))]) (by kernel_rfl) (by decide) ?_
      rw [Option.bind_eq_some_iff] at h
      obtain ⟨t9, ht10, h⟩ := h
      refine WL.op (op := .call { callee := (.value (.func 33)), args := #[(.tmp 20), (.tmp 22), (.const (.int .i64 2))], argTypes := #[32, 3, 3] }) (ty := 32) (d := some 23) (g := none) (by kernel_rfl) (by kernel_rfl) (by kernel_rfl) (Does.callN (i := 0) rfl (f := 33) (args := [.slice (some ⟨b6, 0, none⟩) ([71, IntKind.u8.wrap a0] : List Int).length 2, .int .i64 (l1.length : Int), .int .i64 2]) (by kernel_rfl) (fun W hI => (grapevineref4_Num_calls k ([71, IntKind.u8.wrap a0] : List Int) (l1.length : Int) 2 (some ⟨b6, 0, none⟩) 2 [(b6, .cells #[.int .u8 71, .int .u8 (IntKind.u8.wrap a0)] 5 (0, 0))] Ho8 t9 ht10 hI)) (by rintro _ _ _ ⟨AR11, cR11, CR11, _, _, rfl, rfl⟩; exact ⟨[CR11], rfl⟩)) ?_
      rintro _ _ _ ⟨_, ⟨AR11, cR11, CR11, rfl, HR11, rfl, hE⟩, rfl⟩; obtain rfl := app_inj (a := [CR11]) hE; clear hE
      refine WL.pure 6 7 [23, 24] (L' := [(23, .slice AR11 t9.length cR11), (24, .slice Al1 l1.length cl1)]) (by kernel_rfl) (by decide) ?_
      by_cases hb12 : t9.length + l1.length ≤ 1073741824
      case neg => rw [if_neg hb12] at h; cases h
      rw [if_pos hb12] at h
      refine WL.op (op := .call { callee := (.builtin .append), args := #[(.tmp 23), (.tmp 24)], argTypes := #[32, 32] }) (ty := 32) (d := some 25) (g := none) (by kernel_rfl) (by kernel_rfl) (by kernel_rfl) (Ow.append (ys := l1) (v := .slice Al1 l1.length cl1) HR11 (i := 0) rfl (by kernel_rfl) (by kernel_rfl) Hl1.src sl32 ze5 nt32 (by decide) hb12) ?_
      rintro _ _ _ ⟨rfl, AN13, cN13, CN13, rfl, HN13, rfl⟩
      refine WL.restQ 8 [6] (L' := [(6, .slice AN13 (t9 ++ l1).length cN13)]) (by kernel_rfl) ?_
      refine WP.seqR ?_
      refine WL.pure 0 2 [26, 27] (L' := [(26, .slice AN13 (t9 ++ l1).length cN13), (27, .slice AN13 (t9 ++ l1).length cN13)]) (by kernel_rfl) (by decide) ?_
      rw [Option.bind_eq_some_iff] at h
      obtain ⟨t14, ht15, h⟩ := h
      refine WL.op (op := .call { callee := (.value (.func 34)), args := #[(.tmp 27)], argTypes := #[32] }) (ty := 32) (d := some 28) (g := none) (by kernel_rfl) (by kernel_rfl) (by kernel_rfl) (Does.call (Φ := fun v' G' Γ' => ∃ (AR16 : Option Addr), ∃ (cR16 : Nat), ∃ (CR16 : Chunk), v' = .slice AR16 t14.length cR16 ∧ Ow (kInt .u8) G AR16 cR16 t14 CR16 ∧ G = G' ∧ CR16 :: CN13 :: Γ = Γ') (f := 34) (args := [.slice AN13 (t9 ++ l1).length cN13]) (by kernel_rfl) (fun W hI => (Calls.lendR (Φ := fun v' N => ∃ (AR16 : Option Addr), ∃ (cR16 : Nat), ∃ (CR16 : Chunk), v' = .slice AR16 t14.length cR16 ∧ Ow (kInt .u8) G AR16 cR16 t14 CR16 ∧ N = [CR16]) (i := 0) rfl (Ow.nodup HN13) hI (fun _ e l17 hI => by subst e; exact ((grapevineref6_seal_calls k (t9 ++ l1) AN13 cN13 (HN13.rd l17) t14 ht15 hI).mono fun _ _ hr => by obtain ⟨_, _, _, rfl, ⟨AR16, cR16, CR16, rfl, HR16, rfl, rfl⟩, hI⟩ := hr; exact ⟨_, _, _, rfl, ⟨[CR16], ⟨AR16, cR16, CR16, rfl, (HR16.flat (kInt_flat _)), rfl⟩, rfl, rfl⟩, hI⟩))).mono fun _ _ hr => by obtain ⟨_, _, _, rfl, ⟨_, ⟨AR16, cR16, CR16, rfl, HR16, rfl⟩, rfl, rfl⟩, hI⟩ := hr; exact ⟨_, _, _, rfl, ⟨AR16, cR16, CR16, rfl, HR16, rfl, rfl⟩, hI⟩)) ?_
      rintro _ _ _ ⟨AR16, cR16, CR16, rfl, HR16, rfl, rfl⟩
      by_cases hb18 : (t9 ++ l1).length + t14.length ≤ 1073741824
      case neg => rw [if_neg hb18] at h; cases h
      rw [if_pos hb18] at h
      refine WL.op (op := .call { callee := (.builtin .append), args := #[(.tmp 26), (.tmp 28)], argTypes := #[32, 32] }) (ty := 32) (d := some 29) (g := none) (by kernel_rfl) (by kernel_rfl) (by kernel_rfl) (Ow.append (ys := t14) (v := .slice AR16 t14.length cR16) HN13 (i := 1) rfl (by kernel_rfl) (by kernel_rfl) (HR16.src (i := 0) rfl) sl32 ze5 nt32 (by decide) hb18) ?_
      rintro _ _ _ ⟨rfl, AN19, cN19, CN19, rfl, HN19, rfl⟩
      refine WL.restQ 4 [4, 5] (L' := [(4, .slice AN19 ((t9 ++ l1) ++ t14).length cN19), (5, .int .i64 0)]) (by kernel_rfl) ?_
      refine WP.ret ?_
      obtain rfl := Option.some.inj h
      refine QP.dropAt 0 ?_
      exact QP.returned [4, 5] [.slice AN19 ((t9 ++ l1) ++ t14).length cN19, .int .i64 0] _ (by kernel_rfl) (by kernel_rfl) (by kernel_rfl) (fun W hI => ⟨_, _, _, rfl, ⟨AN19, cN19, CN19, rfl, HN19, rfl, rfl⟩, hI⟩)

/-! ### grapevine/grapevinelaw0.SameBytes: function 21 -/
def grapevinelaw0_SameBytes_l0 (l0 : List Int) (l1 : List Int) : Nat → Int → Option (Sum Bool Unit)
  | 0, _ => none
  | k + 1, y4 => (if y4 < (l0.length : Int) then (if 0 ≤ y4 ∧ y4 < (l0.length : Int) then (if 0 ≤ y4 ∧ y4 < (l1.length : Int) then (if ¬ (l0.getD y4.toNat 0) = (l1.getD y4.toNat 0) then some (Sum.inl false) else grapevinelaw0_SameBytes_l0 l0 l1 k (IntKind.i64.wrap (y4 + 1))) else none) else none) else some (Sum.inr ()))
def grapevinelaw0_SameBytes (k : Nat) (l0 : List Int) (l1 : List Int) : Option Bool := (if ¬ (l0.length : Int) = (l1.length : Int) then some false else ((grapevinelaw0_SameBytes_l0 l0 l1 k 0).bind fun os2 => match os2 with | Sum.inl r => some r | Sum.inr s2 => some true))
set_option maxHeartbeats 4000000 in
theorem grapevinelaw0_SameBytes_calls {B : World} {G : GMap} {Γ : List Chunk} {W : World} (k : Nat) (l0 : List Int) (l1 : List Int) (Al0 : Option Addr) (cl0 : Nat) (Hl0 : Rd (kInt .u8) G Al0 cl0 l0) (Al1 : Option Addr) (cl1 : Nat) (Hl1 : Rd (kInt .u8) G Al1 cl1 l1) (r : Bool) (h : grapevinelaw0_SameBytes k l0 l1 = some r) (hI : Inv B G (Γ) W) :
    Calls Try.prog 21 [.slice Al0 l0.length cl0, .slice Al1 l1.length cl1].toArray W (Ret B (fun v G' Γ' => v = .bool r ∧ G = G' ∧ Γ = Γ')) := by
  refine calls_WP (Γ := Γ) (G := G) (B := B) Try.func21 rfl (by kernel_rfl) ?_ hI
  clear hI
  unfold grapevinelaw0_SameBytes at h
  refine WP.seqP [0, 1] (L' := [(0, .slice Al0 l0.length cl0), (1, .slice Al1 l1.length cl1)]) (by kernel_rfl) ?_
  refine WP.seq ?_
  refine WP.seqP [0, 1, 10] (L' := [(0, .slice Al0 l0.length cl0), (1, .slice Al1 l1.length cl1), (10, .bool ((l0.length : Int) != (l1.length : Int)))]) (by kernel_rfl) ?_
  refine WP.cond (b := ((l0.length : Int) != (l1.length : Int))) (by kernel_rfl) (fun hc => ?_) (fun hc => ?_)
  · replace hc := (bne_iff_ne.1 hc)
    rw [if_pos hc] at h
    have hc1 := hc
    clear hc
    refine WP.seqP [4] (L' := [(4, .bool false)]) (by kernel_rfl) ?_
    refine WP.ret ?_
    refine QP.thenR ?_
    obtain rfl := Option.some.inj h
    exact QP.returned [4] [.bool false] _ (by kernel_rfl) (by kernel_rfl) (by kernel_rfl) (fun W hI => ⟨_, _, _, rfl, ⟨rfl, rfl, rfl⟩, hI⟩)
  · replace hc := (not_not_intro (bne_eq_false_iff_eq.1 hc))
    rw [if_neg hc] at h
    have hc1 := hc
    clear hc
    refine WP.skip ?_
    refine QP.next ?_
    refine WP.pick [0, 1] ?_
    refine WP.seq ?_
    refine WP.seqP [0, 1, 5] (L' := [(0, .slice Al0 l0.length cl0), (1, .slice Al1 l1.length cl1), (5, .int .i64 0)]) (by kernel_rfl) ?_
    rw [Option.bind_eq_some_iff] at h
    obtain ⟨os2, h, hk3⟩ := h
    refine WP.cutQ (fun L' G' Γ' => ∃ s2 : Unit, Sum.inr s2 = os2 ∧ L' = [] ∧ G = G' ∧ Γ = Γ') ?_ ?_
    · skip
      refine WP.block ?_
      refine WP.pick [0, 1, 5] ?_
      refine WP.loopF (fun k5 L' G' Γ' => ∃ (y4 : Int), grapevinelaw0_SameBytes_l0 l0 l1 k5 y4 = some os2 ∧ L' = [(0, .slice Al0 l0.length cl0), (1, .slice Al1 l1.length cl1), (5, .int .i64 y4)] ∧ G = G' ∧ Γ = Γ') ?_ k ⟨0, h, rfl, rfl, rfl⟩
      clear h
      rintro k6 _ _ _ ⟨y4, h, rfl, rfl, rfl⟩
      cases k6 with
      | zero => exact absurd h (by simp [grapevinelaw0_SameBytes_l0])
      | succ k6 =>
        simp only [grapevinelaw0_SameBytes_l0] at h
        refine WP.seq ?_
        refine WP.seqP [0, 1, 5, 14] (L' := [(0, .slice Al0 l0.length cl0), (1, .slice Al1 l1.length cl1), (5, .int .i64 y4), (14, .bool (decide (y4 < (l0.length : Int))))]) (by kernel_rfl) ?_
        refine WP.cond (b := decide (y4 < (l0.length : Int))) (by kernel_rfl) (fun hc => ?_) (fun hc => ?_)
        · replace hc := of_decide_eq_true hc
          rw [if_pos hc] at h
          have hc7 := hc
          clear hc
          refine WP.skip ?_
          refine QP.next ?_
          refine WP.pick [0, 1, 5] ?_
          refine WP.seq ?_
          refine WP.block ?_
          refine WP.seq ?_
          refine WP.any (G0 := G) (Γ0 := Γ) mo ?_
          refine WA.pure [0, 1, 4, 5] [0, 1, 5, 17, 18, 21, 22] (m := 5) (done' := #[true, true, false, false, true, true, false, false, false]) (L' := [(0, .slice Al0 l0.length cl0), (1, .slice Al1 l1.length cl1), (5, .int .i64 y4), (17, .slice Al0 l0.length cl0), (18, .int .i64 y4), (21, .slice Al1 l1.length cl1), (22, .int .i64 y4)]) (by kernel_rfl) (by repeat (first | exact NoPanic.body | refine NoPanic.then ?_ | refine NoPanic.block ?_)) Under.refl (by kernel_rfl) ?_
          by_cases hb8 : 0 ≤ y4 ∧ y4 < (l0.length : Int)
          case neg => rw [if_neg hb8] at h; cases h
          rw [if_pos hb8] at h
          refine WA.tell (i := 2) (m := 4) (by kernel_rfl) (by repeat (first | exact NoPanic.body | refine NoPanic.then ?_ | refine NoPanic.block ?_)) Under.refl (by kernel_rfl) (op := .indexAddr 32 (.tmp 17) (.tmp 18)) (ty := 0) (d := some 19) (g := none) (by kernel_rfl) (by kernel_rfl) (by kernel_rfl) (Tells.indexAddr (A := Al0) (n := l0.length) (c := cl0) (k := .i64) (j := y4) (by kernel_rfl) (by kernel_rfl) (Hl0.isSome hb8.1 hb8.2) hb8.1 hb8.2 sl32) ?_
          refine WA.tellE (i := 3) (m := 3) (by kernel_rfl) (by repeat (first | exact NoPanic.body | refine NoPanic.then ?_ | refine NoPanic.block ?_)) Under.refl (by kernel_rfl) (op := .load 5 (.tmp 19)) (ty := 5) (d := some 20) (g := none) (by kernel_rfl) (by kernel_rfl) (by kernel_rfl) (Hl0.load (agg := false) hb8.1 hb8.2 0 ag5 (fun _ => rfl) (by kernel_rfl)) ?_
          rintro _ rfl
          by_cases hb9 : 0 ≤ y4 ∧ y4 < (l1.length : Int)
          case neg => rw [if_neg hb9] at h; cases h
          rw [if_pos hb9] at h
          refine WA.tell (i := 6) (m := 2) (by kernel_rfl) (by repeat (first | exact NoPanic.body | refine NoPanic.then ?_ | refine NoPanic.block ?_)) Under.refl (by kernel_rfl) (op := .indexAddr 32 (.tmp 21) (.tmp 22)) (ty := 0) (d := some 23) (g := none) (by kernel_rfl) (by kernel_rfl) (by kernel_rfl) (Tells.indexAddr (A := Al1) (n := l1.length) (c := cl1) (k := .i64) (j := y4) (by kernel_rfl) (by kernel_rfl) (Hl1.isSome hb9.1 hb9.2) hb9.1 hb9.2 sl32) ?_
          refine WA.tellE (i := 7) (m := 1) (by kernel_rfl) (by repeat (first | exact NoPanic.body | refine NoPanic.then ?_ | refine NoPanic.block ?_)) Under.refl (by kernel_rfl) (op := .load 5 (.tmp 23)) (ty := 5) (d := some 24) (g := none) (by kernel_rfl) (by kernel_rfl) (by kernel_rfl) (Hl1.load (agg := false) hb9.1 hb9.2 0 ag5 (fun _ => rfl) (by kernel_rfl)) ?_
          rintro _ rfl
          refine WA.pure [8] [0, 1, 5, 25] (m := 0) (done' := #[true, true, true, true, true, true, true, true, true]) (L' := [(0, .slice Al0 l0.length cl0), (1, .slice Al1 l1.length cl1), (5, .int .i64 y4), (25, .bool ((l0.getD y4.toNat 0) != (l1.getD y4.toNat 0)))]) (by kernel_rfl) (by repeat (first | exact NoPanic.body | refine NoPanic.then ?_ | refine NoPanic.block ?_)) Under.refl (by kernel_rfl) ?_
          refine WA.done (by kernel_rfl) ?_
          refine QP.pick [0, 1, 5, 25] ?_
          refine QP.next ?_
          refine WP.cond (b := ((l0.getD y4.toNat 0) != (l1.getD y4.toNat 0))) (by kernel_rfl) (fun hc => ?_) (fun hc => ?_)
          · replace hc := (bne_iff_ne.1 hc)
            rw [if_pos hc] at h
            have hc10 := hc
            clear hc
            refine WP.seqP [4] (L' := [(4, .bool false)]) (by kernel_rfl) ?_
            refine WP.ret ?_
            refine QP.blockR ?_
            refine QP.thenR ?_
            refine QP.thenR ?_
            refine QP.blockR ?_
            refine QP.thenR ?_
            refine QP.thenR ?_
            obtain rfl := Option.some.inj h
            obtain rfl := Option.some.inj (show some _ = some _ from hk3)
            exact QP.returned [4] [.bool false] _ (by kernel_rfl) (by kernel_rfl) (by kernel_rfl) (fun W hI => ⟨_, _, _, rfl, ⟨rfl, rfl, rfl⟩, hI⟩)
          · replace hc := (not_not_intro (bne_eq_false_iff_eq.1 hc))
            rw [if_neg hc] at h
            have hc10 := hc
            clear hc
            refine WP.skip ?_
            refine QP.blockN ?_
            refine QP.next ?_
            refine WP.pick [0, 1, 5] ?_
            refine WP.regionP [0, 1, 5] (L' := [(0, .slice Al0 l0.length cl0), (1, .slice Al1 l1.length cl1), (5, .int .i64 (IntKind.i64.wrap (y4 + 1)))]) (by kernel_rfl) ?_
            refine QP.pick [0, 1, 5] ?_
            exact QP.meet ⟨k6, Nat.lt_succ_self _, (IntKind.i64.wrap (y4 + 1)), h, rfl, rfl, rfl⟩
        · replace hc := of_decide_eq_false hc
          rw [if_neg hc] at h
          have hc7 := hc
          clear hc
          refine WP.exit ?_
          refine QP.thenE ?_
          refine QP.thenE ?_
          refine QP.blockE ?_
          refine QP.pick [] ?_
          exact QP.meet ⟨_, Option.some.inj h, rfl, rfl, rfl⟩
    · rintro _ _ _ ⟨s2, rfl, rfl, rfl, rfl⟩
      clear h
      replace h := hk3
      refine QP.next ?_
      refine WP.pick [] ?_
      refine WP.seqP [4] (L' := [(4, .bool true)]) (by kernel_rfl) ?_
      refine WP.ret ?_
      obtain rfl := Option.some.inj h
      exact QP.returned [4] [.bool true] _ (by kernel_rfl) (by kernel_rfl) (by kernel_rfl) (fun W hI => ⟨_, _, _, rfl, ⟨rfl, rfl, rfl⟩, hI⟩)

/-! ### grapevine/grapevinelaw0.Num: function 22 -/
def grapevinelaw0_Num (a0 : Int) : Option Int := some a0
set_option maxHeartbeats 4000000 in
theorem grapevinelaw0_Num_calls {B : World} {G : GMap} {Γ : List Chunk} {W : World} (a0 : Int) (r : Int) (h : grapevinelaw0_Num a0 = some r) (hI : Inv B G (Γ) W) :
    Calls Try.prog 22 [.int .i64 a0].toArray W (Ret B (fun v G' Γ' => v = .int .i64 r ∧ G = G' ∧ Γ = Γ')) := by
  refine calls_WP (Γ := Γ) (G := G) (B := B) Try.func22 rfl (by kernel_rfl) ?_ hI
  clear hI
  unfold grapevinelaw0_Num at h
  refine WP.seqP [0] (L' := [(0, .int .i64 a0)]) (by kernel_rfl) ?_
  refine WP.seqP [2] (L' := [(2, .int .i64 a0)]) (by kernel_rfl) ?_
  refine WP.ret ?_
  obtain rfl := Option.some.inj h
  exact QP.returned [2] [.int .i64 a0] _ (by kernel_rfl) (by kernel_rfl) (by kernel_rfl) (fun W hI => ⟨_, _, _, rfl, ⟨rfl, rfl, rfl⟩, hI⟩)

/-! ### grapevine/grapevinelaw0.LendBytes: function 23 -/
def grapevinelaw0_LendBytes (l0 : List Int) : Option (List Int) := if l0.length + 3 ≤ 1073741824 then some (l0 ++ ([119, 119, 119] : List Int)) else none
set_option maxHeartbeats 4000000 in
theorem grapevinelaw0_LendBytes_calls {B : World} {G : GMap} {Γ : List Chunk} {W : World} (l0 : List Int) (Al0 : Option Addr) (cl0 : Nat) (Hl0 : Rd (kInt .u8) G Al0 cl0 l0) (hlen : l0.length + 3 ≤ 1073741824) (hI : Inv B G Γ W) :
    Calls Try.prog 23 [.slice Al0 l0.length cl0].toArray W (Ret B (fun v G' Γ' => ∃ (AR : Option Addr), ∃ (cR : Nat), ∃ (CR : Chunk), v = .slice AR l0.length cR ∧ Ow (kInt .u8) G' AR cR (l0 ++ ([119, 119, 119] : List Int)) CR ∧ G = G' ∧ CR :: Γ = Γ')) := by
  refine calls_WP (Γ := Γ) (G := G) (B := B) Try.func23 rfl (by kernel_rfl) ?_ hI
  clear hI
  have hw : IntKind.i64.wrap ((l0.length : Int) + 3) = (l0.length : Int) + 3 := by rw [IntKind.wrap_i64]; omega
  refine WP.seqP [0] (L' := [(0, .slice Al0 l0.length cl0)]) (by kernel_rfl) ?_
  refine WP.seqR ?_
  refine WL.pure 0 3 [0, 8] (L' := [(0, .slice Al0 l0.length cl0), (8, .int .i64 (IntKind.i64.wrap ((l0.length : Int) + 3)))]) (by kernel_rfl) (by decide) ?_
  refine WL.reput 8 (v := .int .i64 (IntKind.i64.wrap ((l0.length : Int) + 3))) (v' := .int .i64 ((l0.length : Int) + 3)) (by kernel_rfl) (by rw [hw]) ?_
  refine WL.op (op := .makeSlice 32 (.const (.int .i64 0)) (.tmp 8)) (ty := 32) (d := some 9) (g := none) (by kernel_rfl) (by kernel_rfl) (by kernel_rfl) (Does.makeRoom (kd := (kInt .u8)) (z := 0) (zv := (.int .u8 0)) (k := .i64) (k' := .i64) (c := (l0.length : Int) + 3) (by kernel_rfl) (by kernel_rfl) (by omega) sl32 (by decide) (by omega) (by kernel_rfl) (fun _ => by exact rfl)) ?_
  rintro _ _ _ ⟨rfl, b, C0, rfl, H0, rfl⟩
  refine WL.restQ 4 [0, 3] (L' := [(0, .slice Al0 l0.length cl0), (3, .slice (some ⟨b, 0, none⟩) 0 ((l0.length : Int) + 3).toNat)]) (by kernel_rfl) ?_
  have hc : ((l0.length : Int) + 3).toNat = l0.length + 3 := by omega
  generalize ((l0.length : Int) + 3).toNat = c at hc H0 ⊢
  subst hc
  replace H0 : Ow (kInt .u8) G (some ⟨b, 0, none⟩) (l0.length + 3) (List.replicate l0.length 0 ++ List.replicate 3 0) C0 := by rw [List.replicate_append_replicate]; exact H0
  refine WP.seqR ?_
  refine WL.pure 0 2 [0, 10, 11] (L' := [(0, .slice Al0 l0.length cl0), (10, .slice (some ⟨b, 0, none⟩) 0 (l0.length + 3)), (11, .slice Al0 l0.length cl0)]) (by kernel_rfl) (by decide) ?_
  refine WL.op (op := .call { callee := (.builtin .append), args := #[(.tmp 10), (.tmp 11)], argTypes := #[32, 32] }) (ty := 32) (d := some 12) (g := none) (by kernel_rfl) (by kernel_rfl) (by kernel_rfl) (Ow.appendIn (ys := l0) (v := .slice Al0 l0.length cl0) H0 (i := 0) rfl (by kernel_rfl) (by kernel_rfl) Hl0.src sl32 nt32 (by simp)) ?_
  rintro _ _ _ ⟨rfl, rfl, C1, H1, rfl⟩
  refine WL.restQ 3 [0, 3] (L' := [(0, .slice Al0 l0.length cl0), (3, .slice (some ⟨b, 0, none⟩) l0.length (l0.length + 3))]) (by kernel_rfl) ?_
  refine WP.seqR ?_
  refine WL.pure 0 6 [3, 13, 15, 18] (L' := [(3, .slice (some ⟨b, 0, none⟩) l0.length (l0.length + 3)), (13, .slice (some ⟨b, 0, none⟩) l0.length (l0.length + 3)), (15, .int .i64 (l0.length : Int)), (18, .int .i64 (IntKind.i64.wrap ((l0.length : Int) + 3)))]) (by kernel_rfl) (by decide) ?_
  refine WL.reput 18 (v := .int .i64 (IntKind.i64.wrap ((l0.length : Int) + 3))) (v' := .int .i64 ((l0.length : Int) + 3)) (by kernel_rfl) (by rw [hw]) ?_
  refine WL.tell (op := .slice 32 (.tmp 13) (some (.tmp 15)) (some (.tmp 18)) none) (ty := 32) (d := some 19) (g := none) (by kernel_rfl) (by kernel_rfl) (by kernel_rfl) (Tells.room (b := b) (m := l0.length) (c := l0.length + 3) (l := (l0.length : Int)) (h := (l0.length : Int) + 3) (by kernel_rfl) ⟨.i64, by kernel_rfl⟩ ⟨.i64, by kernel_rfl⟩ (by omega) (by omega) (by omega) sl32) ?_
  refine WL.reput 19 (v := .slice (some ⟨b, (l0.length : Int).toNat * 1, none⟩) (((l0.length : Int) + 3).toNat - (l0.length : Int).toNat) (l0.length + 3 - (l0.length : Int).toNat)) (v' := .slice (some ⟨b, l0.length * 1, none⟩) 3 3) (by kernel_rfl) (by rw [Int.toNat_natCast, show ((l0.length : Int) + 3).toNat - l0.length = 3 by omega, show l0.length + 3 - l0.length = 3 by omega]) ?_
  refine WL.restQ 7 [3, 4] (L' := [(3, .slice (some ⟨b, 0, none⟩) l0.length (l0.length + 3)), (4, .slice (some ⟨b, l0.length * 1, none⟩) 3 3)]) (by kernel_rfl) ?_
  refine WP.seq ?_
  refine WP.seqP [3, 4, 5] (L' := [(3, .slice (some ⟨b, 0, none⟩) l0.length (l0.length + 3)), (4, .slice (some ⟨b, l0.length * 1, none⟩) 3 3), (5, .int .i64 0)]) (by kernel_rfl) ?_
  refine WP.cutQ (fun L' G' Γ' => ∃ (C2 : Chunk), L' = [(3, .slice (some ⟨b, 0, none⟩) l0.length (l0.length + 3))] ∧ G = G' ∧ C2 :: Γ = Γ' ∧ Ow (kInt .u8) G (some ⟨b, 0, none⟩) (l0.length + 3) (l0 ++ ([119, 119, 119] : List Int)) C2) ?_ ?_
  · refine WP.block ?_
    refine WP.loopF (fun k L' G' Γ' => ∃ (i : Nat) (C2 : Chunk), i + k = 3 ∧ L' = [(3, .slice (some ⟨b, 0, none⟩) l0.length (l0.length + 3)), (4, .slice (some ⟨b, l0.length * 1, none⟩) 3 3), (5, .int .i64 (i : Int))] ∧ G = G' ∧ C2 :: Γ = Γ' ∧ Ow (kInt .u8) G (some ⟨b, 0, none⟩) (l0.length + 3) (l0 ++ (List.replicate i 119 ++ List.replicate (3 - i) 0)) C2) ?_ 3 ⟨0, C1, rfl, rfl, rfl, rfl, by simpa using H1⟩
    rintro k _ _ _ ⟨i, C2, hk, rfl, rfl, rfl, H2⟩
    refine WP.seq ?_
    refine WP.seqP [3, 4, 5, 21] (L' := [(3, .slice (some ⟨b, 0, none⟩) l0.length (l0.length + 3)), (4, .slice (some ⟨b, l0.length * 1, none⟩) 3 3), (5, .int .i64 (i : Int)), (21, .bool (decide ((i : Int) < 3)))]) (by kernel_rfl) ?_
    refine WP.cond (b := decide ((i : Int) < 3)) (by kernel_rfl) (fun hc => ?_) (fun hc => ?_)
    · replace hc := of_decide_eq_true hc
      refine WP.skip ?_
      refine QP.next ?_
      refine WP.pick [3, 4, 5] ?_
      refine WP.seq ?_
      refine WP.block ?_
      refine WP.region ?_
      refine WL.pure 0 2 [3, 4, 5, 24, 25] (L' := [(3, .slice (some ⟨b, 0, none⟩) l0.length (l0.length + 3)), (4, .slice (some ⟨b, l0.length * 1, none⟩) 3 3), (5, .int .i64 (i : Int)), (24, .slice (some ⟨b, l0.length * 1, none⟩) 3 3), (25, .int .i64 (i : Int))]) (by kernel_rfl) (by decide) ?_
      refine WL.tell (op := .indexAddr 32 (.tmp 24) (.tmp 25)) (ty := 0) (d := some 26) (g := none) (by kernel_rfl) (by kernel_rfl) (by kernel_rfl) (Tells.indexAddr (A := some ⟨b, l0.length * 1, none⟩) (n := 3) (c := 3) (k := .i64) (j := (i : Int)) (by kernel_rfl) (by kernel_rfl) rfl (by omega) hc sl32) ?_
      refine WL.reput 26 (v := .pointer ((some ⟨b, l0.length * 1, none⟩ : Option Addr).map (·.add ((i : Int).toNat * 1)))) (v' := .pointer ((some ⟨b, 0, none⟩ : Option Addr).map (·.add ((((l0.length + i : Nat) : Int)).toNat * 1)))) (by kernel_rfl) (by simp only [Option.map_some, add_mul, Int.toNat_natCast, Nat.add_mul, Nat.zero_add]) ?_
      refine WL.op (op := .store 5 (.tmp 26) (.const (.int .u8 119))) (ty := 0) (d := none) (g := none) (by kernel_rfl) (by kernel_rfl) (by kernel_rfl) (Ow.store H2 (i := 0) rfl (j := ((l0.length + i : Nat) : Int)) (by omega) (by simp; omega) (z := 119) (v := (.int .u8 119)) (by kernel_rfl) (by kernel_rfl) sz5 (by exact rfl)) ?_
      rintro _ _ _ ⟨rfl, rfl, C3, H3, rfl⟩
      refine WL.rest 4 [3, 4, 5] (L' := [(3, .slice (some ⟨b, 0, none⟩) l0.length (l0.length + 3)), (4, .slice (some ⟨b, l0.length * 1, none⟩) 3 3), (5, .int .i64 (i : Int))]) (by kernel_rfl) ?_
      refine QP.blockN ?_
      refine QP.next ?_
      refine WP.regionP [3, 4, 5] (L' := [(3, .slice (some ⟨b, 0, none⟩) l0.length (l0.length + 3)), (4, .slice (some ⟨b, l0.length * 1, none⟩) 3 3), (5, .int .i64 (IntKind.i64.wrap ((i : Int) + 1)))]) (by kernel_rfl) ?_
      rw [show IntKind.i64.wrap ((i : Int) + 1) = ((i + 1 : Nat) : Int) by rw [IntKind.wrap_i64]; omega]
      refine QP.meet ⟨k - 1, by omega, i + 1, C3, by omega, rfl, rfl, rfl, ?_⟩
      have e : (l0 ++ (List.replicate i 119 ++ List.replicate (3 - i) 0)).set ((l0.length + i : Nat) : Int).toNat 119 = l0 ++ (List.replicate (i + 1) 119 ++ List.replicate (3 - (i + 1)) 0) := by
        rw [show ((l0.length + i : Nat) : Int).toNat = l0.length + i by omega, List.set_append_right _ _ (by omega), show l0.length + i - l0.length = i by omega]
        obtain rfl | rfl | rfl : i = 0 ∨ i = 1 ∨ i = 2 := by omega
        all_goals rfl
      rw [← e]
      exact H3
    · replace hc := of_decide_eq_false hc
      obtain rfl : i = 3 := by omega
      refine WP.exit ?_
      refine QP.thenE ?_
      refine QP.thenE ?_
      refine QP.blockE ?_
      refine QP.pick [3] ?_
      exact QP.meet ⟨C2, rfl, rfl, rfl, H2⟩
  · rintro _ _ _ ⟨C2, rfl, rfl, rfl, H2⟩
    refine QP.next ?_
    refine WP.seqP [2] (L' := [(2, .slice (some ⟨b, 0, none⟩) l0.length (l0.length + 3))]) (by kernel_rfl) ?_
    refine WP.ret ?_
    exact QP.returned [2] [.slice (some ⟨b, 0, none⟩) l0.length (l0.length + 3)] _ (by kernel_rfl) (by kernel_rfl) (by kernel_rfl) (fun W hI => ⟨_, _, _, rfl, ⟨_, _, C2, rfl, H2, rfl, rfl⟩, hI⟩)
end Go.Proofs.Ytanogihdhnhpaaa.Gf
