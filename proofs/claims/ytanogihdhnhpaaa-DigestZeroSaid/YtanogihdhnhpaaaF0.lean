/- Walks of Go functions: what each tells, as a plain Lean function, and that the Go code comes to it. Written by gg.py of this repo. -/
import Derived.Test.YtanogihdhnhpaaaT
namespace Go.Proofs.Ytanogihdhnhpaaa.Gf
open Go Go.Gg
set_option maxRecDepth 100000
set_option linter.unusedVariables false
set_option linter.unusedSimpArgs false

/-! ### grapevine/grapevinelaw5.great: function 11 -/
def grapevinelaw5_great_l0 (l0 : List (List Int)) : Nat → Int → Option (Sum Bool Unit)
  | 0, _ => none
  | k + 1, y3 => ((if y3 < (l0.length : Int) then some (decide ((l0.length : Int) ≤ 20)) else some false).bind fun s6 => (if s6 = true then (if 0 ≤ y3 ∧ y3 < (l0.length : Int) then (if ((l0.getD y3.toNat []).length : Int) > 200 then some (Sum.inl true) else grapevinelaw5_great_l0 l0 k (IntKind.i64.wrap (y3 + 1))) else none) else some (Sum.inr ())))
def grapevinelaw5_great (k : Nat) (l0 : List (List Int)) : Option Bool := ((grapevinelaw5_great_l0 l0 k 0).bind fun os1 => match os1 with | Sum.inl r => some r | Sum.inr s1 => some (decide ((l0.length : Int) > 20)))
set_option maxHeartbeats 4000000 in
theorem grapevinelaw5_great_calls {B : World} {G : GMap} {Γ : List Chunk} {W : World} (k : Nat) (l0 : List (List Int)) (Al0 : Option Addr) (cl0 : Nat) (Hl0 : Rd (kSlice (kInt .u8)) G Al0 cl0 l0) (r : Bool) (h : grapevinelaw5_great k l0 = some r) (hI : Inv B G (Γ) W) :
    Calls Try.prog 11 [.slice Al0 l0.length cl0].toArray W (Ret B (fun v G' Γ' => v = .bool r ∧ G = G' ∧ Γ = Γ')) := by
  refine calls_WP (Γ := Γ) (G := G) (B := B) Try.func11 rfl (by kernel_rfl) ?_ hI
  clear hI
  unfold grapevinelaw5_great at h
  refine WP.seqP [0] (L' := [(0, .slice Al0 l0.length cl0)]) (by kernel_rfl) ?_
  refine WP.seq ?_
  refine WP.seqP [0, 3] (L' := [(0, .slice Al0 l0.length cl0), (3, .int .i64 0)]) (by kernel_rfl) ?_
  rw [Option.bind_eq_some_iff] at h
  obtain ⟨os1, h, hk2⟩ := h
  refine WP.cutQ (fun L' G' Γ' => ∃ s1 : Unit, Sum.inr s1 = os1 ∧ L' = [(0, .slice Al0 l0.length cl0)] ∧ G = G' ∧ Γ = Γ') ?_ ?_
  · skip
    refine WP.block ?_
    refine WP.pick [0, 3] ?_
    refine WP.loopF (fun k4 L' G' Γ' => ∃ (y3 : Int), grapevinelaw5_great_l0 l0 k4 y3 = some os1 ∧ L' = [(0, .slice Al0 l0.length cl0), (3, .int .i64 y3)] ∧ G = G' ∧ Γ = Γ') ?_ k ⟨0, h, rfl, rfl, rfl⟩
    clear h
    rintro k5 _ _ _ ⟨y3, h, rfl, rfl, rfl⟩
    cases k5 with
    | zero => exact absurd h (by simp [grapevinelaw5_great_l0])
    | succ k5 =>
      simp only [grapevinelaw5_great_l0] at h
      refine WP.seq ?_
      rw [Option.bind_eq_some_iff] at h
      obtain ⟨os6, h, hk7⟩ := h
      refine WP.cut (fun L' G' Γ' => ∃ s6 : Bool, s6 = os6 ∧ L' = [(0, .slice Al0 l0.length cl0), (3, .int .i64 y3), (12, .bool s6)] ∧ G = G' ∧ Γ = Γ') ?_ ?_
      · clear hk7
        refine WP.region ?_
        refine WL.pure 0 5 [0, 3, 8] (L' := [(0, .slice Al0 l0.length cl0), (3, .int .i64 y3), (8, .bool (decide (y3 < (l0.length : Int))))]) (by kernel_rfl) (by decide) ?_
        refine WL.split 8 (b := decide (y3 < (l0.length : Int))) (by kernel_rfl) (fun hc => ?_) (fun hc => ?_)
        · replace hc := of_decide_eq_true hc
          rw [if_pos hc] at h
          have hc8 := hc
          clear hc
          refine WL.rest 5 [0, 3, 12] (L' := [(0, .slice Al0 l0.length cl0), (3, .int .i64 y3), (12, .bool (decide ((l0.length : Int) ≤ 20)))]) (by kernel_rfl) ?_
          refine QP.pick [0, 3, 12] ?_
          exact QP.meet ⟨_, Option.some.inj h, rfl, rfl, rfl⟩
        · replace hc := of_decide_eq_false hc
          rw [if_neg hc] at h
          have hc8 := hc
          clear hc
          refine WL.rest 5 [0, 3, 12] (L' := [(0, .slice Al0 l0.length cl0), (3, .int .i64 y3), (12, .bool false)]) (by kernel_rfl) ?_
          refine QP.pick [0, 3, 12] ?_
          exact QP.meet ⟨_, Option.some.inj h, rfl, rfl, rfl⟩
      · rintro _ _ _ ⟨s6, rfl, rfl, rfl, rfl⟩
        clear h
        replace h := hk7
        refine WP.cond (b := s6) (by kernel_rfl) (fun hc => ?_) (fun hc => ?_)
        · replace hc := hc
          rw [if_pos hc] at h
          have hc9 := hc
          clear hc
          refine WP.skip ?_
          refine QP.next ?_
          refine WP.pick [0, 3] ?_
          refine WP.seq ?_
          refine WP.block ?_
          refine WP.seqR ?_
          refine WL.pure 0 2 [0, 3, 15, 16] (L' := [(0, .slice Al0 l0.length cl0), (3, .int .i64 y3), (15, .slice Al0 l0.length cl0), (16, .int .i64 y3)]) (by kernel_rfl) (by decide) ?_
          by_cases hb10 : 0 ≤ y3 ∧ y3 < (l0.length : Int)
          case neg => rw [if_neg hb10] at h; cases h
          rw [if_pos hb10] at h
          refine WL.tell (op := .indexAddr 22 (.tmp 15) (.tmp 16)) (ty := 0) (d := some 17) (g := none) (by kernel_rfl) (by kernel_rfl) (by kernel_rfl) (Tells.indexAddr (A := Al0) (n := l0.length) (c := cl0) (k := .i64) (j := y3) (by kernel_rfl) (by kernel_rfl) (Hl0.isSome hb10.1 hb10.2) hb10.1 hb10.2 sl22) ?_
          refine WL.tellE (op := .load 32 (.tmp 17)) (ty := 32) (d := some 18) (g := none) (by kernel_rfl) (by kernel_rfl) (by kernel_rfl) (Hl0.load (agg := false) hb10.1 hb10.2 [] ag32 (fun _ => rfl) (by kernel_rfl)) ?_
          rintro _ ⟨Ae11, ce11, rfl, He11⟩
          refine WL.restQ 4 [0, 3, 20] (L' := [(0, .slice Al0 l0.length cl0), (3, .int .i64 y3), (20, .bool (decide (((l0.getD y3.toNat []).length : Int) > 200)))]) (by kernel_rfl) ?_
          refine WP.cond (b := decide (((l0.getD y3.toNat []).length : Int) > 200)) (by kernel_rfl) (fun hc => ?_) (fun hc => ?_)
          · replace hc := of_decide_eq_true hc
            rw [if_pos hc] at h
            have hc12 := hc
            clear hc
            refine WP.seqP [2] (L' := [(2, .bool true)]) (by kernel_rfl) ?_
            refine WP.ret ?_
            refine QP.blockR ?_
            refine QP.thenR ?_
            refine QP.thenR ?_
            refine QP.blockR ?_
            refine QP.thenR ?_
            refine QP.thenR ?_
            obtain rfl := Option.some.inj h
            obtain rfl := Option.some.inj (show some _ = some _ from hk2)
            exact QP.returned [2] [.bool true] _ (by kernel_rfl) (by kernel_rfl) (by kernel_rfl) (fun W hI => ⟨_, _, _, rfl, ⟨rfl, rfl, rfl⟩, hI⟩)
          · replace hc := of_decide_eq_false hc
            rw [if_neg hc] at h
            have hc12 := hc
            clear hc
            refine WP.skip ?_
            refine QP.blockN ?_
            refine QP.next ?_
            refine WP.pick [0, 3] ?_
            refine WP.regionP [0, 3] (L' := [(0, .slice Al0 l0.length cl0), (3, .int .i64 (IntKind.i64.wrap (y3 + 1)))]) (by kernel_rfl) ?_
            refine QP.pick [0, 3] ?_
            exact QP.meet ⟨k5, Nat.lt_succ_self _, (IntKind.i64.wrap (y3 + 1)), h, rfl, rfl, rfl⟩
        · replace hc := (Bool.eq_false_iff.1 hc)
          rw [if_neg hc] at h
          have hc9 := hc
          clear hc
          refine WP.exit ?_
          refine QP.thenE ?_
          refine QP.thenE ?_
          refine QP.blockE ?_
          refine QP.pick [0] ?_
          exact QP.meet ⟨_, Option.some.inj h, rfl, rfl, rfl⟩
  · rintro _ _ _ ⟨s1, rfl, rfl, rfl, rfl⟩
    clear h
    replace h := hk2
    refine QP.next ?_
    refine WP.pick [0] ?_
    refine WP.seqP [2] (L' := [(2, .bool (decide ((l0.length : Int) > 20)))]) (by kernel_rfl) ?_
    refine WP.ret ?_
    obtain rfl := Option.some.inj h
    exact QP.returned [2] [.bool (decide ((l0.length : Int) > 20))] _ (by kernel_rfl) (by kernel_rfl) (by kernel_rfl) (fun W hI => ⟨_, _, _, rfl, ⟨rfl, rfl, rfl⟩, hI⟩)

/-! ### grapevine/digest.Of: function 13 -/
def digest_Of_l1 (l0 : List (List Int)) (y4 : Int) : Nat → Int → Int → Option Int
  | 0, _, _ => none
  | k + 1, y12, y13 => (if y13 < ((l0.getD y4.toNat []).length : Int) then (if 0 ≤ y13 ∧ y13 < ((l0.getD y4.toNat []).length : Int) then digest_Of_l1 l0 y4 k (IntKind.u64.wrap ((Go.bits .xor .u64 y12 (IntKind.u64.wrap ((l0.getD y4.toNat []).getD y13.toNat 0))) * 1099511628211)) (IntKind.i64.wrap (y13 + 1)) else none) else some y12)
def digest_Of_l0 (l0 : List (List Int)) : Nat → Int → Int → Option Int
  | 0, _, _ => none
  | k + 1, y3, y4 => (if y4 < (l0.length : Int) then (if 0 ≤ y4 ∧ y4 < (l0.length : Int) then ((digest_Of_l1 l0 y4 k y3 0).bind fun s10 => digest_Of_l0 l0 k s10 (IntKind.i64.wrap (y4 + 1))) else none) else some y3)
def digest_Of (k : Nat) (l0 : List (List Int)) : Option Int := ((digest_Of_l0 l0 k 14695981039346656037 0).bind fun s1 => some s1)
set_option maxHeartbeats 4000000 in
theorem digest_Of_calls {B : World} {G : GMap} {Γ : List Chunk} {W : World} (k : Nat) (l0 : List (List Int)) (Al0 : Option Addr) (cl0 : Nat) (Hl0 : Rd (kSlice (kInt .u8)) G Al0 cl0 l0) (r : Int) (h : digest_Of k l0 = some r) (hI : Inv B G (Γ) W) :
    Calls Try.prog 13 [.slice Al0 l0.length cl0].toArray W (Ret B (fun v G' Γ' => v = .int .u64 r ∧ G = G' ∧ Γ = Γ')) := by
  refine calls_WP (Γ := Γ) (G := G) (B := B) Try.func13 rfl (by kernel_rfl) ?_ hI
  clear hI
  unfold digest_Of at h
  refine WP.seqP [0] (L' := [(0, .slice Al0 l0.length cl0)]) (by kernel_rfl) ?_
  refine WP.seqP [0, 3] (L' := [(0, .slice Al0 l0.length cl0), (3, .int .u64 14695981039346656037)]) (by kernel_rfl) ?_
  refine WP.seq ?_
  refine WP.seqP [3, 8, 9, 10] (L' := [(3, .int .u64 14695981039346656037), (8, .slice Al0 l0.length cl0), (9, .int .i64 (l0.length : Int)), (10, .int .i64 0)]) (by kernel_rfl) ?_
  rw [Option.bind_eq_some_iff] at h
  obtain ⟨os1, h, hk2⟩ := h
  refine WP.cutQ (fun L' G' Γ' => ∃ s1 : Int, s1 = os1 ∧ L' = [(3, .int .u64 s1)] ∧ G = G' ∧ Γ = Γ') ?_ ?_
  · clear hk2
    refine WP.block ?_
    refine WP.pick [3, 8, 9, 10] ?_
    refine WP.loopF (fun k5 L' G' Γ' => ∃ (y3 : Int), ∃ (y4 : Int), digest_Of_l0 l0 k5 y3 y4 = some os1 ∧ L' = [(3, .int .u64 y3), (8, .slice Al0 l0.length cl0), (9, .int .i64 (l0.length : Int)), (10, .int .i64 y4)] ∧ G = G' ∧ Γ = Γ') ?_ k ⟨14695981039346656037, 0, h, rfl, rfl, rfl⟩
    clear h
    rintro k6 _ _ _ ⟨y3, y4, h, rfl, rfl, rfl⟩
    cases k6 with
    | zero => exact absurd h (by simp [digest_Of_l0])
    | succ k6 =>
      simp only [digest_Of_l0] at h
      refine WP.seqP [3, 8, 9, 10, 11] (L' := [(3, .int .u64 y3), (8, .slice Al0 l0.length cl0), (9, .int .i64 (l0.length : Int)), (10, .int .i64 y4), (11, .bool (decide (y4 < (l0.length : Int))))]) (by kernel_rfl) ?_
      refine WP.seq ?_
      refine WP.cond (b := decide (y4 < (l0.length : Int))) (by kernel_rfl) (fun hc => ?_) (fun hc => ?_)
      · replace hc := of_decide_eq_true hc
        rw [if_pos hc] at h
        have hc7 := hc
        clear hc
        refine WP.skip ?_
        refine QP.next ?_
        refine WP.pick [3, 8, 9, 10] ?_
        refine WP.seq ?_
        refine WP.block ?_
        refine WP.seqR ?_
        by_cases hb8 : 0 ≤ y4 ∧ y4 < (l0.length : Int)
        case neg => rw [if_neg hb8] at h; cases h
        rw [if_pos hb8] at h
        refine WL.tell (op := .indexAddr 22 (.tmp 8) (.tmp 10)) (ty := 0) (d := some 12) (g := none) (by kernel_rfl) (by kernel_rfl) (by kernel_rfl) (Tells.indexAddr (A := Al0) (n := l0.length) (c := cl0) (k := .i64) (j := y4) (by kernel_rfl) (by kernel_rfl) (Hl0.isSome hb8.1 hb8.2) hb8.1 hb8.2 sl22) ?_
        refine WL.tellE (op := .load 32 (.tmp 12)) (ty := 32) (d := some 13) (g := none) (by kernel_rfl) (by kernel_rfl) (by kernel_rfl) (Hl0.load (agg := false) hb8.1 hb8.2 [] ag32 (fun _ => rfl) (by kernel_rfl)) ?_
        rintro _ ⟨Ae9, ce9, rfl, He9⟩
        refine WL.restQ 2 [3, 5, 8, 9, 10] (L' := [(3, .int .u64 y3), (5, .slice Ae9 (l0.getD y4.toNat []).length ce9), (8, .slice Al0 l0.length cl0), (9, .int .i64 (l0.length : Int)), (10, .int .i64 y4)]) (by kernel_rfl) ?_
        refine WP.seqP [3, 8, 9, 10, 14, 15, 16] (L' := [(3, .int .u64 y3), (8, .slice Al0 l0.length cl0), (9, .int .i64 (l0.length : Int)), (10, .int .i64 y4), (14, .slice Ae9 (l0.getD y4.toNat []).length ce9), (15, .int .i64 ((l0.getD y4.toNat []).length : Int)), (16, .int .i64 0)]) (by kernel_rfl) ?_
        rw [Option.bind_eq_some_iff] at h
        obtain ⟨os10, h, hk11⟩ := h
        refine WP.cutQ (fun L' G' Γ' => ∃ s10 : Int, s10 = os10 ∧ L' = [(3, .int .u64 s10), (8, .slice Al0 l0.length cl0), (9, .int .i64 (l0.length : Int)), (10, .int .i64 y4)] ∧ G = G' ∧ Γ = Γ') ?_ ?_
        · clear hk11
          refine WP.block ?_
          refine WP.pick [3, 8, 9, 10, 14, 15, 16] ?_
          refine WP.loopF (fun k14 L' G' Γ' => ∃ (y12 : Int), ∃ (y13 : Int), digest_Of_l1 l0 y4 k14 y12 y13 = some os10 ∧ L' = [(3, .int .u64 y12), (8, .slice Al0 l0.length cl0), (9, .int .i64 (l0.length : Int)), (10, .int .i64 y4), (14, .slice Ae9 (l0.getD y4.toNat []).length ce9), (15, .int .i64 ((l0.getD y4.toNat []).length : Int)), (16, .int .i64 y13)] ∧ G = G' ∧ Γ = Γ') ?_ k6 ⟨y3, 0, h, rfl, rfl, rfl⟩
          clear h
          rintro k15 _ _ _ ⟨y12, y13, h, rfl, rfl, rfl⟩
          cases k15 with
          | zero => exact absurd h (by simp [digest_Of_l1])
          | succ k15 =>
            simp only [digest_Of_l1] at h
            refine WP.seqP [3, 8, 9, 10, 14, 15, 16, 17] (L' := [(3, .int .u64 y12), (8, .slice Al0 l0.length cl0), (9, .int .i64 (l0.length : Int)), (10, .int .i64 y4), (14, .slice Ae9 (l0.getD y4.toNat []).length ce9), (15, .int .i64 ((l0.getD y4.toNat []).length : Int)), (16, .int .i64 y13), (17, .bool (decide (y13 < ((l0.getD y4.toNat []).length : Int))))]) (by kernel_rfl) ?_
            refine WP.seq ?_
            refine WP.cond (b := decide (y13 < ((l0.getD y4.toNat []).length : Int))) (by kernel_rfl) (fun hc => ?_) (fun hc => ?_)
            · replace hc := of_decide_eq_true hc
              rw [if_pos hc] at h
              have hc16 := hc
              clear hc
              refine WP.skip ?_
              refine QP.next ?_
              refine WP.pick [3, 8, 9, 10, 14, 15, 16] ?_
              refine WP.seq ?_
              refine WP.block ?_
              refine WP.seqR ?_
              by_cases hb17 : 0 ≤ y13 ∧ y13 < ((l0.getD y4.toNat []).length : Int)
              case neg => rw [if_neg hb17] at h; cases h
              rw [if_pos hb17] at h
              refine WL.tell (op := .indexAddr 32 (.tmp 14) (.tmp 16)) (ty := 0) (d := some 18) (g := none) (by kernel_rfl) (by kernel_rfl) (by kernel_rfl) (Tells.indexAddr (A := Ae9) (n := (l0.getD y4.toNat []).length) (c := ce9) (k := .i64) (j := y13) (by kernel_rfl) (by kernel_rfl) (He9.isSome hb17.1 hb17.2) hb17.1 hb17.2 sl32) ?_
              refine WL.tellE (op := .load 5 (.tmp 18)) (ty := 5) (d := some 19) (g := none) (by kernel_rfl) (by kernel_rfl) (by kernel_rfl) (He9.load (agg := false) hb17.1 hb17.2 0 ag5 (fun _ => rfl) (by kernel_rfl)) ?_
              rintro _ rfl
              refine WL.restQ 2 [3, 7, 8, 9, 10, 14, 15, 16] (L' := [(3, .int .u64 y12), (7, .int .u8 ((l0.getD y4.toNat []).getD y13.toNat 0)), (8, .slice Al0 l0.length cl0), (9, .int .i64 (l0.length : Int)), (10, .int .i64 y4), (14, .slice Ae9 (l0.getD y4.toNat []).length ce9), (15, .int .i64 ((l0.getD y4.toNat []).length : Int)), (16, .int .i64 y13)]) (by kernel_rfl) ?_
              refine WP.regionP [3, 8, 9, 10, 14, 15, 16] (L' := [(3, .int .u64 (IntKind.u64.wrap ((Go.bits .xor .u64 y12 (IntKind.u64.wrap ((l0.getD y4.toNat []).getD y13.toNat 0))) * 1099511628211))), (8, .slice Al0 l0.length cl0), (9, .int .i64 (l0.length : Int)), (10, .int .i64 y4), (14, .slice Ae9 (l0.getD y4.toNat []).length ce9), (15, .int .i64 ((l0.getD y4.toNat []).length : Int)), (16, .int .i64 y13)]) (by kernel_rfl) ?_
              refine QP.blockN ?_
              refine QP.next ?_
              refine WP.pick [3, 8, 9, 10, 14, 15, 16] ?_
              refine WP.regionP [3, 8, 9, 10, 14, 15, 16] (L' := [(3, .int .u64 (IntKind.u64.wrap ((Go.bits .xor .u64 y12 (IntKind.u64.wrap ((l0.getD y4.toNat []).getD y13.toNat 0))) * 1099511628211))), (8, .slice Al0 l0.length cl0), (9, .int .i64 (l0.length : Int)), (10, .int .i64 y4), (14, .slice Ae9 (l0.getD y4.toNat []).length ce9), (15, .int .i64 ((l0.getD y4.toNat []).length : Int)), (16, .int .i64 (IntKind.i64.wrap (y13 + 1)))]) (by kernel_rfl) ?_
              refine QP.pick [3, 8, 9, 10, 14, 15, 16] ?_
              exact QP.meet ⟨k15, Nat.lt_succ_self _, (IntKind.u64.wrap ((Go.bits .xor .u64 y12 (IntKind.u64.wrap ((l0.getD y4.toNat []).getD y13.toNat 0))) * 1099511628211)), (IntKind.i64.wrap (y13 + 1)), h, rfl, rfl, rfl⟩
            · replace hc := of_decide_eq_false hc
              rw [if_neg hc] at h
              have hc16 := hc
              clear hc
              refine WP.exit ?_
              refine QP.thenE ?_
              refine QP.thenE ?_
              refine QP.blockE ?_
              refine QP.pick [3, 8, 9, 10] ?_
              exact QP.meet ⟨_, Option.some.inj h, rfl, rfl, rfl⟩
        · rintro _ _ _ ⟨s10, rfl, rfl, rfl, rfl⟩
          clear h
          replace h := hk11
          refine QP.blockN ?_
          refine QP.next ?_
          refine WP.pick [3, 8, 9, 10] ?_
          refine WP.regionP [3, 8, 9, 10] (L' := [(3, .int .u64 s10), (8, .slice Al0 l0.length cl0), (9, .int .i64 (l0.length : Int)), (10, .int .i64 (IntKind.i64.wrap (y4 + 1)))]) (by kernel_rfl) ?_
          refine QP.pick [3, 8, 9, 10] ?_
          exact QP.meet ⟨k6, Nat.lt_succ_self _, s10, (IntKind.i64.wrap (y4 + 1)), h, rfl, rfl, rfl⟩
      · replace hc := of_decide_eq_false hc
        rw [if_neg hc] at h
        have hc7 := hc
        clear hc
        refine WP.exit ?_
        refine QP.thenE ?_
        refine QP.thenE ?_
        refine QP.blockE ?_
        refine QP.pick [3] ?_
        exact QP.meet ⟨_, Option.some.inj h, rfl, rfl, rfl⟩
  · rintro _ _ _ ⟨s1, rfl, rfl, rfl, rfl⟩
    clear h
    replace h := hk2
    refine QP.next ?_
    refine WP.pick [3] ?_
    refine WP.seqP [2] (L' := [(2, .int .u64 s1)]) (by kernel_rfl) ?_
    refine WP.ret ?_
    obtain rfl := Option.some.inj h
    exact QP.returned [2] [.int .u64 s1] _ (by kernel_rfl) (by kernel_rfl) (by kernel_rfl) (fun W hI => ⟨_, _, _, rfl, ⟨rfl, rfl, rfl⟩, hI⟩)

/-! ### grapevine/digest.All: function 15 -/
def digest_All_l1 (l0 : List Int) (y5 : Int) : Nat → (List Int) → Int → Option (List Int)
  | 0, _, _ => none
  | k + 1, y15, y16 => (if y16 ≥ 0 then (if 0 ≤ y16 then (if y15.length + ([IntKind.u8.wrap (shrK .u64 (l0.getD y5.toNat 0) y16)] : List Int).length ≤ 1073741824 then digest_All_l1 l0 y5 k (y15 ++ ([IntKind.u8.wrap (shrK .u64 (l0.getD y5.toNat 0) y16)] : List Int)) (IntKind.i64.wrap (y16 - 8)) else none) else none) else some y15)
def digest_All_l0 (l0 : List Int) : Nat → (List Int) → Bool → Int → Option ((List Int) × Bool)
  | 0, _, _, _ => none
  | k + 1, y3, y4, y5 => (if y5 < (l0.length : Int) then (if 0 ≤ y5 ∧ y5 < (l0.length : Int) then ((if y4 = true then some true else some ((l0.getD y5.toNat 0) != 0)).bind fun s10 => ((digest_All_l1 l0 y5 k y3 56).bind fun s13 => digest_All_l0 l0 k s13 s10 (IntKind.i64.wrap (y5 + 1)))) else none) else some (y3, y4))
def digest_All (k : Nat) (l0 : List Int) : Option Int := ((digest_All_l0 l0 k ([] : List Int) false 0).bind fun s1 => (if (!s1.2) = true then some 0 else ((digest_Of k ([s1.1] : List (List Int))).bind fun t34 => some t34)))
set_option maxHeartbeats 4000000 in
theorem digest_All_calls {B : World} {G : GMap} {Γ : List Chunk} {W : World} (k : Nat) (l0 : List Int) (Al0 : Option Addr) (cl0 : Nat) (Hl0 : Rd (kInt .u64) G Al0 cl0 l0) (r : Int) (h : digest_All k l0 = some r) (hI : Inv B G (Γ) W) :
    Calls Try.prog 15 [.slice Al0 l0.length cl0].toArray W (Ret B (fun v G' Γ' => v = .int .u64 r ∧ G = G' ∧ Γ = Γ')) := by
  refine calls_WP (Γ := Γ) (G := G) (B := B) Try.func15 rfl (by kernel_rfl) ?_ hI
  clear hI
  unfold digest_All at h
  refine WP.seqP [0] (L' := [(0, .slice Al0 l0.length cl0)]) (by kernel_rfl) ?_
  refine WP.seqP [0, 3] (L' := [(0, .slice Al0 l0.length cl0), (3, .slice none 0 0)]) (by kernel_rfl) ?_
  refine WP.seqP [0, 3, 4] (L' := [(0, .slice Al0 l0.length cl0), (3, .slice none 0 0), (4, .bool false)]) (by kernel_rfl) ?_
  refine WP.seq ?_
  refine WP.seqP [3, 4, 8, 9, 10] (L' := [(3, .slice none 0 0), (4, .bool false), (8, .slice Al0 l0.length cl0), (9, .int .i64 (l0.length : Int)), (10, .int .i64 0)]) (by kernel_rfl) ?_
  rw [Option.bind_eq_some_iff] at h
  obtain ⟨os1, h, hk2⟩ := h
  refine WP.cutQ (fun L' G' Γ' => ∃ s1 : (List Int) × Bool, s1 = os1 ∧ ∃ (As1_1 : Option Addr), ∃ (cs1_1 : Nat), ∃ (Cs1_1 : Chunk), L' = [(3, .slice As1_1 s1.1.length cs1_1), (4, .bool s1.2)] ∧ G = G' ∧ Cs1_1 :: Γ = Γ' ∧ Ow (kInt .u8) G As1_1 cs1_1 s1.1 Cs1_1) ?_ ?_
  · clear hk2
    refine WP.block ?_
    refine WP.addNil ?_
    refine WP.pick [3, 4, 8, 9, 10] ?_
    refine WP.loopF (fun k6 L' G' Γ' => ∃ (y3 : List Int), ∃ (y4 : Bool), ∃ (y5 : Int), digest_All_l0 l0 k6 y3 y4 y5 = some os1 ∧ ∃ (Ay3 : Option Addr), ∃ (cy3 : Nat), ∃ (Cy3 : Chunk), L' = [(3, .slice Ay3 y3.length cy3), (4, .bool y4), (8, .slice Al0 l0.length cl0), (9, .int .i64 (l0.length : Int)), (10, .int .i64 y5)] ∧ G = G' ∧ Cy3 :: Γ = Γ' ∧ Ow (kInt .u8) G Ay3 cy3 y3 Cy3) ?_ k ⟨([] : List Int), false, 0, h, none, 0, [], rfl, rfl, rfl, (Ow.nil _ _)⟩
    clear h
    rintro k7 _ _ _ ⟨y3, y4, y5, h, Ay3, cy3, Cy3, rfl, rfl, rfl, Hy3⟩
    cases k7 with
    | zero => exact absurd h (by simp [digest_All_l0])
    | succ k7 =>
      simp only [digest_All_l0] at h
      refine WP.seqP [3, 4, 8, 9, 10, 11] (L' := [(3, .slice Ay3 y3.length cy3), (4, .bool y4), (8, .slice Al0 l0.length cl0), (9, .int .i64 (l0.length : Int)), (10, .int .i64 y5), (11, .bool (decide (y5 < (l0.length : Int))))]) (by kernel_rfl) ?_
      refine WP.seq ?_
      refine WP.cond (b := decide (y5 < (l0.length : Int))) (by kernel_rfl) (fun hc => ?_) (fun hc => ?_)
      · replace hc := of_decide_eq_true hc
        rw [if_pos hc] at h
        have hc8 := hc
        clear hc
        refine WP.skip ?_
        refine QP.next ?_
        refine WP.pick [3, 4, 8, 9, 10] ?_
        refine WP.seq ?_
        refine WP.block ?_
        refine WP.seqR ?_
        by_cases hb9 : 0 ≤ y5 ∧ y5 < (l0.length : Int)
        case neg => rw [if_neg hb9] at h; cases h
        rw [if_pos hb9] at h
        refine WL.tell (op := .indexAddr 23 (.tmp 8) (.tmp 10)) (ty := 0) (d := some 12) (g := none) (by kernel_rfl) (by kernel_rfl) (by kernel_rfl) (Tells.indexAddr (A := Al0) (n := l0.length) (c := cl0) (k := .i64) (j := y5) (by kernel_rfl) (by kernel_rfl) (Hl0.isSome hb9.1 hb9.2) hb9.1 hb9.2 sl23) ?_
        refine WL.tellE (op := .load 26 (.tmp 12)) (ty := 26) (d := some 13) (g := none) (by kernel_rfl) (by kernel_rfl) (by kernel_rfl) (Hl0.load (agg := false) hb9.1 hb9.2 0 ag26 (fun _ => rfl) (by kernel_rfl)) ?_
        rintro _ rfl
        refine WL.restQ 2 [3, 4, 6, 8, 9, 10] (L' := [(3, .slice Ay3 y3.length cy3), (4, .bool y4), (6, .int .u64 (l0.getD y5.toNat 0)), (8, .slice Al0 l0.length cl0), (9, .int .i64 (l0.length : Int)), (10, .int .i64 y5)]) (by kernel_rfl) ?_
        rw [Option.bind_eq_some_iff] at h
        obtain ⟨os10, h, hk11⟩ := h
        refine WP.cut (fun L' G' Γ' => ∃ s10 : Bool, s10 = os10 ∧ L' = [(3, .slice Ay3 y3.length cy3), (4, .bool s10), (6, .int .u64 (l0.getD y5.toNat 0)), (8, .slice Al0 l0.length cl0), (9, .int .i64 (l0.length : Int)), (10, .int .i64 y5)] ∧ G = G' ∧ Cy3 :: Γ = Γ') ?_ ?_
        · clear hk11
          refine WP.region ?_
          refine WL.pure 0 2 [3, 4, 6, 8, 9, 10, 15] (L' := [(3, .slice Ay3 y3.length cy3), (4, .bool y4), (6, .int .u64 (l0.getD y5.toNat 0)), (8, .slice Al0 l0.length cl0), (9, .int .i64 (l0.length : Int)), (10, .int .i64 y5), (15, .bool y4)]) (by kernel_rfl) (by decide) ?_
          refine WL.split 15 (b := y4) (by kernel_rfl) (fun hc => ?_) (fun hc => ?_)
          · replace hc := hc
            rw [if_pos hc] at h
            have hc12 := hc
            clear hc
            refine WL.rest 2 [3, 4, 6, 8, 9, 10] (L' := [(3, .slice Ay3 y3.length cy3), (4, .bool true), (6, .int .u64 (l0.getD y5.toNat 0)), (8, .slice Al0 l0.length cl0), (9, .int .i64 (l0.length : Int)), (10, .int .i64 y5)]) (by kernel_rfl) ?_
            refine QP.pick [3, 4, 6, 8, 9, 10] ?_
            exact QP.meet ⟨_, Option.some.inj h, rfl, rfl, rfl⟩
          · replace hc := (Bool.eq_false_iff.1 hc)
            rw [if_neg hc] at h
            have hc12 := hc
            clear hc
            refine WL.rest 2 [3, 4, 6, 8, 9, 10] (L' := [(3, .slice Ay3 y3.length cy3), (4, .bool ((l0.getD y5.toNat 0) != 0)), (6, .int .u64 (l0.getD y5.toNat 0)), (8, .slice Al0 l0.length cl0), (9, .int .i64 (l0.length : Int)), (10, .int .i64 y5)]) (by kernel_rfl) ?_
            refine QP.pick [3, 4, 6, 8, 9, 10] ?_
            exact QP.meet ⟨_, Option.some.inj h, rfl, rfl, rfl⟩
        · rintro _ _ _ ⟨s10, rfl, rfl, rfl, rfl⟩
          clear h
          replace h := hk11
          refine WP.seqP [3, 4, 6, 7, 8, 9, 10] (L' := [(3, .slice Ay3 y3.length cy3), (4, .bool s10), (6, .int .u64 (l0.getD y5.toNat 0)), (7, .int .i64 56), (8, .slice Al0 l0.length cl0), (9, .int .i64 (l0.length : Int)), (10, .int .i64 y5)]) (by kernel_rfl) ?_
          rw [Option.bind_eq_some_iff] at h
          obtain ⟨os13, h, hk14⟩ := h
          refine WP.cutQ (fun L' G' Γ' => ∃ s13 : (List Int), s13 = os13 ∧ ∃ (As13 : Option Addr), ∃ (cs13 : Nat), ∃ (Cs13 : Chunk), L' = [(3, .slice As13 s13.length cs13), (4, .bool s10), (8, .slice Al0 l0.length cl0), (9, .int .i64 (l0.length : Int)), (10, .int .i64 y5)] ∧ G = G' ∧ Cs13 :: Γ = Γ' ∧ Ow (kInt .u8) G As13 cs13 s13 Cs13) ?_ ?_
          · clear hk14
            refine WP.block ?_
            refine WP.pick [3, 4, 6, 7, 8, 9, 10] ?_
            refine WP.loopF (fun k17 L' G' Γ' => ∃ (y15 : List Int), ∃ (y16 : Int), digest_All_l1 l0 y5 k17 y15 y16 = some os13 ∧ ∃ (Ay15 : Option Addr), ∃ (cy15 : Nat), ∃ (Cy15 : Chunk), L' = [(3, .slice Ay15 y15.length cy15), (4, .bool s10), (6, .int .u64 (l0.getD y5.toNat 0)), (7, .int .i64 y16), (8, .slice Al0 l0.length cl0), (9, .int .i64 (l0.length : Int)), (10, .int .i64 y5)] ∧ G = G' ∧ Cy15 :: Γ = Γ' ∧ Ow (kInt .u8) G Ay15 cy15 y15 Cy15) ?_ k7 ⟨y3, 56, h, Ay3, cy3, Cy3, rfl, rfl, rfl, Hy3⟩
            clear h
            rintro k18 _ _ _ ⟨y15, y16, h, Ay15, cy15, Cy15, rfl, rfl, rfl, Hy15⟩
            cases k18 with
            | zero => exact absurd h (by simp [digest_All_l1])
            | succ k18 =>
              simp only [digest_All_l1] at h
              refine WP.seq ?_
              refine WP.seqP [3, 4, 6, 7, 8, 9, 10, 20] (L' := [(3, .slice Ay15 y15.length cy15), (4, .bool s10), (6, .int .u64 (l0.getD y5.toNat 0)), (7, .int .i64 y16), (8, .slice Al0 l0.length cl0), (9, .int .i64 (l0.length : Int)), (10, .int .i64 y5), (20, .bool (decide (y16 ≥ 0)))]) (by kernel_rfl) ?_
              refine WP.cond (b := decide (y16 ≥ 0)) (by kernel_rfl) (fun hc => ?_) (fun hc => ?_)
              · replace hc := of_decide_eq_true hc
                rw [if_pos hc] at h
                have hc19 := hc
                clear hc
                refine WP.skip ?_
                refine QP.next ?_
                refine WP.pick [3, 4, 6, 7, 8, 9, 10] ?_
                refine WP.seq ?_
                refine WP.block ?_
                refine WP.region ?_
                refine WL.pure 0 3 [3, 4, 6, 7, 8, 9, 10, 23, 24, 25] (L' := [(3, .slice Ay15 y15.length cy15), (4, .bool s10), (6, .int .u64 (l0.getD y5.toNat 0)), (7, .int .i64 y16), (8, .slice Al0 l0.length cl0), (9, .int .i64 (l0.length : Int)), (10, .int .i64 y5), (23, .slice Ay15 y15.length cy15), (24, .int .u64 (l0.getD y5.toNat 0)), (25, .int .i64 y16)]) (by kernel_rfl) (by decide) ?_
                by_cases hb20 : 0 ≤ y16
                case neg => rw [if_neg hb20] at h; cases h
                rw [if_pos hb20] at h
                refine WL.tell (op := .binOp .shr 26 (.tmp 24) (.tmp 25) 3) (ty := 26) (d := some 26) (g := none) (by kernel_rfl) (by kernel_rfl) (by kernel_rfl) (Tells.shr (k := .u64) (k' := .i64) (a := (l0.getD y5.toNat 0)) (b := y16) (by kernel_rfl) (by kernel_rfl) hb20) ?_
                refine WL.pure 4 5 [3, 4, 6, 7, 8, 9, 10, 23, 27] (L' := [(3, .slice Ay15 y15.length cy15), (4, .bool s10), (6, .int .u64 (l0.getD y5.toNat 0)), (7, .int .i64 y16), (8, .slice Al0 l0.length cl0), (9, .int .i64 (l0.length : Int)), (10, .int .i64 y5), (23, .slice Ay15 y15.length cy15), (27, .int .u8 (IntKind.u8.wrap (shrK .u64 (l0.getD y5.toNat 0) y16)))]) (by kernel_rfl) (by decide) ?_
                refine WL.op (op := .buildSlice 32 1 #[(0, (.tmp 27))]) (ty := 32) (d := some 28) (g := none) (by kernel_rfl) (by kernel_rfl) (by kernel_rfl) (Does.new (o := .cells #[.int .u8 (IntKind.u8.wrap (shrK .u64 (l0.getD y5.toNat 0) y16))] 5 (0, 0)) (v := fun r => .slice (some ⟨r, 0, none⟩) 1 1) (fun r => by kernel_rfl)) ?_
                rintro _ _ _ ⟨b21, rfl, rfl, rfl⟩
                have Ho23 : Ow (kInt .u8) G (some ⟨b21, 0, none⟩) 1 ([IntKind.u8.wrap (shrK .u64 (l0.getD y5.toNat 0) y16)] : List Int) [(b21, .cells #[.int .u8 (IntKind.u8.wrap (shrK .u64 (l0.getD y5.toNat 0) y16))] 5 (0, 0))] := Ow.lit (kd := (kInt .u8)) (G := G) (b := b21) (T := 5) (xs := ([IntKind.u8.wrap (shrK .u64 (l0.getD y5.toNat 0) y16)] : List Int)) (cs := [.int .u8 (IntKind.u8.wrap (shrK .u64 (l0.getD y5.toNat 0) y16))]) (.cons (x := (IntKind.u8.wrap (shrK .u64 (l0.getD y5.toNat 0) y16))) (cs := [.int .u8 (IntKind.u8.wrap (shrK .u64 (l0.getD y5.toNat 0) y16))]) (by exact rfl) .nil)
                by_cases hb24 : y15.length + ([IntKind.u8.wrap (shrK .u64 (l0.getD y5.toNat 0) y16)] : List Int).length ≤ 1073741824
                case neg => rw [if_neg hb24] at h; cases h
                rw [if_pos hb24] at h
                refine WL.op (op := .call { callee := (.builtin .append), args := #[(.tmp 23), (.tmp 28)], argTypes := #[32, 32] }) (ty := 32) (d := some 29) (g := none) (by kernel_rfl) (by kernel_rfl) (by kernel_rfl) (Ow.append (ys := ([IntKind.u8.wrap (shrK .u64 (l0.getD y5.toNat 0) y16)] : List Int)) (v := .slice (some ⟨b21, 0, none⟩) ([IntKind.u8.wrap (shrK .u64 (l0.getD y5.toNat 0) y16)] : List Int).length 1) Hy15 (i := 1) rfl (by kernel_rfl) (by kernel_rfl) (Ho23.src (i := 0) rfl) sl32 ze5 nt32 (by decide) hb24) ?_
                rintro _ _ _ ⟨rfl, AN25, cN25, CN25, rfl, HN25, rfl⟩
                refine WL.rest 7 [3, 4, 6, 7, 8, 9, 10] (L' := [(3, .slice AN25 (y15 ++ ([IntKind.u8.wrap (shrK .u64 (l0.getD y5.toNat 0) y16)] : List Int)).length cN25), (4, .bool s10), (6, .int .u64 (l0.getD y5.toNat 0)), (7, .int .i64 y16), (8, .slice Al0 l0.length cl0), (9, .int .i64 (l0.length : Int)), (10, .int .i64 y5)]) (by kernel_rfl) ?_
                refine QP.blockN ?_
                refine QP.next ?_
                refine WP.pick [3, 4, 6, 7, 8, 9, 10] ?_
                refine WP.regionP [3, 4, 6, 7, 8, 9, 10] (L' := [(3, .slice AN25 (y15 ++ ([IntKind.u8.wrap (shrK .u64 (l0.getD y5.toNat 0) y16)] : List Int)).length cN25), (4, .bool s10), (6, .int .u64 (l0.getD y5.toNat 0)), (7, .int .i64 (IntKind.i64.wrap (y16 - 8))), (8, .slice Al0 l0.length cl0), (9, .int .i64 (l0.length : Int)), (10, .int .i64 y5)]) (by kernel_rfl) ?_
                refine QP.dropAt 0 ?_
                refine QP.pick [3, 4, 6, 7, 8, 9, 10] ?_
                exact QP.meet ⟨k18, Nat.lt_succ_self _, (y15 ++ ([IntKind.u8.wrap (shrK .u64 (l0.getD y5.toNat 0) y16)] : List Int)), (IntKind.i64.wrap (y16 - 8)), h, AN25, cN25, CN25, rfl, rfl, rfl, HN25⟩
              · replace hc := of_decide_eq_false hc
                rw [if_neg hc] at h
                have hc19 := hc
                clear hc
                refine WP.exit ?_
                refine QP.thenE ?_
                refine QP.thenE ?_
                refine QP.blockE ?_
                refine QP.pick [3, 4, 8, 9, 10] ?_
                exact QP.meet ⟨_, Option.some.inj h, Ay15, cy15, Cy15, rfl, rfl, rfl, Hy15⟩
          · rintro _ _ _ ⟨s13, rfl, As13, cs13, Cs13, rfl, rfl, rfl, Hs13⟩
            clear h
            replace h := hk14
            refine QP.blockN ?_
            refine QP.next ?_
            refine WP.pick [3, 4, 8, 9, 10] ?_
            refine WP.regionP [3, 4, 8, 9, 10] (L' := [(3, .slice As13 s13.length cs13), (4, .bool s10), (8, .slice Al0 l0.length cl0), (9, .int .i64 (l0.length : Int)), (10, .int .i64 (IntKind.i64.wrap (y5 + 1)))]) (by kernel_rfl) ?_
            refine QP.pick [3, 4, 8, 9, 10] ?_
            exact QP.meet ⟨k7, Nat.lt_succ_self _, s13, s10, (IntKind.i64.wrap (y5 + 1)), h, As13, cs13, Cs13, rfl, rfl, rfl, Hs13⟩
      · replace hc := of_decide_eq_false hc
        rw [if_neg hc] at h
        have hc8 := hc
        clear hc
        refine WP.exit ?_
        refine QP.thenE ?_
        refine QP.thenE ?_
        refine QP.blockE ?_
        refine QP.pick [3, 4] ?_
        exact QP.meet ⟨_, Option.some.inj h, Ay3, cy3, Cy3, rfl, rfl, rfl, Hy3⟩
  · rintro _ _ _ ⟨s1, rfl, As1_1, cs1_1, Cs1_1, rfl, rfl, rfl, Hs1_1⟩
    clear h
    replace h := hk2
    refine QP.next ?_
    refine WP.pick [3, 4] ?_
    refine WP.seq ?_
    refine WP.seqP [3, 32] (L' := [(3, .slice As1_1 s1.1.length cs1_1), (32, .bool (!s1.2))]) (by kernel_rfl) ?_
    refine WP.cond (b := (!s1.2)) (by kernel_rfl) (fun hc => ?_) (fun hc => ?_)
    · replace hc := hc
      rw [if_pos hc] at h
      have hc26 := hc
      clear hc
      refine WP.seqP [2] (L' := [(2, .int .u64 0)]) (by kernel_rfl) ?_
      refine WP.ret ?_
      refine QP.thenR ?_
      obtain rfl := Option.some.inj h
      refine QP.dropAt 0 ?_
      exact QP.returned [2] [.int .u64 0] _ (by kernel_rfl) (by kernel_rfl) (by kernel_rfl) (fun W hI => ⟨_, _, _, rfl, ⟨rfl, rfl, rfl⟩, hI⟩)
    · replace hc := (Bool.eq_false_iff.1 hc)
      rw [if_neg hc] at h
      have hc26 := hc
      clear hc
      refine WP.skip ?_
      refine QP.next ?_
      refine WP.pick [3] ?_
      refine WP.seqR ?_
      refine WL.pure 0 1 [33] (L' := [(33, .slice As1_1 s1.1.length cs1_1)]) (by kernel_rfl) (by decide) ?_
      refine WL.freeze (i := 0) rfl (fun G30 hG31 hle32 => ?_)
      have Hz33 := Hs1_1.rd (by rw [← hG31]; exact hle32)
      rw [← hG31] at Hz33
      refine WL.op (op := .buildSlice 22 1 #[(0, (.tmp 33))]) (ty := 22) (d := some 34) (g := none) (by kernel_rfl) (by kernel_rfl) (by kernel_rfl) (Does.new (o := .cells #[.slice As1_1 s1.1.length cs1_1] 32 (0, 0)) (v := fun r => .slice (some ⟨r, 0, none⟩) 1 1) (fun r => by kernel_rfl)) ?_
      rintro _ _ _ ⟨b27, rfl, rfl, rfl⟩
      have Ho29 : Ow (kSlice (kInt .u8)) G30 (some ⟨b27, 0, none⟩) 1 ([s1.1] : List (List Int)) [(b27, .cells #[.slice As1_1 s1.1.length cs1_1] 32 (0, 0))] := Ow.lit (kd := (kSlice (kInt .u8))) (G := G30) (b := b27) (T := 32) (xs := ([s1.1] : List (List Int))) (cs := [.slice As1_1 s1.1.length cs1_1]) (.cons (x := s1.1) (cs := [.slice As1_1 s1.1.length cs1_1]) ⟨As1_1, cs1_1, rfl, Hz33⟩ .nil)
      rw [Option.bind_eq_some_iff] at h
      obtain ⟨t34, ht35, h⟩ := h
      refine WL.op (op := .call { callee := (.value (.func 13)), args := #[(.tmp 34)], argTypes := #[22] }) (ty := 26) (d := some 35) (g := none) (by kernel_rfl) (by kernel_rfl) (by kernel_rfl) (Does.call (Φ := fun v' G' Γ' => v' = .int .u64 t34 ∧ G30 = G' ∧ [(b27, .cells #[.slice As1_1 s1.1.length cs1_1] 32 (0, 0))] :: [] :: Γ = Γ') (f := 13) (args := [.slice (some ⟨b27, 0, none⟩) ([s1.1] : List (List Int)).length 1]) (by kernel_rfl) (fun W hI => Calls.lend (i := 0) rfl (Ow.nodup Ho29) hI (fun _ e l36 hI => by subst e; exact (digest_Of_calls k ([s1.1] : List (List Int)) (some ⟨b27, 0, none⟩) 1 (Ho29.rd l36) t34 ht35 hI)))) ?_
      rintro _ _ _ ⟨rfl, rfl, rfl⟩
      refine WL.restQ 3 [2] (L' := [(2, .int .u64 t34)]) (by kernel_rfl) ?_
      refine WP.ret ?_
      obtain rfl := Option.some.inj h
      refine QP.dropAt 1 ?_
      refine QP.dropAt 0 ?_
      refine QP.lower hle32 ?_
      exact QP.returned [2] [.int .u64 t34] _ (by kernel_rfl) (by kernel_rfl) (by kernel_rfl) (fun W hI => ⟨_, _, _, rfl, ⟨rfl, rfl, rfl⟩, hI⟩)

/-! ### grapevine/grapevinelaw5.awake: function 12 -/
def grapevinelaw5_awake (k : Nat) : Option Bool := (((digest_Of k ([] : List (List Int))).bind fun t3 => (if t3 = 14695981039346656037 then ((digest_Of k ([([97] : List Int)] : List (List Int))).bind fun t18 => (if t18 = 12638187200555641996 then ((digest_All k ([] : List Int)).bind fun t22 => (if t22 = 0 then ((digest_All k ([0, 0] : List Int)).bind fun t28 => (if t28 = 0 then ((digest_All k ([0, 1] : List Int)).bind fun t35 => some (t35 != 0)) else some false)) else some false)) else some false)) else some false)).bind fun s1 => some s1)
set_option maxHeartbeats 4000000 in
theorem grapevinelaw5_awake_calls {B : World} {G : GMap} {Γ : List Chunk} {W : World} (k : Nat) (r : Bool) (h : grapevinelaw5_awake k  = some r) (hI : Inv B G (Γ) W) :
    Calls Try.prog 12 [].toArray W (Ret B (fun v G' Γ' => v = .bool r ∧ G = G' ∧ Γ = Γ')) := by
  refine calls_WP (Γ := Γ) (G := G) (B := B) Try.func12 rfl (by kernel_rfl) ?_ hI
  clear hI
  unfold grapevinelaw5_awake at h
  refine WP.seqP [] (L' := []) (by kernel_rfl) ?_
  rw [Option.bind_eq_some_iff] at h
  obtain ⟨os1, h, hk2⟩ := h
  refine WP.cut (fun L' G' Γ' => ∃ s1 : Bool, s1 = os1 ∧ L' = [(0, .bool s1)] ∧ G = G' ∧ Γ = Γ') ?_ ?_
  · clear hk2
    refine WP.region ?_
    rw [Option.bind_eq_some_iff] at h
    obtain ⟨t3, ht4, h⟩ := h
    refine WL.op (op := .call { callee := (.value (.func 13)), args := #[(.const (.slice none 0 0))], argTypes := #[22] }) (ty := 26) (d := some 1) (g := none) (by kernel_rfl) (by kernel_rfl) (by kernel_rfl) (Does.call (f := 13) (args := [.slice none 0 0]) (by kernel_rfl) (fun W hI => (digest_Of_calls k ([] : List (List Int)) none 0 (Rd.nil _ _ _ _) t3 ht4 hI))) ?_
    rintro _ _ _ ⟨rfl, rfl, rfl⟩
    refine WL.pure 1 3 [3] (L' := [(3, .bool (t3 == 14695981039346656037))]) (by kernel_rfl) (by decide) ?_
    refine WL.split 3 (b := (t3 == 14695981039346656037)) (by kernel_rfl) (fun hc => ?_) (fun hc => ?_)
    · replace hc := eq_of_beq hc
      rw [if_pos hc] at h
      have hc5 := hc
      clear hc
      refine WL.op (op := .buildSlice 32 1 #[(0, (.const (.int .u8 97)))]) (ty := 32) (d := some 4) (g := some (2, true)) (by kernel_rfl) (by kernel_rfl) (by kernel_rfl) (Does.new (o := .cells #[.int .u8 97] 5 (0, 0)) (v := fun r => .slice (some ⟨r, 0, none⟩) 1 1) (fun r => by kernel_rfl)) ?_
      rintro _ _ _ ⟨b6, rfl, rfl, rfl⟩
      have Ho8 : Ow (kInt .u8) G (some ⟨b6, 0, none⟩) 1 ([97] : List Int) [(b6, .cells #[.int .u8 97] 5 (0, 0))] := Ow.lit (kd := (kInt .u8)) (G := G) (b := b6) (T := 5) (xs := ([97] : List Int)) (cs := [.int .u8 97]) (.cons (x := 97) (cs := [.int .u8 97]) (by exact rfl) .nil)
      refine WL.op (op := .convert 32 32 (.tmp 4)) (ty := 32) (d := some 5) (g := some (2, true)) (by kernel_rfl) (by kernel_rfl) (by kernel_rfl) (Ho8.mark (by rfl) (i := 0) rfl (by kernel_rfl) by32) ?_
      rintro _ _ _ ⟨rfl, CM9, rfl, HM9, rfl⟩
      refine WL.freeze (i := 0) rfl (fun G13 hG14 hle15 => ?_)
      have Hz16 := HM9.rd (by rw [← hG14]; exact hle15)
      rw [← hG14] at Hz16
      have Hm17 := Ho8.mono hle15
      refine WL.op (op := .buildSlice 22 1 #[(0, (.tmp 5))]) (ty := 22) (d := some 6) (g := some (2, true)) (by kernel_rfl) (by kernel_rfl) (by kernel_rfl) (Does.new (o := .cells #[.slice (some ⟨b6, 0, none⟩) ([97] : List Int).length 1] 32 (0, 0)) (v := fun r => .slice (some ⟨r, 0, none⟩) 1 1) (fun r => by kernel_rfl)) ?_
      rintro _ _ _ ⟨b10, rfl, rfl, rfl⟩
      have Ho12 : Ow (kSlice (kInt .u8)) G13 (some ⟨b10, 0, none⟩) 1 ([([97] : List Int)] : List (List Int)) [(b10, .cells #[.slice (some ⟨b6, 0, none⟩) ([97] : List Int).length 1] 32 (0, 0))] := Ow.lit (kd := (kSlice (kInt .u8))) (G := G13) (b := b10) (T := 32) (xs := ([([97] : List Int)] : List (List Int))) (cs := [.slice (some ⟨b6, 0, none⟩) ([97] : List Int).length 1]) (.cons (x := ([97] : List Int)) (cs := [.slice (some ⟨b6, 0, none⟩) ([97] : List Int).length 1]) ⟨(some ⟨b6, 0, none⟩), 1, rfl, Hz16⟩ .nil)
      rw [Option.bind_eq_some_iff] at h
      obtain ⟨t18, ht19, h⟩ := h
      refine WL.op (op := .call { callee := (.value (.func 13)), args := #[(.tmp 6)], argTypes := #[22] }) (ty := 26) (d := some 7) (g := some (2, true)) (by kernel_rfl) (by kernel_rfl) (by kernel_rfl) (Does.call (Φ := fun v' G' Γ' => v' = .int .u64 t18 ∧ G13 = G' ∧ [(b10, .cells #[.slice (some ⟨b6, 0, none⟩) ([97] : List Int).length 1] 32 (0, 0))] :: [] :: Γ = Γ') (f := 13) (args := [.slice (some ⟨b10, 0, none⟩) ([([97] : List Int)] : List (List Int)).length 1]) (by kernel_rfl) (fun W hI => Calls.lend (i := 0) rfl (Ow.nodup Ho12) hI (fun _ e l20 hI => by subst e; exact (digest_Of_calls k ([([97] : List Int)] : List (List Int)) (some ⟨b10, 0, none⟩) 1 (Ho12.rd l20) t18 ht19 hI)))) ?_
      rintro _ _ _ ⟨rfl, rfl, rfl⟩
      refine WL.pure 7 10 [10] (L' := [(10, .bool (t18 == 12638187200555641996))]) (by kernel_rfl) (by decide) ?_
      refine WL.split 10 (b := (t18 == 12638187200555641996)) (by kernel_rfl) (fun hc => ?_) (fun hc => ?_)
      · replace hc := eq_of_beq hc
        rw [if_pos hc] at h
        have hc21 := hc
        clear hc
        rw [Option.bind_eq_some_iff] at h
        obtain ⟨t22, ht23, h⟩ := h
        refine WL.op (op := .call { callee := (.value (.func 15)), args := #[(.const (.slice none 0 0))], argTypes := #[23] }) (ty := 26) (d := some 11) (g := some (9, true)) (by kernel_rfl) (by kernel_rfl) (by kernel_rfl) (Does.call (f := 15) (args := [.slice none 0 0]) (by kernel_rfl) (fun W hI => (digest_All_calls k ([] : List Int) none 0 (Rd.nil _ _ _ _) t22 ht23 hI))) ?_
        rintro _ _ _ ⟨rfl, rfl, rfl⟩
        refine WL.pure 11 14 [14] (L' := [(14, .bool (t22 == 0))]) (by kernel_rfl) (by decide) ?_
        refine WL.split 14 (b := (t22 == 0)) (by kernel_rfl) (fun hc => ?_) (fun hc => ?_)
        · replace hc := eq_of_beq hc
          rw [if_pos hc] at h
          have hc24 := hc
          clear hc
          refine WL.op (op := .buildSlice 23 2 #[(0, (.const (.int .u64 0))), (1, (.const (.int .u64 0)))]) (ty := 23) (d := some 15) (g := some (13, true)) (by kernel_rfl) (by kernel_rfl) (by kernel_rfl) (Does.new (o := .cells #[.int .u64 0, .int .u64 0] 26 (0, 0)) (v := fun r => .slice (some ⟨r, 0, none⟩) 2 2) (fun r => by kernel_rfl)) ?_
          rintro _ _ _ ⟨b25, rfl, rfl, rfl⟩
          have Ho27 : Ow (kInt .u64) G13 (some ⟨b25, 0, none⟩) 2 ([0, 0] : List Int) [(b25, .cells #[.int .u64 0, .int .u64 0] 26 (0, 0))] := Ow.lit (kd := (kInt .u64)) (G := G13) (b := b25) (T := 26) (xs := ([0, 0] : List Int)) (cs := [.int .u64 0, .int .u64 0]) (.cons (x := 0) (cs := [.int .u64 0]) (by exact rfl) (.cons (x := 0) (cs := [.int .u64 0]) (by exact rfl) .nil))
          rw [Option.bind_eq_some_iff] at h
          obtain ⟨t28, ht29, h⟩ := h
          refine WL.op (op := .call { callee := (.value (.func 15)), args := #[(.tmp 15)], argTypes := #[23] }) (ty := 26) (d := some 16) (g := some (13, true)) (by kernel_rfl) (by kernel_rfl) (by kernel_rfl) (Does.call (Φ := fun v' G' Γ' => v' = .int .u64 t28 ∧ G13 = G' ∧ [(b25, .cells #[.int .u64 0, .int .u64 0] 26 (0, 0))] :: [(b10, .cells #[.slice (some ⟨b6, 0, none⟩) ([97] : List Int).length 1] 32 (0, 0))] :: [] :: Γ = Γ') (f := 15) (args := [.slice (some ⟨b25, 0, none⟩) ([0, 0] : List Int).length 2]) (by kernel_rfl) (fun W hI => Calls.lend (i := 0) rfl (Ow.nodup Ho27) hI (fun _ e l30 hI => by subst e; exact (digest_All_calls k ([0, 0] : List Int) (some ⟨b25, 0, none⟩) 2 (Ho27.rd l30) t28 ht29 hI)))) ?_
          rintro _ _ _ ⟨rfl, rfl, rfl⟩
          refine WL.pure 16 19 [19] (L' := [(19, .bool (t28 == 0))]) (by kernel_rfl) (by decide) ?_
          refine WL.split 19 (b := (t28 == 0)) (by kernel_rfl) (fun hc => ?_) (fun hc => ?_)
          · replace hc := eq_of_beq hc
            rw [if_pos hc] at h
            have hc31 := hc
            clear hc
            refine WL.op (op := .buildSlice 23 2 #[(0, (.const (.int .u64 0))), (1, (.const (.int .u64 1)))]) (ty := 23) (d := some 20) (g := some (18, true)) (by kernel_rfl) (by kernel_rfl) (by kernel_rfl) (Does.new (o := .cells #[.int .u64 0, .int .u64 1] 26 (0, 0)) (v := fun r => .slice (some ⟨r, 0, none⟩) 2 2) (fun r => by kernel_rfl)) ?_
            rintro _ _ _ ⟨b32, rfl, rfl, rfl⟩
            have Ho34 : Ow (kInt .u64) G13 (some ⟨b32, 0, none⟩) 2 ([0, 1] : List Int) [(b32, .cells #[.int .u64 0, .int .u64 1] 26 (0, 0))] := Ow.lit (kd := (kInt .u64)) (G := G13) (b := b32) (T := 26) (xs := ([0, 1] : List Int)) (cs := [.int .u64 0, .int .u64 1]) (.cons (x := 0) (cs := [.int .u64 0]) (by exact rfl) (.cons (x := 1) (cs := [.int .u64 1]) (by exact rfl) .nil))
            rw [Option.bind_eq_some_iff] at h
            obtain ⟨t35, ht36, h⟩ := h
            refine WL.op (op := .call { callee := (.value (.func 15)), args := #[(.tmp 20)], argTypes := #[23] }) (ty := 26) (d := some 21) (g := some (18, true)) (by kernel_rfl) (by kernel_rfl) (by kernel_rfl) (Does.call (Φ := fun v' G' Γ' => v' = .int .u64 t35 ∧ G13 = G' ∧ [(b32, .cells #[.int .u64 0, .int .u64 1] 26 (0, 0))] :: [(b25, .cells #[.int .u64 0, .int .u64 0] 26 (0, 0))] :: [(b10, .cells #[.slice (some ⟨b6, 0, none⟩) ([97] : List Int).length 1] 32 (0, 0))] :: [] :: Γ = Γ') (f := 15) (args := [.slice (some ⟨b32, 0, none⟩) ([0, 1] : List Int).length 2]) (by kernel_rfl) (fun W hI => Calls.lend (i := 0) rfl (Ow.nodup Ho34) hI (fun _ e l37 hI => by subst e; exact (digest_All_calls k ([0, 1] : List Int) (some ⟨b32, 0, none⟩) 2 (Ho34.rd l37) t35 ht36 hI)))) ?_
            rintro _ _ _ ⟨rfl, rfl, rfl⟩
            refine WL.rest 21 [0] (L' := [(0, .bool (t35 != 0))]) (by kernel_rfl) ?_
            refine QP.dropAt 3 ?_
            refine QP.dropAt 2 ?_
            refine QP.dropAt 1 ?_
            refine QP.dropAt 0 ?_
            refine QP.lower hle15 ?_
            refine QP.pick [0] ?_
            exact QP.meet ⟨_, Option.some.inj h, rfl, rfl, rfl⟩
          · replace hc := ne_of_beq_false hc
            rw [if_neg hc] at h
            have hc31 := hc
            clear hc
            refine WL.rest 19 [0] (L' := [(0, .bool false)]) (by kernel_rfl) ?_
            refine QP.dropAt 2 ?_
            refine QP.dropAt 1 ?_
            refine QP.dropAt 0 ?_
            refine QP.lower hle15 ?_
            refine QP.pick [0] ?_
            exact QP.meet ⟨_, Option.some.inj h, rfl, rfl, rfl⟩
        · replace hc := ne_of_beq_false hc
          rw [if_neg hc] at h
          have hc24 := hc
          clear hc
          refine WL.rest 14 [0] (L' := [(0, .bool false)]) (by kernel_rfl) ?_
          refine QP.dropAt 1 ?_
          refine QP.dropAt 0 ?_
          refine QP.lower hle15 ?_
          refine QP.pick [0] ?_
          exact QP.meet ⟨_, Option.some.inj h, rfl, rfl, rfl⟩
      · replace hc := ne_of_beq_false hc
        rw [if_neg hc] at h
        have hc21 := hc
        clear hc
        refine WL.rest 10 [0] (L' := [(0, .bool false)]) (by kernel_rfl) ?_
        refine QP.dropAt 1 ?_
        refine QP.dropAt 0 ?_
        refine QP.lower hle15 ?_
        refine QP.pick [0] ?_
        exact QP.meet ⟨_, Option.some.inj h, rfl, rfl, rfl⟩
    · replace hc := ne_of_beq_false hc
      rw [if_neg hc] at h
      have hc5 := hc
      clear hc
      refine WL.rest 3 [0] (L' := [(0, .bool false)]) (by kernel_rfl) ?_
      refine QP.pick [0] ?_
      exact QP.meet ⟨_, Option.some.inj h, rfl, rfl, rfl⟩
  · rintro _ _ _ ⟨s1, rfl, rfl, rfl, rfl⟩
    clear h
    replace h := hk2
    refine WP.ret ?_
    obtain rfl := Option.some.inj h
    exact QP.returned [0] [.bool s1] _ (by kernel_rfl) (by kernel_rfl) (by kernel_rfl) (fun W hI => ⟨_, _, _, rfl, ⟨rfl, rfl, rfl⟩, hI⟩)

/-! ### grapevine/grapevineref5.more: function 30 -/
def grapevineref5_more_l0 (l1 : List Int) : Nat → Int → Int → Option Int
  | 0, _, _ => none
  | k + 1, y3, y4 => (if y4 < (l1.length : Int) then (if 0 ≤ y4 ∧ y4 < (l1.length : Int) then grapevineref5_more_l0 l1 k (IntKind.u64.wrap ((Go.bits .xor .u64 y3 (IntKind.u64.wrap (l1.getD y4.toNat 0))) * 1099511628211)) (IntKind.i64.wrap (y4 + 1)) else none) else some y3)
def grapevineref5_more (k : Nat) (a0 : Int) (l1 : List Int) : Option Int := ((grapevineref5_more_l0 l1 k a0 0).bind fun s1 => some s1)
set_option maxHeartbeats 4000000 in
theorem grapevineref5_more_calls {B : World} {G : GMap} {Γ : List Chunk} {W : World} (k : Nat) (a0 : Int) (l1 : List Int) (Al1 : Option Addr) (cl1 : Nat) (Hl1 : Rd (kInt .u8) G Al1 cl1 l1) (r : Int) (h : grapevineref5_more k a0 l1 = some r) (hI : Inv B G (Γ) W) :
    Calls Try.prog 30 [.int .u64 a0, .slice Al1 l1.length cl1].toArray W (Ret B (fun v G' Γ' => v = .int .u64 r ∧ G = G' ∧ Γ = Γ')) := by
  refine calls_WP (Γ := Γ) (G := G) (B := B) Try.func30 rfl (by kernel_rfl) ?_ hI
  clear hI
  unfold grapevineref5_more at h
  refine WP.seqP [0, 1] (L' := [(0, .int .u64 a0), (1, .slice Al1 l1.length cl1)]) (by kernel_rfl) ?_
  refine WP.seq ?_
  refine WP.seqP [0, 1, 5] (L' := [(0, .int .u64 a0), (1, .slice Al1 l1.length cl1), (5, .int .i64 0)]) (by kernel_rfl) ?_
  rw [Option.bind_eq_some_iff] at h
  obtain ⟨os1, h, hk2⟩ := h
  refine WP.cutQ (fun L' G' Γ' => ∃ s1 : Int, s1 = os1 ∧ L' = [(0, .int .u64 s1)] ∧ G = G' ∧ Γ = Γ') ?_ ?_
  · clear hk2
    refine WP.block ?_
    refine WP.pick [0, 1, 5] ?_
    refine WP.loopF (fun k5 L' G' Γ' => ∃ (y3 : Int), ∃ (y4 : Int), grapevineref5_more_l0 l1 k5 y3 y4 = some os1 ∧ L' = [(0, .int .u64 y3), (1, .slice Al1 l1.length cl1), (5, .int .i64 y4)] ∧ G = G' ∧ Γ = Γ') ?_ k ⟨a0, 0, h, rfl, rfl, rfl⟩
    clear h
    rintro k6 _ _ _ ⟨y3, y4, h, rfl, rfl, rfl⟩
    cases k6 with
    | zero => exact absurd h (by simp [grapevineref5_more_l0])
    | succ k6 =>
      simp only [grapevineref5_more_l0] at h
      refine WP.seq ?_
      refine WP.seqP [0, 1, 5, 9] (L' := [(0, .int .u64 y3), (1, .slice Al1 l1.length cl1), (5, .int .i64 y4), (9, .bool (decide (y4 < (l1.length : Int))))]) (by kernel_rfl) ?_
      refine WP.cond (b := decide (y4 < (l1.length : Int))) (by kernel_rfl) (fun hc => ?_) (fun hc => ?_)
      · replace hc := of_decide_eq_true hc
        rw [if_pos hc] at h
        have hc7 := hc
        clear hc
        refine WP.skip ?_
        refine QP.next ?_
        refine WP.pick [0, 1, 5] ?_
        refine WP.seq ?_
        refine WP.block ?_
        refine WP.region ?_
        refine WL.pure 0 3 [0, 1, 5, 12, 13, 14] (L' := [(0, .int .u64 y3), (1, .slice Al1 l1.length cl1), (5, .int .i64 y4), (12, .int .u64 y3), (13, .slice Al1 l1.length cl1), (14, .int .i64 y4)]) (by kernel_rfl) (by decide) ?_
        by_cases hb8 : 0 ≤ y4 ∧ y4 < (l1.length : Int)
        case neg => rw [if_neg hb8] at h; cases h
        rw [if_pos hb8] at h
        refine WL.tell (op := .indexAddr 32 (.tmp 13) (.tmp 14)) (ty := 0) (d := some 15) (g := none) (by kernel_rfl) (by kernel_rfl) (by kernel_rfl) (Tells.indexAddr (A := Al1) (n := l1.length) (c := cl1) (k := .i64) (j := y4) (by kernel_rfl) (by kernel_rfl) (Hl1.isSome hb8.1 hb8.2) hb8.1 hb8.2 sl32) ?_
        refine WL.tellE (op := .load 5 (.tmp 15)) (ty := 5) (d := some 16) (g := none) (by kernel_rfl) (by kernel_rfl) (by kernel_rfl) (Hl1.load (agg := false) hb8.1 hb8.2 0 ag5 (fun _ => rfl) (by kernel_rfl)) ?_
        rintro _ rfl
        refine WL.rest 5 [0, 1, 5] (L' := [(0, .int .u64 (IntKind.u64.wrap ((Go.bits .xor .u64 y3 (IntKind.u64.wrap (l1.getD y4.toNat 0))) * 1099511628211))), (1, .slice Al1 l1.length cl1), (5, .int .i64 y4)]) (by kernel_rfl) ?_
        refine QP.blockN ?_
        refine QP.next ?_
        refine WP.pick [0, 1, 5] ?_
        refine WP.regionP [0, 1, 5] (L' := [(0, .int .u64 (IntKind.u64.wrap ((Go.bits .xor .u64 y3 (IntKind.u64.wrap (l1.getD y4.toNat 0))) * 1099511628211))), (1, .slice Al1 l1.length cl1), (5, .int .i64 (IntKind.i64.wrap (y4 + 1)))]) (by kernel_rfl) ?_
        refine QP.pick [0, 1, 5] ?_
        exact QP.meet ⟨k6, Nat.lt_succ_self _, (IntKind.u64.wrap ((Go.bits .xor .u64 y3 (IntKind.u64.wrap (l1.getD y4.toNat 0))) * 1099511628211)), (IntKind.i64.wrap (y4 + 1)), h, rfl, rfl, rfl⟩
      · replace hc := of_decide_eq_false hc
        rw [if_neg hc] at h
        have hc7 := hc
        clear hc
        refine WP.exit ?_
        refine QP.thenE ?_
        refine QP.thenE ?_
        refine QP.blockE ?_
        refine QP.pick [0] ?_
        exact QP.meet ⟨_, Option.some.inj h, rfl, rfl, rfl⟩
  · rintro _ _ _ ⟨s1, rfl, rfl, rfl, rfl⟩
    clear h
    replace h := hk2
    refine QP.next ?_
    refine WP.pick [0] ?_
    refine WP.seqP [4] (L' := [(4, .int .u64 s1)]) (by kernel_rfl) ?_
    refine WP.ret ?_
    obtain rfl := Option.some.inj h
    exact QP.returned [4] [.int .u64 s1] _ (by kernel_rfl) (by kernel_rfl) (by kernel_rfl) (fun W hI => ⟨_, _, _, rfl, ⟨rfl, rfl, rfl⟩, hI⟩)

/-! ### grapevine/grapevineref5.Of: function 14 -/
def grapevineref5_Of_l0 (l0 : List (List Int)) : Nat → Int → Int → Option Int
  | 0, _, _ => none
  | k + 1, y3, y4 => (if y4 < (l0.length : Int) then (if 0 ≤ y4 ∧ y4 < (l0.length : Int) then ((grapevineref5_more k y3 (l0.getD y4.toNat [])).bind fun t10 => grapevineref5_Of_l0 l0 k t10 (IntKind.i64.wrap (y4 + 1))) else none) else some y3)
def grapevineref5_Of (k : Nat) (l0 : List (List Int)) : Option Int := ((grapevineref5_Of_l0 l0 k 14695981039346656037 0).bind fun s1 => some s1)
set_option maxHeartbeats 4000000 in
theorem grapevineref5_Of_calls {B : World} {G : GMap} {Γ : List Chunk} {W : World} (k : Nat) (l0 : List (List Int)) (Al0 : Option Addr) (cl0 : Nat) (Hl0 : Rd (kSlice (kInt .u8)) G Al0 cl0 l0) (r : Int) (h : grapevineref5_Of k l0 = some r) (hI : Inv B G (Γ) W) :
    Calls Try.prog 14 [.slice Al0 l0.length cl0].toArray W (Ret B (fun v G' Γ' => v = .int .u64 r ∧ G = G' ∧ Γ = Γ')) := by
  refine calls_WP (Γ := Γ) (G := G) (B := B) Try.func14 rfl (by kernel_rfl) ?_ hI
  clear hI
  unfold grapevineref5_Of at h
  refine WP.seqP [0] (L' := [(0, .slice Al0 l0.length cl0)]) (by kernel_rfl) ?_
  refine WP.seqP [0, 3] (L' := [(0, .slice Al0 l0.length cl0), (3, .int .u64 14695981039346656037)]) (by kernel_rfl) ?_
  refine WP.seq ?_
  refine WP.seqP [0, 3, 4] (L' := [(0, .slice Al0 l0.length cl0), (3, .int .u64 14695981039346656037), (4, .int .i64 0)]) (by kernel_rfl) ?_
  rw [Option.bind_eq_some_iff] at h
  obtain ⟨os1, h, hk2⟩ := h
  refine WP.cutQ (fun L' G' Γ' => ∃ s1 : Int, s1 = os1 ∧ L' = [(3, .int .u64 s1)] ∧ G = G' ∧ Γ = Γ') ?_ ?_
  · clear hk2
    refine WP.block ?_
    refine WP.pick [0, 3, 4] ?_
    refine WP.loopF (fun k5 L' G' Γ' => ∃ (y3 : Int), ∃ (y4 : Int), grapevineref5_Of_l0 l0 k5 y3 y4 = some os1 ∧ L' = [(0, .slice Al0 l0.length cl0), (3, .int .u64 y3), (4, .int .i64 y4)] ∧ G = G' ∧ Γ = Γ') ?_ k ⟨14695981039346656037, 0, h, rfl, rfl, rfl⟩
    clear h
    rintro k6 _ _ _ ⟨y3, y4, h, rfl, rfl, rfl⟩
    cases k6 with
    | zero => exact absurd h (by simp [grapevineref5_Of_l0])
    | succ k6 =>
      simp only [grapevineref5_Of_l0] at h
      refine WP.seq ?_
      refine WP.seqP [0, 3, 4, 8] (L' := [(0, .slice Al0 l0.length cl0), (3, .int .u64 y3), (4, .int .i64 y4), (8, .bool (decide (y4 < (l0.length : Int))))]) (by kernel_rfl) ?_
      refine WP.cond (b := decide (y4 < (l0.length : Int))) (by kernel_rfl) (fun hc => ?_) (fun hc => ?_)
      · replace hc := of_decide_eq_true hc
        rw [if_pos hc] at h
        have hc7 := hc
        clear hc
        refine WP.skip ?_
        refine QP.next ?_
        refine WP.pick [0, 3, 4] ?_
        refine WP.seq ?_
        refine WP.block ?_
        refine WP.region ?_
        refine WL.pure 0 3 [0, 3, 4, 11, 12, 13] (L' := [(0, .slice Al0 l0.length cl0), (3, .int .u64 y3), (4, .int .i64 y4), (11, .int .u64 y3), (12, .slice Al0 l0.length cl0), (13, .int .i64 y4)]) (by kernel_rfl) (by decide) ?_
        by_cases hb8 : 0 ≤ y4 ∧ y4 < (l0.length : Int)
        case neg => rw [if_neg hb8] at h; cases h
        rw [if_pos hb8] at h
        refine WL.tell (op := .indexAddr 22 (.tmp 12) (.tmp 13)) (ty := 0) (d := some 14) (g := none) (by kernel_rfl) (by kernel_rfl) (by kernel_rfl) (Tells.indexAddr (A := Al0) (n := l0.length) (c := cl0) (k := .i64) (j := y4) (by kernel_rfl) (by kernel_rfl) (Hl0.isSome hb8.1 hb8.2) hb8.1 hb8.2 sl22) ?_
        refine WL.tellE (op := .load 32 (.tmp 14)) (ty := 32) (d := some 15) (g := none) (by kernel_rfl) (by kernel_rfl) (by kernel_rfl) (Hl0.load (agg := false) hb8.1 hb8.2 [] ag32 (fun _ => rfl) (by kernel_rfl)) ?_
        rintro _ ⟨Ae9, ce9, rfl, He9⟩
        rw [Option.bind_eq_some_iff] at h
        obtain ⟨t10, ht11, h⟩ := h
        refine WL.op (op := .call { callee := (.value (.func 30)), args := #[(.tmp 11), (.tmp 15)], argTypes := #[26, 32] }) (ty := 26) (d := some 16) (g := none) (by kernel_rfl) (by kernel_rfl) (by kernel_rfl) (Does.call (f := 30) (args := [.int .u64 y3, .slice Ae9 (l0.getD y4.toNat []).length ce9]) (by kernel_rfl) (fun W hI => (grapevineref5_more_calls k6 y3 (l0.getD y4.toNat []) Ae9 ce9 He9 t10 ht11 hI))) ?_
        rintro _ _ _ ⟨rfl, rfl, rfl⟩
        refine WL.rest 6 [0, 3, 4] (L' := [(0, .slice Al0 l0.length cl0), (3, .int .u64 t10), (4, .int .i64 y4)]) (by kernel_rfl) ?_
        refine QP.blockN ?_
        refine QP.next ?_
        refine WP.pick [0, 3, 4] ?_
        refine WP.regionP [0, 3, 4] (L' := [(0, .slice Al0 l0.length cl0), (3, .int .u64 t10), (4, .int .i64 (IntKind.i64.wrap (y4 + 1)))]) (by kernel_rfl) ?_
        refine QP.pick [0, 3, 4] ?_
        exact QP.meet ⟨k6, Nat.lt_succ_self _, t10, (IntKind.i64.wrap (y4 + 1)), h, rfl, rfl, rfl⟩
      · replace hc := of_decide_eq_false hc
        rw [if_neg hc] at h
        have hc7 := hc
        clear hc
        refine WP.exit ?_
        refine QP.thenE ?_
        refine QP.thenE ?_
        refine QP.blockE ?_
        refine QP.pick [3] ?_
        exact QP.meet ⟨_, Option.some.inj h, rfl, rfl, rfl⟩
  · rintro _ _ _ ⟨s1, rfl, rfl, rfl, rfl⟩
    clear h
    replace h := hk2
    refine QP.next ?_
    refine WP.pick [3] ?_
    refine WP.seqP [2] (L' := [(2, .int .u64 s1)]) (by kernel_rfl) ?_
    refine WP.ret ?_
    obtain rfl := Option.some.inj h
    exact QP.returned [2] [.int .u64 s1] _ (by kernel_rfl) (by kernel_rfl) (by kernel_rfl) (fun W hI => ⟨_, _, _, rfl, ⟨rfl, rfl, rfl⟩, hI⟩)

/-! ### grapevine/grapevineref5.One: function 31 -/
def grapevineref5_One (k : Nat) (l0 : List Int) : Option Int := ((grapevineref5_Of k ([l0] : List (List Int))).bind fun t4 => some t4)
set_option maxHeartbeats 4000000 in
theorem grapevineref5_One_calls {B : World} {G : GMap} {Γ : List Chunk} {W : World} (k : Nat) (l0 : List Int) (Al0 : Option Addr) (cl0 : Nat) (Hl0 : Rd (kInt .u8) G Al0 cl0 l0) (r : Int) (h : grapevineref5_One k l0 = some r) (hI : Inv B G (Γ) W) :
    Calls Try.prog 31 [.slice Al0 l0.length cl0].toArray W (Ret B (fun v G' Γ' => v = .int .u64 r ∧ G = G' ∧ Γ = Γ')) := by
  refine calls_WP (Γ := Γ) (G := G) (B := B) Try.func31 rfl (by kernel_rfl) ?_ hI
  clear hI
  unfold grapevineref5_One at h
  refine WP.seqP [0] (L' := [(0, .slice Al0 l0.length cl0)]) (by kernel_rfl) ?_
  refine WP.seqR ?_
  refine WL.pure 0 1 [3] (L' := [(3, .slice Al0 l0.length cl0)]) (by kernel_rfl) (by decide) ?_
  refine WL.op (op := .buildSlice 22 1 #[(0, (.tmp 3))]) (ty := 22) (d := some 4) (g := none) (by kernel_rfl) (by kernel_rfl) (by kernel_rfl) (Does.new (o := .cells #[.slice Al0 l0.length cl0] 32 (0, 0)) (v := fun r => .slice (some ⟨r, 0, none⟩) 1 1) (fun r => by kernel_rfl)) ?_
  rintro _ _ _ ⟨b1, rfl, rfl, rfl⟩
  have Ho3 : Ow (kSlice (kInt .u8)) G (some ⟨b1, 0, none⟩) 1 ([l0] : List (List Int)) [(b1, .cells #[.slice Al0 l0.length cl0] 32 (0, 0))] := Ow.lit (kd := (kSlice (kInt .u8))) (G := G) (b := b1) (T := 32) (xs := ([l0] : List (List Int))) (cs := [.slice Al0 l0.length cl0]) (.cons (x := l0) (cs := [.slice Al0 l0.length cl0]) ⟨Al0, cl0, rfl, Hl0⟩ .nil)
  rw [Option.bind_eq_some_iff] at h
  obtain ⟨t4, ht5, h⟩ := h
  refine WL.op (op := .call { callee := (.value (.func 14)), args := #[(.tmp 4)], argTypes := #[22] }) (ty := 26) (d := some 5) (g := none) (by kernel_rfl) (by kernel_rfl) (by kernel_rfl) (Does.call (Φ := fun v' G' Γ' => v' = .int .u64 t4 ∧ G = G' ∧ [(b1, .cells #[.slice Al0 l0.length cl0] 32 (0, 0))] :: Γ = Γ') (f := 14) (args := [.slice (some ⟨b1, 0, none⟩) ([l0] : List (List Int)).length 1]) (by kernel_rfl) (fun W hI => Calls.lend (i := 0) rfl (Ow.nodup Ho3) hI (fun _ e l6 hI => by subst e; exact (grapevineref5_Of_calls k ([l0] : List (List Int)) (some ⟨b1, 0, none⟩) 1 (Ho3.rd l6) t4 ht5 hI)))) ?_
  rintro _ _ _ ⟨rfl, rfl, rfl⟩
  refine WL.restQ 3 [2] (L' := [(2, .int .u64 t4)]) (by kernel_rfl) ?_
  refine WP.ret ?_
  obtain rfl := Option.some.inj h
  refine QP.dropAt 0 ?_
  exact QP.returned [2] [.int .u64 t4] _ (by kernel_rfl) (by kernel_rfl) (by kernel_rfl) (fun W hI => ⟨_, _, _, rfl, ⟨rfl, rfl, rfl⟩, hI⟩)

/-! ### grapevine/grapevineref5.All: function 16 -/
def grapevineref5_All_l1 (l0 : List Int) (y5 : Int) : Nat → (List Int) → Int → Option (List Int)
  | 0, _, _ => none
  | k + 1, y15, y16 => (if y16 ≥ 0 then (if 0 ≤ y5 ∧ y5 < (l0.length : Int) then (if 0 ≤ (IntKind.i64.wrap (8 * y16)) then (if y15.length + ([IntKind.u8.wrap (shrK .u64 (l0.getD y5.toNat 0) (IntKind.i64.wrap (8 * y16)))] : List Int).length ≤ 1073741824 then grapevineref5_All_l1 l0 y5 k (y15 ++ ([IntKind.u8.wrap (shrK .u64 (l0.getD y5.toNat 0) (IntKind.i64.wrap (8 * y16)))] : List Int)) (IntKind.i64.wrap (y16 - 1)) else none) else none) else none) else some y15)
def grapevineref5_All_l0 (l0 : List Int) : Nat → Bool → (List Int) → Int → Option (Bool × (List Int))
  | 0, _, _, _ => none
  | k + 1, y3, y4, y5 => (if y5 < (l0.length : Int) then ((if y3 = true then some true else (if 0 ≤ y5 ∧ y5 < (l0.length : Int) then some ((l0.getD y5.toNat 0) != 0) else none)).bind fun s9 => ((grapevineref5_All_l1 l0 y5 k y4 7).bind fun s13 => grapevineref5_All_l0 l0 k s9 s13 (IntKind.i64.wrap (y5 + 1)))) else some (y3, y4))
def grapevineref5_All (k : Nat) (l0 : List Int) : Option Int := ((grapevineref5_All_l0 l0 k false ([] : List Int) 0).bind fun s1 => (if (!s1.1) = true then some 0 else ((grapevineref5_One k s1.2).bind fun t28 => some t28)))
set_option maxHeartbeats 4000000 in
theorem grapevineref5_All_calls {B : World} {G : GMap} {Γ : List Chunk} {W : World} (k : Nat) (l0 : List Int) (Al0 : Option Addr) (cl0 : Nat) (Hl0 : Rd (kInt .u64) G Al0 cl0 l0) (r : Int) (h : grapevineref5_All k l0 = some r) (hI : Inv B G (Γ) W) :
    Calls Try.prog 16 [.slice Al0 l0.length cl0].toArray W (Ret B (fun v G' Γ' => v = .int .u64 r ∧ G = G' ∧ Γ = Γ')) := by
  refine calls_WP (Γ := Γ) (G := G) (B := B) Try.func16 rfl (by kernel_rfl) ?_ hI
  clear hI
  unfold grapevineref5_All at h
  refine WP.seqP [0] (L' := [(0, .slice Al0 l0.length cl0)]) (by kernel_rfl) ?_
  refine WP.seqP [0, 3] (L' := [(0, .slice Al0 l0.length cl0), (3, .bool false)]) (by kernel_rfl) ?_
  refine WP.seqP [0, 3, 4] (L' := [(0, .slice Al0 l0.length cl0), (3, .bool false), (4, .slice none 0 0)]) (by kernel_rfl) ?_
  refine WP.seq ?_
  refine WP.seqP [0, 3, 4, 5] (L' := [(0, .slice Al0 l0.length cl0), (3, .bool false), (4, .slice none 0 0), (5, .int .i64 0)]) (by kernel_rfl) ?_
  rw [Option.bind_eq_some_iff] at h
  obtain ⟨os1, h, hk2⟩ := h
  refine WP.cutQ (fun L' G' Γ' => ∃ s1 : Bool × (List Int), s1 = os1 ∧ ∃ (As1_2 : Option Addr), ∃ (cs1_2 : Nat), ∃ (Cs1_2 : Chunk), L' = [(3, .bool s1.1), (4, .slice As1_2 s1.2.length cs1_2)] ∧ G = G' ∧ Cs1_2 :: Γ = Γ' ∧ Ow (kInt .u8) G As1_2 cs1_2 s1.2 Cs1_2) ?_ ?_
  · clear hk2
    refine WP.block ?_
    refine WP.addNil ?_
    refine WP.pick [0, 3, 4, 5] ?_
    refine WP.loopF (fun k6 L' G' Γ' => ∃ (y3 : Bool), ∃ (y4 : List Int), ∃ (y5 : Int), grapevineref5_All_l0 l0 k6 y3 y4 y5 = some os1 ∧ ∃ (Ay4 : Option Addr), ∃ (cy4 : Nat), ∃ (Cy4 : Chunk), L' = [(0, .slice Al0 l0.length cl0), (3, .bool y3), (4, .slice Ay4 y4.length cy4), (5, .int .i64 y5)] ∧ G = G' ∧ Cy4 :: Γ = Γ' ∧ Ow (kInt .u8) G Ay4 cy4 y4 Cy4) ?_ k ⟨false, ([] : List Int), 0, h, none, 0, [], rfl, rfl, rfl, (Ow.nil _ _)⟩
    clear h
    rintro k7 _ _ _ ⟨y3, y4, y5, h, Ay4, cy4, Cy4, rfl, rfl, rfl, Hy4⟩
    cases k7 with
    | zero => exact absurd h (by simp [grapevineref5_All_l0])
    | succ k7 =>
      simp only [grapevineref5_All_l0] at h
      refine WP.seq ?_
      refine WP.seqP [0, 3, 4, 5, 10] (L' := [(0, .slice Al0 l0.length cl0), (3, .bool y3), (4, .slice Ay4 y4.length cy4), (5, .int .i64 y5), (10, .bool (decide (y5 < (l0.length : Int))))]) (by kernel_rfl) ?_
      refine WP.cond (b := decide (y5 < (l0.length : Int))) (by kernel_rfl) (fun hc => ?_) (fun hc => ?_)
      · replace hc := of_decide_eq_true hc
        rw [if_pos hc] at h
        have hc8 := hc
        clear hc
        refine WP.skip ?_
        refine QP.next ?_
        refine WP.pick [0, 3, 4, 5] ?_
        refine WP.seq ?_
        refine WP.block ?_
        rw [Option.bind_eq_some_iff] at h
        obtain ⟨os9, h, hk10⟩ := h
        refine WP.cut (fun L' G' Γ' => ∃ s9 : Bool, s9 = os9 ∧ L' = [(0, .slice Al0 l0.length cl0), (3, .bool s9), (4, .slice Ay4 y4.length cy4), (5, .int .i64 y5)] ∧ G = G' ∧ Cy4 :: Γ = Γ') ?_ ?_
        · clear hk10
          refine WP.region ?_
          refine WL.pure 0 2 [0, 3, 4, 5, 14] (L' := [(0, .slice Al0 l0.length cl0), (3, .bool y3), (4, .slice Ay4 y4.length cy4), (5, .int .i64 y5), (14, .bool y3)]) (by kernel_rfl) (by decide) ?_
          refine WL.split 14 (b := y3) (by kernel_rfl) (fun hc => ?_) (fun hc => ?_)
          · replace hc := hc
            rw [if_pos hc] at h
            have hc11 := hc
            clear hc
            refine WL.rest 2 [0, 3, 4, 5] (L' := [(0, .slice Al0 l0.length cl0), (3, .bool true), (4, .slice Ay4 y4.length cy4), (5, .int .i64 y5)]) (by kernel_rfl) ?_
            refine QP.pick [0, 3, 4, 5] ?_
            exact QP.meet ⟨_, Option.some.inj h, rfl, rfl, rfl⟩
          · replace hc := (Bool.eq_false_iff.1 hc)
            rw [if_neg hc] at h
            have hc11 := hc
            clear hc
            refine WL.pure 2 4 [0, 3, 4, 5, 14, 15, 16] (L' := [(0, .slice Al0 l0.length cl0), (3, .bool y3), (4, .slice Ay4 y4.length cy4), (5, .int .i64 y5), (14, .bool false), (15, .slice Al0 l0.length cl0), (16, .int .i64 y5)]) (by kernel_rfl) (by decide) ?_
            by_cases hb12 : 0 ≤ y5 ∧ y5 < (l0.length : Int)
            case neg => rw [if_neg hb12] at h; cases h
            rw [if_pos hb12] at h
            refine WL.tell (op := .indexAddr 23 (.tmp 15) (.tmp 16)) (ty := 0) (d := some 17) (g := some (1, false)) (by kernel_rfl) (by kernel_rfl) (by kernel_rfl) (Tells.indexAddr (A := Al0) (n := l0.length) (c := cl0) (k := .i64) (j := y5) (by kernel_rfl) (by kernel_rfl) (Hl0.isSome hb12.1 hb12.2) hb12.1 hb12.2 sl23) ?_
            refine WL.tellE (op := .load 26 (.tmp 17)) (ty := 26) (d := some 18) (g := some (1, false)) (by kernel_rfl) (by kernel_rfl) (by kernel_rfl) (Hl0.load (agg := false) hb12.1 hb12.2 0 ag26 (fun _ => rfl) (by kernel_rfl)) ?_
            rintro _ rfl
            refine WL.rest 6 [0, 3, 4, 5] (L' := [(0, .slice Al0 l0.length cl0), (3, .bool ((l0.getD y5.toNat 0) != 0)), (4, .slice Ay4 y4.length cy4), (5, .int .i64 y5)]) (by kernel_rfl) ?_
            refine QP.pick [0, 3, 4, 5] ?_
            exact QP.meet ⟨_, Option.some.inj h, rfl, rfl, rfl⟩
        · rintro _ _ _ ⟨s9, rfl, rfl, rfl, rfl⟩
          clear h
          replace h := hk10
          refine WP.seqP [0, 3, 4, 5, 6] (L' := [(0, .slice Al0 l0.length cl0), (3, .bool s9), (4, .slice Ay4 y4.length cy4), (5, .int .i64 y5), (6, .int .i64 7)]) (by kernel_rfl) ?_
          rw [Option.bind_eq_some_iff] at h
          obtain ⟨os13, h, hk14⟩ := h
          refine WP.cutQ (fun L' G' Γ' => ∃ s13 : (List Int), s13 = os13 ∧ ∃ (As13 : Option Addr), ∃ (cs13 : Nat), ∃ (Cs13 : Chunk), L' = [(0, .slice Al0 l0.length cl0), (3, .bool s9), (4, .slice As13 s13.length cs13), (5, .int .i64 y5)] ∧ G = G' ∧ Cs13 :: Γ = Γ' ∧ Ow (kInt .u8) G As13 cs13 s13 Cs13) ?_ ?_
          · clear hk14
            refine WP.block ?_
            refine WP.pick [0, 3, 4, 5, 6] ?_
            refine WP.loopF (fun k17 L' G' Γ' => ∃ (y15 : List Int), ∃ (y16 : Int), grapevineref5_All_l1 l0 y5 k17 y15 y16 = some os13 ∧ ∃ (Ay15 : Option Addr), ∃ (cy15 : Nat), ∃ (Cy15 : Chunk), L' = [(0, .slice Al0 l0.length cl0), (3, .bool s9), (4, .slice Ay15 y15.length cy15), (5, .int .i64 y5), (6, .int .i64 y16)] ∧ G = G' ∧ Cy15 :: Γ = Γ' ∧ Ow (kInt .u8) G Ay15 cy15 y15 Cy15) ?_ k7 ⟨y4, 7, h, Ay4, cy4, Cy4, rfl, rfl, rfl, Hy4⟩
            clear h
            rintro k18 _ _ _ ⟨y15, y16, h, Ay15, cy15, Cy15, rfl, rfl, rfl, Hy15⟩
            cases k18 with
            | zero => exact absurd h (by simp [grapevineref5_All_l1])
            | succ k18 =>
              simp only [grapevineref5_All_l1] at h
              refine WP.seq ?_
              refine WP.seqP [0, 3, 4, 5, 6, 22] (L' := [(0, .slice Al0 l0.length cl0), (3, .bool s9), (4, .slice Ay15 y15.length cy15), (5, .int .i64 y5), (6, .int .i64 y16), (22, .bool (decide (y16 ≥ 0)))]) (by kernel_rfl) ?_
              refine WP.cond (b := decide (y16 ≥ 0)) (by kernel_rfl) (fun hc => ?_) (fun hc => ?_)
              · replace hc := of_decide_eq_true hc
                rw [if_pos hc] at h
                have hc19 := hc
                clear hc
                refine WP.skip ?_
                refine QP.next ?_
                refine WP.pick [0, 3, 4, 5, 6] ?_
                refine WP.seq ?_
                refine WP.block ?_
                refine WP.region ?_
                refine WL.pure 0 3 [0, 3, 4, 5, 6, 25, 26, 27] (L' := [(0, .slice Al0 l0.length cl0), (3, .bool s9), (4, .slice Ay15 y15.length cy15), (5, .int .i64 y5), (6, .int .i64 y16), (25, .slice Ay15 y15.length cy15), (26, .slice Al0 l0.length cl0), (27, .int .i64 y5)]) (by kernel_rfl) (by decide) ?_
                by_cases hb20 : 0 ≤ y5 ∧ y5 < (l0.length : Int)
                case neg => rw [if_neg hb20] at h; cases h
                rw [if_pos hb20] at h
                refine WL.tell (op := .indexAddr 23 (.tmp 26) (.tmp 27)) (ty := 0) (d := some 28) (g := none) (by kernel_rfl) (by kernel_rfl) (by kernel_rfl) (Tells.indexAddr (A := Al0) (n := l0.length) (c := cl0) (k := .i64) (j := y5) (by kernel_rfl) (by kernel_rfl) (Hl0.isSome hb20.1 hb20.2) hb20.1 hb20.2 sl23) ?_
                refine WL.tellE (op := .load 26 (.tmp 28)) (ty := 26) (d := some 29) (g := none) (by kernel_rfl) (by kernel_rfl) (by kernel_rfl) (Hl0.load (agg := false) hb20.1 hb20.2 0 ag26 (fun _ => rfl) (by kernel_rfl)) ?_
                rintro _ rfl
                refine WL.pure 5 7 [0, 3, 4, 5, 6, 25, 29, 31] (L' := [(0, .slice Al0 l0.length cl0), (3, .bool s9), (4, .slice Ay15 y15.length cy15), (5, .int .i64 y5), (6, .int .i64 y16), (25, .slice Ay15 y15.length cy15), (29, .int .u64 (l0.getD y5.toNat 0)), (31, .int .i64 (IntKind.i64.wrap (8 * y16)))]) (by kernel_rfl) (by decide) ?_
                by_cases hb21 : 0 ≤ (IntKind.i64.wrap (8 * y16))
                case neg => rw [if_neg hb21] at h; cases h
                rw [if_pos hb21] at h
                refine WL.tell (op := .binOp .shr 26 (.tmp 29) (.tmp 31) 3) (ty := 26) (d := some 32) (g := none) (by kernel_rfl) (by kernel_rfl) (by kernel_rfl) (Tells.shr (k := .u64) (k' := .i64) (a := (l0.getD y5.toNat 0)) (b := (IntKind.i64.wrap (8 * y16))) (by kernel_rfl) (by kernel_rfl) hb21) ?_
                refine WL.pure 8 9 [0, 3, 4, 5, 6, 25, 33] (L' := [(0, .slice Al0 l0.length cl0), (3, .bool s9), (4, .slice Ay15 y15.length cy15), (5, .int .i64 y5), (6, .int .i64 y16), (25, .slice Ay15 y15.length cy15), (33, .int .u8 (IntKind.u8.wrap (shrK .u64 (l0.getD y5.toNat 0) (IntKind.i64.wrap (8 * y16)))))]) (by kernel_rfl) (by decide) ?_
                refine WL.op (op := .buildSlice 32 1 #[(0, (.tmp 33))]) (ty := 32) (d := some 34) (g := none) (by kernel_rfl) (by kernel_rfl) (by kernel_rfl) (Does.new (o := .cells #[.int .u8 (IntKind.u8.wrap (shrK .u64 (l0.getD y5.toNat 0) (IntKind.i64.wrap (8 * y16))))] 5 (0, 0)) (v := fun r => .slice (some ⟨r, 0, none⟩) 1 1) (fun r => by kernel_rfl)) ?_
                rintro _ _ _ ⟨b22, rfl, rfl, rfl⟩
                have Ho24 : Ow (kInt .u8) G (some ⟨b22, 0, none⟩) 1 ([IntKind.u8.wrap (shrK .u64 (l0.getD y5.toNat 0) (IntKind.i64.wrap (8 * y16)))] : List Int) [(b22, .cells #[.int .u8 (IntKind.u8.wrap (shrK .u64 (l0.getD y5.toNat 0) (IntKind.i64.wrap (8 * y16))))] 5 (0, 0))] := Ow.lit (kd := (kInt .u8)) (G := G) (b := b22) (T := 5) (xs := ([IntKind.u8.wrap (shrK .u64 (l0.getD y5.toNat 0) (IntKind.i64.wrap (8 * y16)))] : List Int)) (cs := [.int .u8 (IntKind.u8.wrap (shrK .u64 (l0.getD y5.toNat 0) (IntKind.i64.wrap (8 * y16))))]) (.cons (x := (IntKind.u8.wrap (shrK .u64 (l0.getD y5.toNat 0) (IntKind.i64.wrap (8 * y16))))) (cs := [.int .u8 (IntKind.u8.wrap (shrK .u64 (l0.getD y5.toNat 0) (IntKind.i64.wrap (8 * y16))))]) (by exact rfl) .nil)
                by_cases hb25 : y15.length + ([IntKind.u8.wrap (shrK .u64 (l0.getD y5.toNat 0) (IntKind.i64.wrap (8 * y16)))] : List Int).length ≤ 1073741824
                case neg => rw [if_neg hb25] at h; cases h
                rw [if_pos hb25] at h
                refine WL.op (op := .call { callee := (.builtin .append), args := #[(.tmp 25), (.tmp 34)], argTypes := #[32, 32] }) (ty := 32) (d := some 35) (g := none) (by kernel_rfl) (by kernel_rfl) (by kernel_rfl) (Ow.append (ys := ([IntKind.u8.wrap (shrK .u64 (l0.getD y5.toNat 0) (IntKind.i64.wrap (8 * y16)))] : List Int)) (v := .slice (some ⟨b22, 0, none⟩) ([IntKind.u8.wrap (shrK .u64 (l0.getD y5.toNat 0) (IntKind.i64.wrap (8 * y16)))] : List Int).length 1) Hy15 (i := 1) rfl (by kernel_rfl) (by kernel_rfl) (Ho24.src (i := 0) rfl) sl32 ze5 nt32 (by decide) hb25) ?_
                rintro _ _ _ ⟨rfl, AN26, cN26, CN26, rfl, HN26, rfl⟩
                refine WL.rest 11 [0, 3, 4, 5, 6] (L' := [(0, .slice Al0 l0.length cl0), (3, .bool s9), (4, .slice AN26 (y15 ++ ([IntKind.u8.wrap (shrK .u64 (l0.getD y5.toNat 0) (IntKind.i64.wrap (8 * y16)))] : List Int)).length cN26), (5, .int .i64 y5), (6, .int .i64 y16)]) (by kernel_rfl) ?_
                refine QP.blockN ?_
                refine QP.next ?_
                refine WP.pick [0, 3, 4, 5, 6] ?_
                refine WP.regionP [0, 3, 4, 5, 6] (L' := [(0, .slice Al0 l0.length cl0), (3, .bool s9), (4, .slice AN26 (y15 ++ ([IntKind.u8.wrap (shrK .u64 (l0.getD y5.toNat 0) (IntKind.i64.wrap (8 * y16)))] : List Int)).length cN26), (5, .int .i64 y5), (6, .int .i64 (IntKind.i64.wrap (y16 - 1)))]) (by kernel_rfl) ?_
                refine QP.dropAt 0 ?_
                refine QP.pick [0, 3, 4, 5, 6] ?_
                exact QP.meet ⟨k18, Nat.lt_succ_self _, (y15 ++ ([IntKind.u8.wrap (shrK .u64 (l0.getD y5.toNat 0) (IntKind.i64.wrap (8 * y16)))] : List Int)), (IntKind.i64.wrap (y16 - 1)), h, AN26, cN26, CN26, rfl, rfl, rfl, HN26⟩
              · replace hc := of_decide_eq_false hc
                rw [if_neg hc] at h
                have hc19 := hc
                clear hc
                refine WP.exit ?_
                refine QP.thenE ?_
                refine QP.thenE ?_
                refine QP.blockE ?_
                refine QP.pick [0, 3, 4, 5] ?_
                exact QP.meet ⟨_, Option.some.inj h, Ay15, cy15, Cy15, rfl, rfl, rfl, Hy15⟩
          · rintro _ _ _ ⟨s13, rfl, As13, cs13, Cs13, rfl, rfl, rfl, Hs13⟩
            clear h
            replace h := hk14
            refine QP.blockN ?_
            refine QP.next ?_
            refine WP.pick [0, 3, 4, 5] ?_
            refine WP.regionP [0, 3, 4, 5] (L' := [(0, .slice Al0 l0.length cl0), (3, .bool s9), (4, .slice As13 s13.length cs13), (5, .int .i64 (IntKind.i64.wrap (y5 + 1)))]) (by kernel_rfl) ?_
            refine QP.pick [0, 3, 4, 5] ?_
            exact QP.meet ⟨k7, Nat.lt_succ_self _, s9, s13, (IntKind.i64.wrap (y5 + 1)), h, As13, cs13, Cs13, rfl, rfl, rfl, Hs13⟩
      · replace hc := of_decide_eq_false hc
        rw [if_neg hc] at h
        have hc8 := hc
        clear hc
        refine WP.exit ?_
        refine QP.thenE ?_
        refine QP.thenE ?_
        refine QP.blockE ?_
        refine QP.pick [3, 4] ?_
        exact QP.meet ⟨_, Option.some.inj h, Ay4, cy4, Cy4, rfl, rfl, rfl, Hy4⟩
  · rintro _ _ _ ⟨s1, rfl, As1_2, cs1_2, Cs1_2, rfl, rfl, rfl, Hs1_2⟩
    clear h
    replace h := hk2
    refine QP.next ?_
    refine WP.pick [3, 4] ?_
    refine WP.seq ?_
    refine WP.seqP [4, 37] (L' := [(4, .slice As1_2 s1.2.length cs1_2), (37, .bool (!s1.1))]) (by kernel_rfl) ?_
    refine WP.cond (b := (!s1.1)) (by kernel_rfl) (fun hc => ?_) (fun hc => ?_)
    · replace hc := hc
      rw [if_pos hc] at h
      have hc27 := hc
      clear hc
      refine WP.seqP [2] (L' := [(2, .int .u64 0)]) (by kernel_rfl) ?_
      refine WP.ret ?_
      refine QP.thenR ?_
      obtain rfl := Option.some.inj h
      refine QP.dropAt 0 ?_
      exact QP.returned [2] [.int .u64 0] _ (by kernel_rfl) (by kernel_rfl) (by kernel_rfl) (fun W hI => ⟨_, _, _, rfl, ⟨rfl, rfl, rfl⟩, hI⟩)
    · replace hc := (Bool.eq_false_iff.1 hc)
      rw [if_neg hc] at h
      have hc27 := hc
      clear hc
      refine WP.skip ?_
      refine QP.next ?_
      refine WP.pick [4] ?_
      refine WP.seqR ?_
      refine WL.pure 0 1 [38] (L' := [(38, .slice As1_2 s1.2.length cs1_2)]) (by kernel_rfl) (by decide) ?_
      rw [Option.bind_eq_some_iff] at h
      obtain ⟨t28, ht29, h⟩ := h
      refine WL.op (op := .call { callee := (.value (.func 31)), args := #[(.tmp 38)], argTypes := #[32] }) (ty := 26) (d := some 39) (g := none) (by kernel_rfl) (by kernel_rfl) (by kernel_rfl) (Does.call (Φ := fun v' G' Γ' => v' = .int .u64 t28 ∧ G = G' ∧ Cs1_2 :: Γ = Γ') (f := 31) (args := [.slice As1_2 s1.2.length cs1_2]) (by kernel_rfl) (fun W hI => Calls.lend (i := 0) rfl (Ow.nodup Hs1_2) hI (fun _ e l30 hI => by subst e; exact (grapevineref5_One_calls k s1.2 As1_2 cs1_2 (Hs1_2.rd l30) t28 ht29 hI)))) ?_
      rintro _ _ _ ⟨rfl, rfl, rfl⟩
      refine WL.restQ 2 [2] (L' := [(2, .int .u64 t28)]) (by kernel_rfl) ?_
      refine WP.ret ?_
      obtain rfl := Option.some.inj h
      refine QP.dropAt 0 ?_
      exact QP.returned [2] [.int .u64 t28] _ (by kernel_rfl) (by kernel_rfl) (by kernel_rfl) (fun W hI => ⟨_, _, _, rfl, ⟨rfl, rfl, rfl⟩, hI⟩)

/-! ### grapevine/grapevinelaw0.Low: function 17 -/
def grapevinelaw0_Low (a0 : Int) (a1 : Int) : Option Int := (if ¬ (IntKind.u64.wrap a1) = 0 then some (IntKind.i64.wrap (Int.tmod (IntKind.u64.wrap a0) (IntKind.u64.wrap a1))) else none)
set_option maxHeartbeats 4000000 in
theorem grapevinelaw0_Low_calls {B : World} {G : GMap} {Γ : List Chunk} {W : World} (a0 : Int) (a1 : Int) (r : Int) (h : grapevinelaw0_Low a0 a1 = some r) (hI : Inv B G (Γ) W) :
    Calls Try.prog 17 [.int .i64 a0, .int .i64 a1].toArray W (Ret B (fun v G' Γ' => v = .int .i64 r ∧ G = G' ∧ Γ = Γ')) := by
  refine calls_WP (Γ := Γ) (G := G) (B := B) Try.func17 rfl (by kernel_rfl) ?_ hI
  clear hI
  unfold grapevinelaw0_Low at h
  refine WP.seqP [0, 1] (L' := [(0, .int .i64 a0), (1, .int .i64 a1)]) (by kernel_rfl) ?_
  refine WP.seqR ?_
  refine WL.pure 0 4 [6, 8] (L' := [(6, .int .u64 (IntKind.u64.wrap a0)), (8, .int .u64 (IntKind.u64.wrap a1))]) (by kernel_rfl) (by decide) ?_
  by_cases hb1 : ¬ (IntKind.u64.wrap a1) = 0
  case neg => rw [if_neg hb1] at h; cases h
  rw [if_pos hb1] at h
  refine WL.tell (op := .binOp .rem 56 (.tmp 6) (.tmp 8) 56) (ty := 56) (d := some 9) (g := none) (by kernel_rfl) (by kernel_rfl) (by kernel_rfl) (Tells.rem (k := .u64) (a := (IntKind.u64.wrap a0)) (b := (IntKind.u64.wrap a1)) (by kernel_rfl) (by kernel_rfl) hb1) ?_
  refine WL.restQ 5 [4] (L' := [(4, .int .i64 (IntKind.i64.wrap (Int.tmod (IntKind.u64.wrap a0) (IntKind.u64.wrap a1))))]) (by kernel_rfl) ?_
  refine WP.ret ?_
  obtain rfl := Option.some.inj h
  exact QP.returned [4] [.int .i64 (IntKind.i64.wrap (Int.tmod (IntKind.u64.wrap a0) (IntKind.u64.wrap a1)))] _ (by kernel_rfl) (by kernel_rfl) (by kernel_rfl) (fun W hI => ⟨_, _, _, rfl, ⟨rfl, rfl, rfl⟩, hI⟩)
end Go.Proofs.Ytanogihdhnhpaaa.Gf
