/- Walks of Go functions: what each tells, as a plain Lean function, and that the Go code comes to it. Written by gg.py of this repo. -/
import Derived.Test.YtmphcmgbognmnaaT
namespace Go.Proofs.Ytmphcmgbognmnaa.Gf
open Go Go.Gg
set_option maxRecDepth 100000
set_option linter.unusedVariables false
set_option linter.unusedSimpArgs false

/-! ### grapevine/grapevinelaw0.Low: function 31 -/
def grapevinelaw0_Low (a0 : Int) (a1 : Int) : Option Int := (if ¬ (IntKind.u64.wrap a1) = 0 then some (IntKind.i64.wrap (Int.tmod (IntKind.u64.wrap a0) (IntKind.u64.wrap a1))) else none)
set_option maxHeartbeats 4000000 in
theorem grapevinelaw0_Low_calls {B : World} {G : GMap} {Γ : List Chunk} {W : World} (a0 : Int) (a1 : Int) (r : Int) (h : grapevinelaw0_Low a0 a1 = some r) (hI : Inv B G (Γ) W) :
    Calls Try.prog 31 [.int .i64 a0, .int .i64 a1].toArray W (Ret B (fun v G' Γ' => v = .int .i64 r ∧ G = G' ∧ Γ = Γ')) := by
  refine calls_WP (Γ := Γ) (G := G) (B := B) Try.func31 rfl (by kernel_rfl) ?_ hI
  clear hI
  unfold grapevinelaw0_Low at h
  refine WP.seqP [0, 1] (L' := [(0, .int .i64 a0), (1, .int .i64 a1)]) (by kernel_rfl) ?_
  refine WP.seqR ?_
  refine WL.pure 0 4 [6, 8] (L' := [(6, .int .u64 (IntKind.u64.wrap a0)), (8, .int .u64 (IntKind.u64.wrap a1))]) (by kernel_rfl) (by decide) ?_
  by_cases hb1 : ¬ (IntKind.u64.wrap a1) = 0
  case neg => rw [if_neg hb1] at h; cases h
  rw [if_pos hb1] at h
  refine WL.tell (op := .binOp .rem 83 (.tmp 6) (.tmp 8) 83) (ty := 83) (d := some 9) (g := none) (by kernel_rfl) (by kernel_rfl) (by kernel_rfl) (Tells.rem (k := .u64) (a := (IntKind.u64.wrap a0)) (b := (IntKind.u64.wrap a1)) (by kernel_rfl) (by kernel_rfl) hb1) ?_
  refine WL.restQ 5 [4] (L' := [(4, .int .i64 (IntKind.i64.wrap (Int.tmod (IntKind.u64.wrap a0) (IntKind.u64.wrap a1))))]) (by kernel_rfl) ?_
  refine WP.ret ?_
  obtain rfl := Option.some.inj h
  exact QP.returned [4] [.int .i64 (IntKind.i64.wrap (Int.tmod (IntKind.u64.wrap a0) (IntKind.u64.wrap a1)))] _ (by kernel_rfl) (by kernel_rfl) (by kernel_rfl) (fun W hI => ⟨_, _, _, rfl, ⟨rfl, rfl, rfl⟩, hI⟩)

/-! ### grapevine/grapevinelaw3.low: function 32 -/
def grapevinelaw3_low_l0 (l0 : List Int) (a1 : Int) : Nat → Int → (List Int) → Option (List Int)
  | 0, _, _ => none
  | k + 1, y6, y7 => ((if y6 < a1 then some (decide (y6 < (l0.length : Int))) else some false).bind fun s10 => (if s10 = true then (if 0 ≤ y6 ∧ y6 < (l0.length : Int) then ((grapevinelaw0_Low (l0.getD y6.toNat 0) 1024).bind fun t15 => (if 0 ≤ y6 ∧ y6 < (y7.length : Int) then grapevinelaw3_low_l0 l0 a1 k (IntKind.i64.wrap (y6 + 1)) (y7.set y6.toNat t15) else none)) else none) else some y7))
def grapevinelaw3_low (k : Nat) (l0 : List Int) (a1 : Int) : Option (List Int) := (if 0 ≤ a1 ∧ a1 ≤ a1 ∧ a1 ≤ 1073741824 then ((grapevinelaw3_low_l0 l0 a1 k 0 (List.replicate a1.toNat (0 : Int))).bind fun s4 => some s4) else none)
set_option maxHeartbeats 4000000 in
theorem grapevinelaw3_low_calls {B : World} {G : GMap} {Γ : List Chunk} {W : World} (k : Nat) (l0 : List Int) (a1 : Int) (Al0 : Option Addr) (cl0 : Nat) (Hl0 : Rd (kInt .i64) G Al0 cl0 l0) (r : List Int) (h : grapevinelaw3_low k l0 a1 = some r) (hI : Inv B G (Γ) W) :
    Calls Try.prog 32 [.slice Al0 l0.length cl0, .int .i64 a1].toArray W (Ret B (fun v G' Γ' => ∃ (AR : Option Addr), ∃ (cR : Nat), ∃ (CR : Chunk), v = .slice AR r.length cR ∧ Ow (kInt .i64) G' AR cR r CR ∧ G = G' ∧ CR :: Γ = Γ')) := by
  refine calls_WP (Γ := Γ) (G := G) (B := B) Try.func32 rfl (by kernel_rfl) ?_ hI
  clear hI
  unfold grapevinelaw3_low at h
  refine WP.seqP [0, 1] (L' := [(0, .slice Al0 l0.length cl0), (1, .int .i64 a1)]) (by kernel_rfl) ?_
  refine WP.seqR ?_
  refine WL.pure 0 1 [0, 1, 7] (L' := [(0, .slice Al0 l0.length cl0), (1, .int .i64 a1), (7, .int .i64 a1)]) (by kernel_rfl) (by decide) ?_
  by_cases hb1 : 0 ≤ a1 ∧ a1 ≤ a1 ∧ a1 ≤ 1073741824
  case neg => rw [if_neg hb1] at h; cases h
  rw [if_pos hb1] at h
  refine WL.op (op := .makeSlice 52 (.tmp 7) (.tmp 7)) (ty := 52) (d := some 8) (g := none) (by kernel_rfl) (by kernel_rfl) (by kernel_rfl) (Does.make (kd := (kInt .i64)) (k := .i64) (k' := .i64) (l := a1) (c := a1) (z := 0) (zv := .int .i64 0) (by kernel_rfl) (by kernel_rfl) hb1.1 hb1.2.1 sl52 (by decide) hb1.2.2 (by kernel_rfl) (fun _ => (by exact rfl))) ?_
  rintro _ _ _ ⟨rfl, AM2, cM2, CM2, rfl, he3, HM2, rfl⟩
  refine WL.restQ 2 [0, 1, 5] (L' := [(0, .slice Al0 l0.length cl0), (1, .int .i64 a1), (5, .slice AM2 (List.replicate a1.toNat (0 : Int)).length cM2)]) (by kernel_rfl) ?_
  refine WP.seq ?_
  refine WP.seqP [0, 1, 5, 6] (L' := [(0, .slice Al0 l0.length cl0), (1, .int .i64 a1), (5, .slice AM2 (List.replicate a1.toNat (0 : Int)).length cM2), (6, .int .i64 0)]) (by kernel_rfl) ?_
  rw [Option.bind_eq_some_iff] at h
  obtain ⟨os4, h, hk5⟩ := h
  refine WP.cutQ (fun L' G' Γ' => ∃ s4 : (List Int), s4 = os4 ∧ ∃ (As4 : Option Addr), ∃ (cs4 : Nat), ∃ (Cs4 : Chunk), L' = [(5, .slice As4 s4.length cs4)] ∧ G = G' ∧ Cs4 :: Γ = Γ' ∧ Ow (kInt .i64) G As4 cs4 s4 Cs4) ?_ ?_
  · clear hk5
    refine WP.block ?_
    refine WP.pick [0, 1, 5, 6] ?_
    refine WP.loopF (fun k8 L' G' Γ' => ∃ (y6 : Int), ∃ (y7 : List Int), grapevinelaw3_low_l0 l0 a1 k8 y6 y7 = some os4 ∧ ∃ (Ay7 : Option Addr), ∃ (cy7 : Nat), ∃ (Cy7 : Chunk), L' = [(0, .slice Al0 l0.length cl0), (1, .int .i64 a1), (5, .slice Ay7 y7.length cy7), (6, .int .i64 y6)] ∧ G = G' ∧ Cy7 :: Γ = Γ' ∧ Ow (kInt .i64) G Ay7 cy7 y7 Cy7) ?_ k ⟨0, (List.replicate a1.toNat (0 : Int)), h, AM2, cM2, CM2, rfl, rfl, rfl, HM2⟩
    clear h
    rintro k9 _ _ _ ⟨y6, y7, h, Ay7, cy7, Cy7, rfl, rfl, rfl, Hy7⟩
    cases k9 with
    | zero => exact absurd h (by simp [grapevinelaw3_low_l0])
    | succ k9 =>
      simp only [grapevinelaw3_low_l0] at h
      refine WP.seq ?_
      rw [Option.bind_eq_some_iff] at h
      obtain ⟨os10, h, hk11⟩ := h
      refine WP.cut (fun L' G' Γ' => ∃ s10 : Bool, s10 = os10 ∧ L' = [(0, .slice Al0 l0.length cl0), (1, .int .i64 a1), (5, .slice Ay7 y7.length cy7), (6, .int .i64 y6), (17, .bool s10)] ∧ G = G' ∧ Cy7 :: Γ = Γ') ?_ ?_
      · clear hk11
        refine WP.region ?_
        refine WL.pure 0 4 [0, 1, 5, 6, 12] (L' := [(0, .slice Al0 l0.length cl0), (1, .int .i64 a1), (5, .slice Ay7 y7.length cy7), (6, .int .i64 y6), (12, .bool (decide (y6 < a1)))]) (by kernel_rfl) (by decide) ?_
        refine WL.split 12 (b := decide (y6 < a1)) (by kernel_rfl) (fun hc => ?_) (fun hc => ?_)
        · replace hc := of_decide_eq_true hc
          rw [if_pos hc] at h
          have hc12 := hc
          clear hc
          refine WL.rest 4 [0, 1, 5, 6, 17] (L' := [(0, .slice Al0 l0.length cl0), (1, .int .i64 a1), (5, .slice Ay7 y7.length cy7), (6, .int .i64 y6), (17, .bool (decide (y6 < (l0.length : Int))))]) (by kernel_rfl) ?_
          refine QP.pick [0, 1, 5, 6, 17] ?_
          exact QP.meet ⟨_, Option.some.inj h, rfl, rfl, rfl⟩
        · replace hc := of_decide_eq_false hc
          rw [if_neg hc] at h
          have hc12 := hc
          clear hc
          refine WL.rest 4 [0, 1, 5, 6, 17] (L' := [(0, .slice Al0 l0.length cl0), (1, .int .i64 a1), (5, .slice Ay7 y7.length cy7), (6, .int .i64 y6), (17, .bool false)]) (by kernel_rfl) ?_
          refine QP.pick [0, 1, 5, 6, 17] ?_
          exact QP.meet ⟨_, Option.some.inj h, rfl, rfl, rfl⟩
      · rintro _ _ _ ⟨s10, rfl, rfl, rfl, rfl⟩
        clear h
        replace h := hk11
        refine WP.cond (b := s10) (by kernel_rfl) (fun hc => ?_) (fun hc => ?_)
        · replace hc := hc
          rw [if_pos hc] at h
          have hc13 := hc
          clear hc
          refine WP.skip ?_
          refine QP.next ?_
          refine WP.pick [0, 1, 5, 6] ?_
          refine WP.seq ?_
          refine WP.block ?_
          refine WP.region ?_
          refine WL.pure 0 4 [0, 1, 5, 6, 20, 21, 22, 23] (L' := [(0, .slice Al0 l0.length cl0), (1, .int .i64 a1), (5, .slice Ay7 y7.length cy7), (6, .int .i64 y6), (20, .slice Ay7 y7.length cy7), (21, .int .i64 y6), (22, .slice Al0 l0.length cl0), (23, .int .i64 y6)]) (by kernel_rfl) (by decide) ?_
          by_cases hb14 : 0 ≤ y6 ∧ y6 < (l0.length : Int)
          case neg => rw [if_neg hb14] at h; cases h
          rw [if_pos hb14] at h
          refine WL.tell (op := .indexAddr 52 (.tmp 22) (.tmp 23)) (ty := 0) (d := some 24) (g := none) (by kernel_rfl) (by kernel_rfl) (by kernel_rfl) (Tells.indexAddr (A := Al0) (n := l0.length) (c := cl0) (k := .i64) (j := y6) (by kernel_rfl) (by kernel_rfl) (Hl0.isSome hb14.1 hb14.2) hb14.1 hb14.2 sl52) ?_
          refine WL.tellE (op := .load 3 (.tmp 24)) (ty := 3) (d := some 25) (g := none) (by kernel_rfl) (by kernel_rfl) (by kernel_rfl) (Hl0.load (agg := false) hb14.1 hb14.2 0 ag3 (fun _ => rfl) (by kernel_rfl)) ?_
          rintro _ rfl
          rw [Option.bind_eq_some_iff] at h
          obtain ⟨t15, ht16, h⟩ := h
          refine WL.op (op := .call { callee := (.value (.func 31)), args := #[(.tmp 25), (.const (.int .i64 1024))], argTypes := #[3, 3] }) (ty := 3) (d := some 26) (g := none) (by kernel_rfl) (by kernel_rfl) (by kernel_rfl) (Does.call (f := 31) (args := [.int .i64 (l0.getD y6.toNat 0), .int .i64 1024]) (by kernel_rfl) (fun W hI => (grapevinelaw0_Low_calls (l0.getD y6.toNat 0) 1024  t15 ht16 hI))) ?_
          rintro _ _ _ ⟨rfl, rfl, rfl⟩
          by_cases hb17 : 0 ≤ y6 ∧ y6 < (y7.length : Int)
          case neg => rw [if_neg hb17] at h; cases h
          rw [if_pos hb17] at h
          refine WL.tell (op := .indexAddr 52 (.tmp 20) (.tmp 21)) (ty := 0) (d := some 27) (g := none) (by kernel_rfl) (by kernel_rfl) (by kernel_rfl) (Tells.indexAddr (A := Ay7) (n := y7.length) (c := cy7) (k := .i64) (j := y6) (by kernel_rfl) (by kernel_rfl) (Hy7.isSome hb17.1 hb17.2) hb17.1 hb17.2 sl52) ?_
          refine WL.op (op := .store 3 (.tmp 27) (.tmp 26)) (ty := 0) (d := none) (g := none) (by kernel_rfl) (by kernel_rfl) (by kernel_rfl) (Ow.store Hy7 (i := 0) rfl hb17.1 hb17.2 (z := t15) (v := .int .i64 t15) (by kernel_rfl) (by kernel_rfl) sz3 (by exact rfl)) ?_
          rintro _ _ _ ⟨rfl, rfl, C18, Ho19, rfl⟩
          refine WL.reput 5 (v := .slice Ay7 y7.length cy7) (v' := .slice Ay7 (y7.set y6.toNat t15).length cy7) (by kernel_rfl) (by rw [List.length_set]) ?_
          refine WL.rest 9 [0, 1, 5, 6] (L' := [(0, .slice Al0 l0.length cl0), (1, .int .i64 a1), (5, .slice Ay7 (y7.set y6.toNat t15).length cy7), (6, .int .i64 y6)]) (by kernel_rfl) ?_
          refine QP.blockN ?_
          refine QP.next ?_
          refine WP.pick [0, 1, 5, 6] ?_
          refine WP.regionP [0, 1, 5, 6] (L' := [(0, .slice Al0 l0.length cl0), (1, .int .i64 a1), (5, .slice Ay7 (y7.set y6.toNat t15).length cy7), (6, .int .i64 (IntKind.i64.wrap (y6 + 1)))]) (by kernel_rfl) ?_
          refine QP.pick [0, 1, 5, 6] ?_
          exact QP.meet ⟨k9, Nat.lt_succ_self _, (IntKind.i64.wrap (y6 + 1)), (y7.set y6.toNat t15), h, Ay7, cy7, C18, rfl, rfl, rfl, Ho19⟩
        · replace hc := (Bool.eq_false_iff.1 hc)
          rw [if_neg hc] at h
          have hc13 := hc
          clear hc
          refine WP.exit ?_
          refine QP.thenE ?_
          refine QP.thenE ?_
          refine QP.blockE ?_
          refine QP.pick [5] ?_
          exact QP.meet ⟨_, Option.some.inj h, Ay7, cy7, Cy7, rfl, rfl, rfl, Hy7⟩
  · rintro _ _ _ ⟨s4, rfl, As4, cs4, Cs4, rfl, rfl, rfl, Hs4⟩
    clear h
    replace h := hk5
    refine QP.next ?_
    refine WP.pick [5] ?_
    refine WP.seqP [4] (L' := [(4, .slice As4 s4.length cs4)]) (by kernel_rfl) ?_
    refine WP.ret ?_
    obtain rfl := Option.some.inj h
    exact QP.returned [4] [.slice As4 s4.length cs4] _ (by kernel_rfl) (by kernel_rfl) (by kernel_rfl) (fun W hI => ⟨_, _, _, rfl, ⟨As4, cs4, Cs4, rfl, Hs4, rfl, rfl⟩, hI⟩)

/-! ### grapevine/vector.Join$1: function 56 -/
def vector_Join_1 (a0 : Int) (a1 : Int) : Option Int := some (if a1 > a0 then a1 else a0)
set_option maxHeartbeats 4000000 in
theorem vector_Join_1_calls {B : World} {G : GMap} {Γ : List Chunk} {W : World} (a0 : Int) (a1 : Int) (r : Int) (h : vector_Join_1 a0 a1 = some r) (hI : Inv B G (Γ) W) :
    Calls Try.prog 56 [.int .i64 a0, .int .i64 a1].toArray W (Ret B (fun v G' Γ' => v = .int .i64 r ∧ G = G' ∧ Γ = Γ')) := by
  refine calls_WP (Γ := Γ) (G := G) (B := B) Try.func56 rfl (by kernel_rfl) ?_ hI
  clear hI
  unfold vector_Join_1 at h
  refine WP.seqP [0, 1] (L' := [(0, .int .i64 a0), (1, .int .i64 a1)]) (by kernel_rfl) ?_
  refine WP.seqP [4] (L' := [(4, .int .i64 (if a1 > a0 then a1 else a0))]) (by kernel_rfl) ?_
  refine WP.ret ?_
  obtain rfl := Option.some.inj h
  exact QP.returned [4] [.int .i64 (if a1 > a0 then a1 else a0)] _ (by kernel_rfl) (by kernel_rfl) (by kernel_rfl) (fun W hI => ⟨_, _, _, rfl, ⟨rfl, rfl, rfl⟩, hI⟩)

/-! ### grapevine/vector.fold: function 55 -/
def vector_fold_l1 (l0 : List (List Int)) (y3 : List Int) (y4 : Int) : Nat → Int → (List Int) → Option (List Int)
  | 0, _, _ => none
  | k + 1, y16, y17 => (if y16 < (y3.length : Int) then (if 0 ≤ y16 ∧ y16 < (y17.length : Int) then (if 0 ≤ y16 ∧ y16 < ((l0.getD y4.toNat []).length : Int) then ((vector_Join_1 (y17.getD y16.toNat 0) ((l0.getD y4.toNat []).getD y16.toNat 0)).bind fun t23 => (if 0 ≤ y16 ∧ y16 < (y17.length : Int) then vector_fold_l1 l0 y3 y4 k (IntKind.i64.wrap (y16 + 1)) (y17.set y16.toNat t23) else none)) else none) else none) else some y17)
def vector_fold_l0 (l0 : List (List Int)) : Nat → (List Int) → Int → Option (Sum (List Int) (List Int))
  | 0, _, _ => none
  | k + 1, y3, y4 => (if y4 < (l0.length : Int) then (if 0 ≤ y4 ∧ y4 < (l0.length : Int) then (if y4 = 0 then (if y3.length + (l0.getD y4.toNat []).length ≤ 1073741824 then vector_fold_l0 l0 k (y3 ++ (l0.getD y4.toNat [])) (IntKind.i64.wrap (y4 + 1)) else none) else (if ¬ ((l0.getD y4.toNat []).length : Int) = (y3.length : Int) then some (Sum.inl ([] : List Int)) else ((vector_fold_l1 l0 y3 y4 k 0 y3).bind fun s14 => vector_fold_l0 l0 k s14 (IntKind.i64.wrap (y4 + 1))))) else none) else some (Sum.inr y3))
def vector_fold (k : Nat) (l0 : List (List Int)) : Option (List Int) := ((vector_fold_l0 l0 k ([] : List Int) 0).bind fun os1 => match os1 with | Sum.inl r => some r | Sum.inr s1 => some s1)
set_option maxHeartbeats 4000000 in
theorem vector_fold_calls {B : World} {G : GMap} {Γ : List Chunk} {W : World} (k : Nat) (l0 : List (List Int)) (Al0 : Option Addr) (cl0 : Nat) (Hl0 : Rd (kSlice (kInt .i64)) G Al0 cl0 l0) (r : List Int) (h : vector_fold k l0 = some r) (hI : Inv B G (Γ) W) :
    Calls Try.prog 55 [.slice Al0 l0.length cl0, .func (.func 56) #[] #[]].toArray W (Ret B (fun v G' Γ' => ∃ (AR : Option Addr), ∃ (cR : Nat), ∃ (CR : Chunk), v = .slice AR r.length cR ∧ Ow (kInt .i64) G' AR cR r CR ∧ G = G' ∧ CR :: Γ = Γ')) := by
  refine calls_WP (Γ := Γ) (G := G) (B := B) Try.func55 rfl (by kernel_rfl) ?_ hI
  clear hI
  unfold vector_fold at h
  refine WP.seqP [0, 1] (L' := [(0, .slice Al0 l0.length cl0), (1, .func (.func 56) #[] #[])]) (by kernel_rfl) ?_
  refine WP.seqP [0, 1, 5] (L' := [(0, .slice Al0 l0.length cl0), (1, .func (.func 56) #[] #[]), (5, .slice none 0 0)]) (by kernel_rfl) ?_
  refine WP.seq ?_
  refine WP.seqP [1, 5, 9, 10, 11] (L' := [(1, .func (.func 56) #[] #[]), (5, .slice none 0 0), (9, .slice Al0 l0.length cl0), (10, .int .i64 (l0.length : Int)), (11, .int .i64 0)]) (by kernel_rfl) ?_
  rw [Option.bind_eq_some_iff] at h
  obtain ⟨os1, h, hk2⟩ := h
  refine WP.cutQ (fun L' G' Γ' => ∃ s1 : (List Int), Sum.inr s1 = os1 ∧ ∃ (As1 : Option Addr), ∃ (cs1 : Nat), ∃ (Cs1 : Chunk), L' = [(5, .slice As1 s1.length cs1)] ∧ G = G' ∧ Cs1 :: Γ = Γ' ∧ Ow (kInt .i64) G As1 cs1 s1 Cs1) ?_ ?_
  · skip
    refine WP.block ?_
    refine WP.addNil ?_
    refine WP.pick [1, 5, 9, 10, 11] ?_
    refine WP.loopF (fun k5 L' G' Γ' => ∃ (y3 : List Int), ∃ (y4 : Int), vector_fold_l0 l0 k5 y3 y4 = some os1 ∧ ∃ (Ay3 : Option Addr), ∃ (cy3 : Nat), ∃ (Cy3 : Chunk), L' = [(1, .func (.func 56) #[] #[]), (5, .slice Ay3 y3.length cy3), (9, .slice Al0 l0.length cl0), (10, .int .i64 (l0.length : Int)), (11, .int .i64 y4)] ∧ G = G' ∧ Cy3 :: Γ = Γ' ∧ Ow (kInt .i64) G Ay3 cy3 y3 Cy3) ?_ k ⟨([] : List Int), 0, h, none, 0, [], rfl, rfl, rfl, (Ow.nil _ _)⟩
    clear h
    rintro k6 _ _ _ ⟨y3, y4, h, Ay3, cy3, Cy3, rfl, rfl, rfl, Hy3⟩
    cases k6 with
    | zero => exact absurd h (by simp [vector_fold_l0])
    | succ k6 =>
      simp only [vector_fold_l0] at h
      refine WP.seqP [1, 5, 9, 10, 11, 12] (L' := [(1, .func (.func 56) #[] #[]), (5, .slice Ay3 y3.length cy3), (9, .slice Al0 l0.length cl0), (10, .int .i64 (l0.length : Int)), (11, .int .i64 y4), (12, .bool (decide (y4 < (l0.length : Int))))]) (by kernel_rfl) ?_
      refine WP.seq ?_
      refine WP.cond (b := decide (y4 < (l0.length : Int))) (by kernel_rfl) (fun hc => ?_) (fun hc => ?_)
      · replace hc := of_decide_eq_true hc
        rw [if_pos hc] at h
        have hc7 := hc
        clear hc
        refine WP.skip ?_
        refine QP.next ?_
        refine WP.pick [1, 5, 9, 10, 11] ?_
        refine WP.seq ?_
        refine WP.block ?_
        refine WP.seqR ?_
        refine WL.pure 0 1 [1, 5, 9, 10, 11, 13] (L' := [(1, .func (.func 56) #[] #[]), (5, .slice Ay3 y3.length cy3), (9, .slice Al0 l0.length cl0), (10, .int .i64 (l0.length : Int)), (11, .int .i64 y4), (13, .int .i64 y4)]) (by kernel_rfl) (by decide) ?_
        by_cases hb8 : 0 ≤ y4 ∧ y4 < (l0.length : Int)
        case neg => rw [if_neg hb8] at h; cases h
        rw [if_pos hb8] at h
        refine WL.tell (op := .indexAddr 84 (.tmp 9) (.tmp 11)) (ty := 0) (d := some 14) (g := none) (by kernel_rfl) (by kernel_rfl) (by kernel_rfl) (Tells.indexAddr (A := Al0) (n := l0.length) (c := cl0) (k := .i64) (j := y4) (by kernel_rfl) (by kernel_rfl) (Hl0.isSome hb8.1 hb8.2) hb8.1 hb8.2 sl84) ?_
        refine WL.tellE (op := .load 52 (.tmp 14)) (ty := 52) (d := some 15) (g := none) (by kernel_rfl) (by kernel_rfl) (by kernel_rfl) (Hl0.load (agg := false) hb8.1 hb8.2 [] ag52 (fun _ => rfl) (by kernel_rfl)) ?_
        rintro _ ⟨Ae9, ce9, rfl, He9⟩
        refine WL.restQ 3 [1, 5, 6, 7, 9, 10, 11] (L' := [(1, .func (.func 56) #[] #[]), (5, .slice Ay3 y3.length cy3), (6, .int .i64 y4), (7, .slice Ae9 (l0.getD y4.toNat []).length ce9), (9, .slice Al0 l0.length cl0), (10, .int .i64 (l0.length : Int)), (11, .int .i64 y4)]) (by kernel_rfl) ?_
        refine WP.seq ?_
        refine WP.seqP [1, 5, 7, 9, 10, 11, 17] (L' := [(1, .func (.func 56) #[] #[]), (5, .slice Ay3 y3.length cy3), (7, .slice Ae9 (l0.getD y4.toNat []).length ce9), (9, .slice Al0 l0.length cl0), (10, .int .i64 (l0.length : Int)), (11, .int .i64 y4), (17, .bool (y4 == 0))]) (by kernel_rfl) ?_
        refine WP.cond (b := (y4 == 0)) (by kernel_rfl) (fun hc => ?_) (fun hc => ?_)
        · replace hc := eq_of_beq hc
          rw [if_pos hc] at h
          have hc10 := hc
          clear hc
          refine WP.seqR ?_
          refine WL.pure 0 2 [1, 5, 9, 10, 11, 18, 19] (L' := [(1, .func (.func 56) #[] #[]), (5, .slice Ay3 y3.length cy3), (9, .slice Al0 l0.length cl0), (10, .int .i64 (l0.length : Int)), (11, .int .i64 y4), (18, .slice Ay3 y3.length cy3), (19, .slice Ae9 (l0.getD y4.toNat []).length ce9)]) (by kernel_rfl) (by decide) ?_
          by_cases hb11 : y3.length + (l0.getD y4.toNat []).length ≤ 1073741824
          case neg => rw [if_neg hb11] at h; cases h
          rw [if_pos hb11] at h
          refine WL.op (op := .call { callee := (.builtin .append), args := #[(.tmp 18), (.tmp 19)], argTypes := #[52, 52] }) (ty := 52) (d := some 20) (g := none) (by kernel_rfl) (by kernel_rfl) (by kernel_rfl) (Ow.append (ys := (l0.getD y4.toNat [])) (v := .slice Ae9 (l0.getD y4.toNat []).length ce9) Hy3 (i := 0) rfl (by kernel_rfl) (by kernel_rfl) He9.src sl52 ze3 nt52 (by decide) hb11) ?_
          rintro _ _ _ ⟨rfl, AN12, cN12, CN12, rfl, HN12, rfl⟩
          refine WL.restQ 3 [1, 5, 9, 10, 11] (L' := [(1, .func (.func 56) #[] #[]), (5, .slice AN12 (y3 ++ (l0.getD y4.toNat [])).length cN12), (9, .slice Al0 l0.length cl0), (10, .int .i64 (l0.length : Int)), (11, .int .i64 y4)]) (by kernel_rfl) ?_
          refine WP.exit ?_
          refine QP.thenE ?_
          refine QP.blockE ?_
          refine QP.next ?_
          refine WP.pick [1, 5, 9, 10, 11] ?_
          refine WP.regionP [1, 5, 9, 10, 11] (L' := [(1, .func (.func 56) #[] #[]), (5, .slice AN12 (y3 ++ (l0.getD y4.toNat [])).length cN12), (9, .slice Al0 l0.length cl0), (10, .int .i64 (l0.length : Int)), (11, .int .i64 (IntKind.i64.wrap (y4 + 1)))]) (by kernel_rfl) ?_
          refine QP.pick [1, 5, 9, 10, 11] ?_
          exact QP.meet ⟨k6, Nat.lt_succ_self _, (y3 ++ (l0.getD y4.toNat [])), (IntKind.i64.wrap (y4 + 1)), h, AN12, cN12, CN12, rfl, rfl, rfl, HN12⟩
        · replace hc := ne_of_beq_false hc
          rw [if_neg hc] at h
          have hc10 := hc
          clear hc
          refine WP.skip ?_
          refine QP.next ?_
          refine WP.pick [1, 5, 7, 9, 10, 11] ?_
          refine WP.seq ?_
          refine WP.seqP [1, 5, 7, 9, 10, 11, 25] (L' := [(1, .func (.func 56) #[] #[]), (5, .slice Ay3 y3.length cy3), (7, .slice Ae9 (l0.getD y4.toNat []).length ce9), (9, .slice Al0 l0.length cl0), (10, .int .i64 (l0.length : Int)), (11, .int .i64 y4), (25, .bool (((l0.getD y4.toNat []).length : Int) != (y3.length : Int)))]) (by kernel_rfl) ?_
          refine WP.cond (b := (((l0.getD y4.toNat []).length : Int) != (y3.length : Int))) (by kernel_rfl) (fun hc => ?_) (fun hc => ?_)
          · replace hc := (bne_iff_ne.1 hc)
            rw [if_pos hc] at h
            have hc13 := hc
            clear hc
            refine WP.seqP [4] (L' := [(4, .slice none 0 0)]) (by kernel_rfl) ?_
            refine WP.dropAt 0 ?_
            refine WP.ret ?_
            refine QP.thenR ?_
            refine QP.blockR ?_
            refine QP.thenR ?_
            refine QP.thenR ?_
            refine QP.blockR ?_
            refine QP.thenR ?_
            refine QP.thenR ?_
            obtain rfl := Option.some.inj h
            obtain rfl := Option.some.inj (show some _ = some _ from hk2)
            refine QP.addNil ?_
            exact QP.returned [4] [.slice none 0 0] _ (by kernel_rfl) (by kernel_rfl) (by kernel_rfl) (fun W hI => ⟨_, _, _, rfl, ⟨none, 0, [], rfl, Ow.nil _ _, rfl, rfl⟩, hI⟩)
          · replace hc := (not_not_intro (bne_eq_false_iff_eq.1 hc))
            rw [if_neg hc] at h
            have hc13 := hc
            clear hc
            refine WP.skip ?_
            refine QP.next ?_
            refine WP.pick [1, 5, 7, 9, 10, 11] ?_
            refine WP.seqP [1, 5, 7, 9, 10, 11, 27, 28] (L' := [(1, .func (.func 56) #[] #[]), (5, .slice Ay3 y3.length cy3), (7, .slice Ae9 (l0.getD y4.toNat []).length ce9), (9, .slice Al0 l0.length cl0), (10, .int .i64 (l0.length : Int)), (11, .int .i64 y4), (27, .int .i64 (y3.length : Int)), (28, .int .i64 0)]) (by kernel_rfl) ?_
            rw [Option.bind_eq_some_iff] at h
            obtain ⟨os14, h, hk15⟩ := h
            refine WP.cutQ (fun L' G' Γ' => ∃ s14 : (List Int), s14 = os14 ∧ ∃ (As14 : Option Addr), ∃ (cs14 : Nat), ∃ (Cs14 : Chunk), L' = [(1, .func (.func 56) #[] #[]), (5, .slice As14 s14.length cs14), (9, .slice Al0 l0.length cl0), (10, .int .i64 (l0.length : Int)), (11, .int .i64 y4)] ∧ G = G' ∧ Cs14 :: Γ = Γ' ∧ Ow (kInt .i64) G As14 cs14 s14 Cs14) ?_ ?_
            · clear hk15
              refine WP.block ?_
              refine WP.pick [1, 5, 7, 9, 10, 11, 27, 28] ?_
              refine WP.loopF (fun k18 L' G' Γ' => ∃ (y16 : Int), ∃ (y17 : List Int), vector_fold_l1 l0 y3 y4 k18 y16 y17 = some os14 ∧ ∃ (Ay17 : Option Addr), ∃ (cy17 : Nat), ∃ (Cy17 : Chunk), L' = [(1, .func (.func 56) #[] #[]), (5, .slice Ay17 y17.length cy17), (7, .slice Ae9 (l0.getD y4.toNat []).length ce9), (9, .slice Al0 l0.length cl0), (10, .int .i64 (l0.length : Int)), (11, .int .i64 y4), (27, .int .i64 (y3.length : Int)), (28, .int .i64 y16)] ∧ G = G' ∧ Cy17 :: Γ = Γ' ∧ Ow (kInt .i64) G Ay17 cy17 y17 Cy17) ?_ k6 ⟨0, y3, h, Ay3, cy3, Cy3, rfl, rfl, rfl, Hy3⟩
              clear h
              rintro k19 _ _ _ ⟨y16, y17, h, Ay17, cy17, Cy17, rfl, rfl, rfl, Hy17⟩
              cases k19 with
              | zero => exact absurd h (by simp [vector_fold_l1])
              | succ k19 =>
                simp only [vector_fold_l1] at h
                refine WP.seqP [1, 5, 7, 9, 10, 11, 27, 28, 29] (L' := [(1, .func (.func 56) #[] #[]), (5, .slice Ay17 y17.length cy17), (7, .slice Ae9 (l0.getD y4.toNat []).length ce9), (9, .slice Al0 l0.length cl0), (10, .int .i64 (l0.length : Int)), (11, .int .i64 y4), (27, .int .i64 (y3.length : Int)), (28, .int .i64 y16), (29, .bool (decide (y16 < (y3.length : Int))))]) (by kernel_rfl) ?_
                refine WP.seq ?_
                refine WP.cond (b := decide (y16 < (y3.length : Int))) (by kernel_rfl) (fun hc => ?_) (fun hc => ?_)
                · replace hc := of_decide_eq_true hc
                  rw [if_pos hc] at h
                  have hc20 := hc
                  clear hc
                  refine WP.skip ?_
                  refine QP.next ?_
                  refine WP.pick [1, 5, 7, 9, 10, 11, 27, 28] ?_
                  refine WP.seq ?_
                  refine WP.block ?_
                  refine WP.seqP [1, 5, 7, 8, 9, 10, 11, 27, 28] (L' := [(1, .func (.func 56) #[] #[]), (5, .slice Ay17 y17.length cy17), (7, .slice Ae9 (l0.getD y4.toNat []).length ce9), (8, .int .i64 y16), (9, .slice Al0 l0.length cl0), (10, .int .i64 (l0.length : Int)), (11, .int .i64 y4), (27, .int .i64 (y3.length : Int)), (28, .int .i64 y16)]) (by kernel_rfl) ?_
                  skip
                  refine WP.any (N := 14) (S := [⟨some 31, [5], []⟩, ⟨some 32, [8], []⟩, ⟨some 33, [1], []⟩, ⟨some 34, [5], []⟩, ⟨some 35, [8], []⟩, ⟨some 36, [34, 35], [3, 4]⟩, ⟨some 37, [36], [5]⟩, ⟨some 38, [7], []⟩, ⟨some 39, [8], []⟩, ⟨some 40, [38, 39], [7, 8]⟩, ⟨some 41, [40], [9]⟩, ⟨some 42, [33, 37, 41], [2, 6, 10]⟩, ⟨some 43, [31, 32], [0, 1, 2, 3, 4, 5, 6, 7, 8, 9, 10, 11]⟩, ⟨none, [42, 43], [0, 1, 2, 3, 4, 5, 6, 7, 8, 9, 10, 11, 12]⟩]) (kw := 13) (G0 := G) (Γ0 := Cy17 :: Γ) mo (by kernel_rfl) (fun hS => ?_)
                  refine WA.pure [0, 1, 2, 3, 4, 7, 8] [1, 5, 7, 9, 10, 11, 27, 28, 31, 32, 33, 34, 35, 38, 39] (m := 7) (b' := 415) (L' := [(1, .func (.func 56) #[] #[]), (5, .slice Ay17 y17.length cy17), (7, .slice Ae9 (l0.getD y4.toNat []).length ce9), (9, .slice Al0 l0.length cl0), (10, .int .i64 (l0.length : Int)), (11, .int .i64 y4), (27, .int .i64 (y3.length : Int)), (28, .int .i64 y16), (31, .slice Ay17 y17.length cy17), (32, .int .i64 y16), (33, .func (.func 56) #[] #[]), (34, .slice Ay17 y17.length cy17), (35, .int .i64 y16), (38, .slice Ae9 (l0.getD y4.toNat []).length ce9), (39, .int .i64 y16)]) (by kernel_rfl) (NoPanic.block (NoPanic.then (NoPanic.then (NoPanic.block (NoPanic.then (NoPanic.block (NoPanic.then (NoPanic.then (NoPanic.block (NoPanic.then (NoPanic.then (NoPanic.body)))))))))))) Under.refl hS (by kernel_rfl) ?_
                  by_cases hb21 : 0 ≤ y16 ∧ y16 < (y17.length : Int)
                  case neg => rw [if_neg hb21] at h; cases h
                  rw [if_pos hb21] at h
                  refine WA.tell (i := 5) (m := 6) (b' := 447) (by kernel_rfl) (NoPanic.block (NoPanic.then (NoPanic.then (NoPanic.block (NoPanic.then (NoPanic.block (NoPanic.then (NoPanic.then (NoPanic.block (NoPanic.then (NoPanic.then (NoPanic.body)))))))))))) Under.refl hS (by kernel_rfl) (op := .indexAddr 52 (.tmp 34) (.tmp 35)) (ty := 0) (d := some 36) (g := none) (by kernel_rfl) (by kernel_rfl) (by kernel_rfl) (Tells.indexAddr (A := Ay17) (n := y17.length) (c := cy17) (k := .i64) (j := y16) (by kernel_rfl) (by kernel_rfl) (Hy17.isSome hb21.1 hb21.2) hb21.1 hb21.2 sl52) ?_
                  refine WA.tellE (i := 6) (m := 5) (b' := 511) (by kernel_rfl) (NoPanic.block (NoPanic.then (NoPanic.then (NoPanic.block (NoPanic.then (NoPanic.block (NoPanic.then (NoPanic.then (NoPanic.block (NoPanic.then (NoPanic.then (NoPanic.body)))))))))))) Under.refl hS (by kernel_rfl) (op := .load 3 (.tmp 36)) (ty := 3) (d := some 37) (g := none) (by kernel_rfl) (by kernel_rfl) (by kernel_rfl) (Hy17.load (i := 0) rfl (agg := false) hb21.1 hb21.2 0 ag3 (fun _ => rfl) (by kernel_rfl)) ?_
                  rintro _ rfl
                  by_cases hb22 : 0 ≤ y16 ∧ y16 < ((l0.getD y4.toNat []).length : Int)
                  case neg => rw [if_neg hb22] at h; cases h
                  rw [if_pos hb22] at h
                  refine WA.tell (i := 9) (m := 4) (b' := 1023) (by kernel_rfl) (NoPanic.block (NoPanic.then (NoPanic.then (NoPanic.block (NoPanic.then (NoPanic.block (NoPanic.then (NoPanic.then (NoPanic.block (NoPanic.then (NoPanic.then (NoPanic.body)))))))))))) Under.refl hS (by kernel_rfl) (op := .indexAddr 52 (.tmp 38) (.tmp 39)) (ty := 0) (d := some 40) (g := none) (by kernel_rfl) (by kernel_rfl) (by kernel_rfl) (Tells.indexAddr (A := Ae9) (n := (l0.getD y4.toNat []).length) (c := ce9) (k := .i64) (j := y16) (by kernel_rfl) (by kernel_rfl) (He9.isSome hb22.1 hb22.2) hb22.1 hb22.2 sl52) ?_
                  refine WA.tellE (i := 10) (m := 3) (b' := 2047) (by kernel_rfl) (NoPanic.block (NoPanic.then (NoPanic.then (NoPanic.block (NoPanic.then (NoPanic.block (NoPanic.then (NoPanic.then (NoPanic.block (NoPanic.then (NoPanic.then (NoPanic.body)))))))))))) Under.refl hS (by kernel_rfl) (op := .load 3 (.tmp 40)) (ty := 3) (d := some 41) (g := none) (by kernel_rfl) (by kernel_rfl) (by kernel_rfl) (He9.load (agg := false) hb22.1 hb22.2 0 ag3 (fun _ => rfl) (by kernel_rfl)) ?_
                  rintro _ rfl
                  rw [Option.bind_eq_some_iff] at h
                  obtain ⟨t23, ht24, h⟩ := h
                  refine WA.op (i := 11) (m := 2) (b' := 4095) (by kernel_rfl) hS (by kernel_rfl) (op := .call { callee := (.value (.tmp 33)), args := #[(.tmp 37), (.tmp 41)], argTypes := #[3, 3] }) (ty := 3) (d := some 42) (g := none) (by kernel_rfl) (by kernel_rfl) (by kernel_rfl) (Does.call (f := 56) (args := [.int .i64 (y17.getD y16.toNat 0), .int .i64 ((l0.getD y4.toNat []).getD y16.toNat 0)]) (by kernel_rfl) (fun W hI => (vector_Join_1_calls (y17.getD y16.toNat 0) ((l0.getD y4.toNat []).getD y16.toNat 0)  t23 ht24 hI))) ?_
                  rintro _ _ _ ⟨rfl, rfl, rfl⟩
                  refine ⟨_, _, Under.refl, Under.refl, ?_⟩
                  by_cases hb25 : 0 ≤ y16 ∧ y16 < (y17.length : Int)
                  case neg => rw [if_neg hb25] at h; cases h
                  rw [if_pos hb25] at h
                  refine WA.tell (i := 12) (m := 1) (b' := 8191) (by kernel_rfl) (NoPanic.block (NoPanic.then (NoPanic.then (NoPanic.block (NoPanic.then (NoPanic.block (NoPanic.then (NoPanic.then (NoPanic.block (NoPanic.then (NoPanic.then (NoPanic.body)))))))))))) Under.refl hS (by kernel_rfl) (op := .indexAddr 52 (.tmp 31) (.tmp 32)) (ty := 0) (d := some 43) (g := none) (by kernel_rfl) (by kernel_rfl) (by kernel_rfl) (Tells.indexAddr (A := Ay17) (n := y17.length) (c := cy17) (k := .i64) (j := y16) (by kernel_rfl) (by kernel_rfl) (Hy17.isSome hb25.1 hb25.2) hb25.1 hb25.2 sl52) ?_
                  refine WA.opK (i := 13) (kw' := 14) (m := 0) (b' := 16383) (by kernel_rfl) rfl hS (by kernel_rfl) (op := .store 3 (.tmp 43) (.tmp 42)) (ty := 0) (d := none) (g := none) (by kernel_rfl) (by kernel_rfl) (by kernel_rfl) (Ow.store Hy17 (i := 0) rfl hb25.1 hb25.2 (z := t23) (v := .int .i64 t23) (by kernel_rfl) (by kernel_rfl) sz3 (by exact rfl)) ?_
                  rintro _ _ _ ⟨rfl, rfl, C26, Ho27, rfl⟩
                  refine ⟨_, _, Under.refl, ?_⟩
                  refine WA.reput 5 (v := .slice Ay17 y17.length cy17) (v' := .slice Ay17 (y17.set y16.toNat t23).length cy17) (by kernel_rfl) (by rw [List.length_set]) ?_
                  refine WA.done hS (by kernel_rfl) ?_
                  refine QP.pick [1, 5, 7, 9, 10, 11, 27, 28] ?_
                  refine QP.blockN ?_
                  refine QP.next ?_
                  refine WP.pick [1, 5, 7, 9, 10, 11, 27, 28] ?_
                  refine WP.regionP [1, 5, 7, 9, 10, 11, 27, 28] (L' := [(1, .func (.func 56) #[] #[]), (5, .slice Ay17 (y17.set y16.toNat t23).length cy17), (7, .slice Ae9 (l0.getD y4.toNat []).length ce9), (9, .slice Al0 l0.length cl0), (10, .int .i64 (l0.length : Int)), (11, .int .i64 y4), (27, .int .i64 (y3.length : Int)), (28, .int .i64 (IntKind.i64.wrap (y16 + 1)))]) (by kernel_rfl) ?_
                  refine QP.pick [1, 5, 7, 9, 10, 11, 27, 28] ?_
                  exact QP.meet ⟨k19, Nat.lt_succ_self _, (IntKind.i64.wrap (y16 + 1)), (y17.set y16.toNat t23), h, Ay17, cy17, C26, rfl, rfl, rfl, Ho27⟩
                · replace hc := of_decide_eq_false hc
                  rw [if_neg hc] at h
                  have hc20 := hc
                  clear hc
                  refine WP.exit ?_
                  refine QP.thenE ?_
                  refine QP.thenE ?_
                  refine QP.blockE ?_
                  refine QP.pick [1, 5, 9, 10, 11] ?_
                  exact QP.meet ⟨_, Option.some.inj h, Ay17, cy17, Cy17, rfl, rfl, rfl, Hy17⟩
            · rintro _ _ _ ⟨s14, rfl, As14, cs14, Cs14, rfl, rfl, rfl, Hs14⟩
              clear h
              replace h := hk15
              refine QP.blockN ?_
              refine QP.next ?_
              refine WP.pick [1, 5, 9, 10, 11] ?_
              refine WP.regionP [1, 5, 9, 10, 11] (L' := [(1, .func (.func 56) #[] #[]), (5, .slice As14 s14.length cs14), (9, .slice Al0 l0.length cl0), (10, .int .i64 (l0.length : Int)), (11, .int .i64 (IntKind.i64.wrap (y4 + 1)))]) (by kernel_rfl) ?_
              refine QP.pick [1, 5, 9, 10, 11] ?_
              exact QP.meet ⟨k6, Nat.lt_succ_self _, s14, (IntKind.i64.wrap (y4 + 1)), h, As14, cs14, Cs14, rfl, rfl, rfl, Hs14⟩
      · replace hc := of_decide_eq_false hc
        rw [if_neg hc] at h
        have hc7 := hc
        clear hc
        refine WP.exit ?_
        refine QP.thenE ?_
        refine QP.thenE ?_
        refine QP.blockE ?_
        refine QP.pick [5] ?_
        exact QP.meet ⟨_, Option.some.inj h, Ay3, cy3, Cy3, rfl, rfl, rfl, Hy3⟩
  · rintro _ _ _ ⟨s1, rfl, As1, cs1, Cs1, rfl, rfl, rfl, Hs1⟩
    clear h
    replace h := hk2
    refine QP.next ?_
    refine WP.pick [5] ?_
    refine WP.seqP [4] (L' := [(4, .slice As1 s1.length cs1)]) (by kernel_rfl) ?_
    refine WP.ret ?_
    obtain rfl := Option.some.inj h
    exact QP.returned [4] [.slice As1 s1.length cs1] _ (by kernel_rfl) (by kernel_rfl) (by kernel_rfl) (fun W hI => ⟨_, _, _, rfl, ⟨As1, cs1, Cs1, rfl, Hs1, rfl, rfl⟩, hI⟩)

/-! ### grapevine/vector.Join: function 33 -/
def vector_Join (k : Nat) (l0 : List (List Int)) : Option (List Int) := ((vector_fold k l0).bind fun t1 => some t1)
set_option maxHeartbeats 4000000 in
theorem vector_Join_calls {B : World} {G : GMap} {Γ : List Chunk} {W : World} (k : Nat) (l0 : List (List Int)) (Al0 : Option Addr) (cl0 : Nat) (Hl0 : Rd (kSlice (kInt .i64)) G Al0 cl0 l0) (r : List Int) (h : vector_Join k l0 = some r) (hI : Inv B G (Γ) W) :
    Calls Try.prog 33 [.slice Al0 l0.length cl0].toArray W (Ret B (fun v G' Γ' => ∃ (AR : Option Addr), ∃ (cR : Nat), ∃ (CR : Chunk), v = .slice AR r.length cR ∧ Ow (kInt .i64) G' AR cR r CR ∧ G = G' ∧ CR :: Γ = Γ')) := by
  refine calls_WP (Γ := Γ) (G := G) (B := B) Try.func33 rfl (by kernel_rfl) ?_ hI
  clear hI
  unfold vector_Join at h
  refine WP.seqP [0] (L' := [(0, .slice Al0 l0.length cl0)]) (by kernel_rfl) ?_
  refine WP.seqR ?_
  refine WL.pure 0 1 [3] (L' := [(3, .slice Al0 l0.length cl0)]) (by kernel_rfl) (by decide) ?_
  rw [Option.bind_eq_some_iff] at h
  obtain ⟨t1, ht2, h⟩ := h
  refine WL.op (op := .call { callee := (.value (.func 55)), args := #[(.tmp 3), (.func 56)], argTypes := #[84, 50] }) (ty := 52) (d := some 4) (g := none) (by kernel_rfl) (by kernel_rfl) (by kernel_rfl) (Does.call (f := 55) (args := [.slice Al0 l0.length cl0, .func (.func 56) #[] #[]]) (by kernel_rfl) (fun W hI => (vector_fold_calls k l0 Al0 cl0 Hl0 t1 ht2 hI))) ?_
  rintro _ _ _ ⟨AR3, cR3, CR3, rfl, HR3, rfl, rfl⟩
  refine WL.restQ 2 [2] (L' := [(2, .slice AR3 t1.length cR3)]) (by kernel_rfl) ?_
  refine WP.ret ?_
  obtain rfl := Option.some.inj h
  exact QP.returned [2] [.slice AR3 t1.length cR3] _ (by kernel_rfl) (by kernel_rfl) (by kernel_rfl) (fun W hI => ⟨_, _, _, rfl, ⟨AR3, cR3, CR3, rfl, HR3, rfl, rfl⟩, hI⟩)

/-! ### grapevine/vector.Meet$1: function 57 -/
def vector_Meet_1 (a0 : Int) (a1 : Int) : Option Int := some (if a1 < a0 then a1 else a0)
set_option maxHeartbeats 4000000 in
theorem vector_Meet_1_calls {B : World} {G : GMap} {Γ : List Chunk} {W : World} (a0 : Int) (a1 : Int) (r : Int) (h : vector_Meet_1 a0 a1 = some r) (hI : Inv B G (Γ) W) :
    Calls Try.prog 57 [.int .i64 a0, .int .i64 a1].toArray W (Ret B (fun v G' Γ' => v = .int .i64 r ∧ G = G' ∧ Γ = Γ')) := by
  refine calls_WP (Γ := Γ) (G := G) (B := B) Try.func57 rfl (by kernel_rfl) ?_ hI
  clear hI
  unfold vector_Meet_1 at h
  refine WP.seqP [0, 1] (L' := [(0, .int .i64 a0), (1, .int .i64 a1)]) (by kernel_rfl) ?_
  refine WP.seqP [4] (L' := [(4, .int .i64 (if a1 < a0 then a1 else a0))]) (by kernel_rfl) ?_
  refine WP.ret ?_
  obtain rfl := Option.some.inj h
  exact QP.returned [4] [.int .i64 (if a1 < a0 then a1 else a0)] _ (by kernel_rfl) (by kernel_rfl) (by kernel_rfl) (fun W hI => ⟨_, _, _, rfl, ⟨rfl, rfl, rfl⟩, hI⟩)

/-! ### grapevine/vector.fold: function 55 -/
def vector_fold_8_l1 (l0 : List (List Int)) (y3 : List Int) (y4 : Int) : Nat → Int → (List Int) → Option (List Int)
  | 0, _, _ => none
  | k + 1, y16, y17 => (if y16 < (y3.length : Int) then (if 0 ≤ y16 ∧ y16 < (y17.length : Int) then (if 0 ≤ y16 ∧ y16 < ((l0.getD y4.toNat []).length : Int) then ((vector_Meet_1 (y17.getD y16.toNat 0) ((l0.getD y4.toNat []).getD y16.toNat 0)).bind fun t23 => (if 0 ≤ y16 ∧ y16 < (y17.length : Int) then vector_fold_8_l1 l0 y3 y4 k (IntKind.i64.wrap (y16 + 1)) (y17.set y16.toNat t23) else none)) else none) else none) else some y17)
def vector_fold_8_l0 (l0 : List (List Int)) : Nat → (List Int) → Int → Option (Sum (List Int) (List Int))
  | 0, _, _ => none
  | k + 1, y3, y4 => (if y4 < (l0.length : Int) then (if 0 ≤ y4 ∧ y4 < (l0.length : Int) then (if y4 = 0 then (if y3.length + (l0.getD y4.toNat []).length ≤ 1073741824 then vector_fold_8_l0 l0 k (y3 ++ (l0.getD y4.toNat [])) (IntKind.i64.wrap (y4 + 1)) else none) else (if ¬ ((l0.getD y4.toNat []).length : Int) = (y3.length : Int) then some (Sum.inl ([] : List Int)) else ((vector_fold_8_l1 l0 y3 y4 k 0 y3).bind fun s14 => vector_fold_8_l0 l0 k s14 (IntKind.i64.wrap (y4 + 1))))) else none) else some (Sum.inr y3))
def vector_fold_8 (k : Nat) (l0 : List (List Int)) : Option (List Int) := ((vector_fold_8_l0 l0 k ([] : List Int) 0).bind fun os1 => match os1 with | Sum.inl r => some r | Sum.inr s1 => some s1)
set_option maxHeartbeats 4000000 in
theorem vector_fold_8_calls {B : World} {G : GMap} {Γ : List Chunk} {W : World} (k : Nat) (l0 : List (List Int)) (Al0 : Option Addr) (cl0 : Nat) (Hl0 : Rd (kSlice (kInt .i64)) G Al0 cl0 l0) (r : List Int) (h : vector_fold_8 k l0 = some r) (hI : Inv B G (Γ) W) :
    Calls Try.prog 55 [.slice Al0 l0.length cl0, .func (.func 57) #[] #[]].toArray W (Ret B (fun v G' Γ' => ∃ (AR : Option Addr), ∃ (cR : Nat), ∃ (CR : Chunk), v = .slice AR r.length cR ∧ Ow (kInt .i64) G' AR cR r CR ∧ G = G' ∧ CR :: Γ = Γ')) := by
  refine calls_WP (Γ := Γ) (G := G) (B := B) Try.func55 rfl (by kernel_rfl) ?_ hI
  clear hI
  unfold vector_fold_8 at h
  refine WP.seqP [0, 1] (L' := [(0, .slice Al0 l0.length cl0), (1, .func (.func 57) #[] #[])]) (by kernel_rfl) ?_
  refine WP.seqP [0, 1, 5] (L' := [(0, .slice Al0 l0.length cl0), (1, .func (.func 57) #[] #[]), (5, .slice none 0 0)]) (by kernel_rfl) ?_
  refine WP.seq ?_
  refine WP.seqP [1, 5, 9, 10, 11] (L' := [(1, .func (.func 57) #[] #[]), (5, .slice none 0 0), (9, .slice Al0 l0.length cl0), (10, .int .i64 (l0.length : Int)), (11, .int .i64 0)]) (by kernel_rfl) ?_
  rw [Option.bind_eq_some_iff] at h
  obtain ⟨os1, h, hk2⟩ := h
  refine WP.cutQ (fun L' G' Γ' => ∃ s1 : (List Int), Sum.inr s1 = os1 ∧ ∃ (As1 : Option Addr), ∃ (cs1 : Nat), ∃ (Cs1 : Chunk), L' = [(5, .slice As1 s1.length cs1)] ∧ G = G' ∧ Cs1 :: Γ = Γ' ∧ Ow (kInt .i64) G As1 cs1 s1 Cs1) ?_ ?_
  · skip
    refine WP.block ?_
    refine WP.addNil ?_
    refine WP.pick [1, 5, 9, 10, 11] ?_
    refine WP.loopF (fun k5 L' G' Γ' => ∃ (y3 : List Int), ∃ (y4 : Int), vector_fold_8_l0 l0 k5 y3 y4 = some os1 ∧ ∃ (Ay3 : Option Addr), ∃ (cy3 : Nat), ∃ (Cy3 : Chunk), L' = [(1, .func (.func 57) #[] #[]), (5, .slice Ay3 y3.length cy3), (9, .slice Al0 l0.length cl0), (10, .int .i64 (l0.length : Int)), (11, .int .i64 y4)] ∧ G = G' ∧ Cy3 :: Γ = Γ' ∧ Ow (kInt .i64) G Ay3 cy3 y3 Cy3) ?_ k ⟨([] : List Int), 0, h, none, 0, [], rfl, rfl, rfl, (Ow.nil _ _)⟩
    clear h
    rintro k6 _ _ _ ⟨y3, y4, h, Ay3, cy3, Cy3, rfl, rfl, rfl, Hy3⟩
    cases k6 with
    | zero => exact absurd h (by simp [vector_fold_8_l0])
    | succ k6 =>
      simp only [vector_fold_8_l0] at h
      refine WP.seqP [1, 5, 9, 10, 11, 12] (L' := [(1, .func (.func 57) #[] #[]), (5, .slice Ay3 y3.length cy3), (9, .slice Al0 l0.length cl0), (10, .int .i64 (l0.length : Int)), (11, .int .i64 y4), (12, .bool (decide (y4 < (l0.length : Int))))]) (by kernel_rfl) ?_
      refine WP.seq ?_
      refine WP.cond (b := decide (y4 < (l0.length : Int))) (by kernel_rfl) (fun hc => ?_) (fun hc => ?_)
      · replace hc := of_decide_eq_true hc
        rw [if_pos hc] at h
        have hc7 := hc
        clear hc
        refine WP.skip ?_
        refine QP.next ?_
        refine WP.pick [1, 5, 9, 10, 11] ?_
        refine WP.seq ?_
        refine WP.block ?_
        refine WP.seqR ?_
        refine WL.pure 0 1 [1, 5, 9, 10, 11, 13] (L' := [(1, .func (.func 57) #[] #[]), (5, .slice Ay3 y3.length cy3), (9, .slice Al0 l0.length cl0), (10, .int .i64 (l0.length : Int)), (11, .int .i64 y4), (13, .int .i64 y4)]) (by kernel_rfl) (by decide) ?_
        by_cases hb8 : 0 ≤ y4 ∧ y4 < (l0.length : Int)
        case neg => rw [if_neg hb8] at h; cases h
        rw [if_pos hb8] at h
        refine WL.tell (op := .indexAddr 84 (.tmp 9) (.tmp 11)) (ty := 0) (d := some 14) (g := none) (by kernel_rfl) (by kernel_rfl) (by kernel_rfl) (Tells.indexAddr (A := Al0) (n := l0.length) (c := cl0) (k := .i64) (j := y4) (by kernel_rfl) (by kernel_rfl) (Hl0.isSome hb8.1 hb8.2) hb8.1 hb8.2 sl84) ?_
        refine WL.tellE (op := .load 52 (.tmp 14)) (ty := 52) (d := some 15) (g := none) (by kernel_rfl) (by kernel_rfl) (by kernel_rfl) (Hl0.load (agg := false) hb8.1 hb8.2 [] ag52 (fun _ => rfl) (by kernel_rfl)) ?_
        rintro _ ⟨Ae9, ce9, rfl, He9⟩
        refine WL.restQ 3 [1, 5, 6, 7, 9, 10, 11] (L' := [(1, .func (.func 57) #[] #[]), (5, .slice Ay3 y3.length cy3), (6, .int .i64 y4), (7, .slice Ae9 (l0.getD y4.toNat []).length ce9), (9, .slice Al0 l0.length cl0), (10, .int .i64 (l0.length : Int)), (11, .int .i64 y4)]) (by kernel_rfl) ?_
        refine WP.seq ?_
        refine WP.seqP [1, 5, 7, 9, 10, 11, 17] (L' := [(1, .func (.func 57) #[] #[]), (5, .slice Ay3 y3.length cy3), (7, .slice Ae9 (l0.getD y4.toNat []).length ce9), (9, .slice Al0 l0.length cl0), (10, .int .i64 (l0.length : Int)), (11, .int .i64 y4), (17, .bool (y4 == 0))]) (by kernel_rfl) ?_
        refine WP.cond (b := (y4 == 0)) (by kernel_rfl) (fun hc => ?_) (fun hc => ?_)
        · replace hc := eq_of_beq hc
          rw [if_pos hc] at h
          have hc10 := hc
          clear hc
          refine WP.seqR ?_
          refine WL.pure 0 2 [1, 5, 9, 10, 11, 18, 19] (L' := [(1, .func (.func 57) #[] #[]), (5, .slice Ay3 y3.length cy3), (9, .slice Al0 l0.length cl0), (10, .int .i64 (l0.length : Int)), (11, .int .i64 y4), (18, .slice Ay3 y3.length cy3), (19, .slice Ae9 (l0.getD y4.toNat []).length ce9)]) (by kernel_rfl) (by decide) ?_
          by_cases hb11 : y3.length + (l0.getD y4.toNat []).length ≤ 1073741824
          case neg => rw [if_neg hb11] at h; cases h
          rw [if_pos hb11] at h
          refine WL.op (op := .call { callee := (.builtin .append), args := #[(.tmp 18), (.tmp 19)], argTypes := #[52, 52] }) (ty := 52) (d := some 20) (g := none) (by kernel_rfl) (by kernel_rfl) (by kernel_rfl) (Ow.append (ys := (l0.getD y4.toNat [])) (v := .slice Ae9 (l0.getD y4.toNat []).length ce9) Hy3 (i := 0) rfl (by kernel_rfl) (by kernel_rfl) He9.src sl52 ze3 nt52 (by decide) hb11) ?_
          rintro _ _ _ ⟨rfl, AN12, cN12, CN12, rfl, HN12, rfl⟩
          refine WL.restQ 3 [1, 5, 9, 10, 11] (L' := [(1, .func (.func 57) #[] #[]), (5, .slice AN12 (y3 ++ (l0.getD y4.toNat [])).length cN12), (9, .slice Al0 l0.length cl0), (10, .int .i64 (l0.length : Int)), (11, .int .i64 y4)]) (by kernel_rfl) ?_
          refine WP.exit ?_
          refine QP.thenE ?_
          refine QP.blockE ?_
          refine QP.next ?_
          refine WP.pick [1, 5, 9, 10, 11] ?_
          refine WP.regionP [1, 5, 9, 10, 11] (L' := [(1, .func (.func 57) #[] #[]), (5, .slice AN12 (y3 ++ (l0.getD y4.toNat [])).length cN12), (9, .slice Al0 l0.length cl0), (10, .int .i64 (l0.length : Int)), (11, .int .i64 (IntKind.i64.wrap (y4 + 1)))]) (by kernel_rfl) ?_
          refine QP.pick [1, 5, 9, 10, 11] ?_
          exact QP.meet ⟨k6, Nat.lt_succ_self _, (y3 ++ (l0.getD y4.toNat [])), (IntKind.i64.wrap (y4 + 1)), h, AN12, cN12, CN12, rfl, rfl, rfl, HN12⟩
        · replace hc := ne_of_beq_false hc
          rw [if_neg hc] at h
          have hc10 := hc
          clear hc
          refine WP.skip ?_
          refine QP.next ?_
          refine WP.pick [1, 5, 7, 9, 10, 11] ?_
          refine WP.seq ?_
          refine WP.seqP [1, 5, 7, 9, 10, 11, 25] (L' := [(1, .func (.func 57) #[] #[]), (5, .slice Ay3 y3.length cy3), (7, .slice Ae9 (l0.getD y4.toNat []).length ce9), (9, .slice Al0 l0.length cl0), (10, .int .i64 (l0.length : Int)), (11, .int .i64 y4), (25, .bool (((l0.getD y4.toNat []).length : Int) != (y3.length : Int)))]) (by kernel_rfl) ?_
          refine WP.cond (b := (((l0.getD y4.toNat []).length : Int) != (y3.length : Int))) (by kernel_rfl) (fun hc => ?_) (fun hc => ?_)
          · replace hc := (bne_iff_ne.1 hc)
            rw [if_pos hc] at h
            have hc13 := hc
            clear hc
            refine WP.seqP [4] (L' := [(4, .slice none 0 0)]) (by kernel_rfl) ?_
            refine WP.dropAt 0 ?_
            refine WP.ret ?_
            refine QP.thenR ?_
            refine QP.blockR ?_
            refine QP.thenR ?_
            refine QP.thenR ?_
            refine QP.blockR ?_
            refine QP.thenR ?_
            refine QP.thenR ?_
            obtain rfl := Option.some.inj h
            obtain rfl := Option.some.inj (show some _ = some _ from hk2)
            refine QP.addNil ?_
            exact QP.returned [4] [.slice none 0 0] _ (by kernel_rfl) (by kernel_rfl) (by kernel_rfl) (fun W hI => ⟨_, _, _, rfl, ⟨none, 0, [], rfl, Ow.nil _ _, rfl, rfl⟩, hI⟩)
          · replace hc := (not_not_intro (bne_eq_false_iff_eq.1 hc))
            rw [if_neg hc] at h
            have hc13 := hc
            clear hc
            refine WP.skip ?_
            refine QP.next ?_
            refine WP.pick [1, 5, 7, 9, 10, 11] ?_
            refine WP.seqP [1, 5, 7, 9, 10, 11, 27, 28] (L' := [(1, .func (.func 57) #[] #[]), (5, .slice Ay3 y3.length cy3), (7, .slice Ae9 (l0.getD y4.toNat []).length ce9), (9, .slice Al0 l0.length cl0), (10, .int .i64 (l0.length : Int)), (11, .int .i64 y4), (27, .int .i64 (y3.length : Int)), (28, .int .i64 0)]) (by kernel_rfl) ?_
            rw [Option.bind_eq_some_iff] at h
            obtain ⟨os14, h, hk15⟩ := h
            refine WP.cutQ (fun L' G' Γ' => ∃ s14 : (List Int), s14 = os14 ∧ ∃ (As14 : Option Addr), ∃ (cs14 : Nat), ∃ (Cs14 : Chunk), L' = [(1, .func (.func 57) #[] #[]), (5, .slice As14 s14.length cs14), (9, .slice Al0 l0.length cl0), (10, .int .i64 (l0.length : Int)), (11, .int .i64 y4)] ∧ G = G' ∧ Cs14 :: Γ = Γ' ∧ Ow (kInt .i64) G As14 cs14 s14 Cs14) ?_ ?_
            · clear hk15
              refine WP.block ?_
              refine WP.pick [1, 5, 7, 9, 10, 11, 27, 28] ?_
              refine WP.loopF (fun k18 L' G' Γ' => ∃ (y16 : Int), ∃ (y17 : List Int), vector_fold_8_l1 l0 y3 y4 k18 y16 y17 = some os14 ∧ ∃ (Ay17 : Option Addr), ∃ (cy17 : Nat), ∃ (Cy17 : Chunk), L' = [(1, .func (.func 57) #[] #[]), (5, .slice Ay17 y17.length cy17), (7, .slice Ae9 (l0.getD y4.toNat []).length ce9), (9, .slice Al0 l0.length cl0), (10, .int .i64 (l0.length : Int)), (11, .int .i64 y4), (27, .int .i64 (y3.length : Int)), (28, .int .i64 y16)] ∧ G = G' ∧ Cy17 :: Γ = Γ' ∧ Ow (kInt .i64) G Ay17 cy17 y17 Cy17) ?_ k6 ⟨0, y3, h, Ay3, cy3, Cy3, rfl, rfl, rfl, Hy3⟩
              clear h
              rintro k19 _ _ _ ⟨y16, y17, h, Ay17, cy17, Cy17, rfl, rfl, rfl, Hy17⟩
              cases k19 with
              | zero => exact absurd h (by simp [vector_fold_8_l1])
              | succ k19 =>
                simp only [vector_fold_8_l1] at h
                refine WP.seqP [1, 5, 7, 9, 10, 11, 27, 28, 29] (L' := [(1, .func (.func 57) #[] #[]), (5, .slice Ay17 y17.length cy17), (7, .slice Ae9 (l0.getD y4.toNat []).length ce9), (9, .slice Al0 l0.length cl0), (10, .int .i64 (l0.length : Int)), (11, .int .i64 y4), (27, .int .i64 (y3.length : Int)), (28, .int .i64 y16), (29, .bool (decide (y16 < (y3.length : Int))))]) (by kernel_rfl) ?_
                refine WP.seq ?_
                refine WP.cond (b := decide (y16 < (y3.length : Int))) (by kernel_rfl) (fun hc => ?_) (fun hc => ?_)
                · replace hc := of_decide_eq_true hc
                  rw [if_pos hc] at h
                  have hc20 := hc
                  clear hc
                  refine WP.skip ?_
                  refine QP.next ?_
                  refine WP.pick [1, 5, 7, 9, 10, 11, 27, 28] ?_
                  refine WP.seq ?_
                  refine WP.block ?_
                  refine WP.seqP [1, 5, 7, 8, 9, 10, 11, 27, 28] (L' := [(1, .func (.func 57) #[] #[]), (5, .slice Ay17 y17.length cy17), (7, .slice Ae9 (l0.getD y4.toNat []).length ce9), (8, .int .i64 y16), (9, .slice Al0 l0.length cl0), (10, .int .i64 (l0.length : Int)), (11, .int .i64 y4), (27, .int .i64 (y3.length : Int)), (28, .int .i64 y16)]) (by kernel_rfl) ?_
                  skip
                  refine WP.any (N := 14) (S := [⟨some 31, [5], []⟩, ⟨some 32, [8], []⟩, ⟨some 33, [1], []⟩, ⟨some 34, [5], []⟩, ⟨some 35, [8], []⟩, ⟨some 36, [34, 35], [3, 4]⟩, ⟨some 37, [36], [5]⟩, ⟨some 38, [7], []⟩, ⟨some 39, [8], []⟩, ⟨some 40, [38, 39], [7, 8]⟩, ⟨some 41, [40], [9]⟩, ⟨some 42, [33, 37, 41], [2, 6, 10]⟩, ⟨some 43, [31, 32], [0, 1, 2, 3, 4, 5, 6, 7, 8, 9, 10, 11]⟩, ⟨none, [42, 43], [0, 1, 2, 3, 4, 5, 6, 7, 8, 9, 10, 11, 12]⟩]) (kw := 13) (G0 := G) (Γ0 := Cy17 :: Γ) mo (by kernel_rfl) (fun hS => ?_)
                  refine WA.pure [0, 1, 2, 3, 4, 7, 8] [1, 5, 7, 9, 10, 11, 27, 28, 31, 32, 33, 34, 35, 38, 39] (m := 7) (b' := 415) (L' := [(1, .func (.func 57) #[] #[]), (5, .slice Ay17 y17.length cy17), (7, .slice Ae9 (l0.getD y4.toNat []).length ce9), (9, .slice Al0 l0.length cl0), (10, .int .i64 (l0.length : Int)), (11, .int .i64 y4), (27, .int .i64 (y3.length : Int)), (28, .int .i64 y16), (31, .slice Ay17 y17.length cy17), (32, .int .i64 y16), (33, .func (.func 57) #[] #[]), (34, .slice Ay17 y17.length cy17), (35, .int .i64 y16), (38, .slice Ae9 (l0.getD y4.toNat []).length ce9), (39, .int .i64 y16)]) (by kernel_rfl) (NoPanic.block (NoPanic.then (NoPanic.then (NoPanic.block (NoPanic.then (NoPanic.block (NoPanic.then (NoPanic.then (NoPanic.block (NoPanic.then (NoPanic.then (NoPanic.body)))))))))))) Under.refl hS (by kernel_rfl) ?_
                  by_cases hb21 : 0 ≤ y16 ∧ y16 < (y17.length : Int)
                  case neg => rw [if_neg hb21] at h; cases h
                  rw [if_pos hb21] at h
                  refine WA.tell (i := 5) (m := 6) (b' := 447) (by kernel_rfl) (NoPanic.block (NoPanic.then (NoPanic.then (NoPanic.block (NoPanic.then (NoPanic.block (NoPanic.then (NoPanic.then (NoPanic.block (NoPanic.then (NoPanic.then (NoPanic.body)))))))))))) Under.refl hS (by kernel_rfl) (op := .indexAddr 52 (.tmp 34) (.tmp 35)) (ty := 0) (d := some 36) (g := none) (by kernel_rfl) (by kernel_rfl) (by kernel_rfl) (Tells.indexAddr (A := Ay17) (n := y17.length) (c := cy17) (k := .i64) (j := y16) (by kernel_rfl) (by kernel_rfl) (Hy17.isSome hb21.1 hb21.2) hb21.1 hb21.2 sl52) ?_
                  refine WA.tellE (i := 6) (m := 5) (b' := 511) (by kernel_rfl) (NoPanic.block (NoPanic.then (NoPanic.then (NoPanic.block (NoPanic.then (NoPanic.block (NoPanic.then (NoPanic.then (NoPanic.block (NoPanic.then (NoPanic.then (NoPanic.body)))))))))))) Under.refl hS (by kernel_rfl) (op := .load 3 (.tmp 36)) (ty := 3) (d := some 37) (g := none) (by kernel_rfl) (by kernel_rfl) (by kernel_rfl) (Hy17.load (i := 0) rfl (agg := false) hb21.1 hb21.2 0 ag3 (fun _ => rfl) (by kernel_rfl)) ?_
                  rintro _ rfl
                  by_cases hb22 : 0 ≤ y16 ∧ y16 < ((l0.getD y4.toNat []).length : Int)
                  case neg => rw [if_neg hb22] at h; cases h
                  rw [if_pos hb22] at h
                  refine WA.tell (i := 9) (m := 4) (b' := 1023) (by kernel_rfl) (NoPanic.block (NoPanic.then (NoPanic.then (NoPanic.block (NoPanic.then (NoPanic.block (NoPanic.then (NoPanic.then (NoPanic.block (NoPanic.then (NoPanic.then (NoPanic.body)))))))))))) Under.refl hS (by kernel_rfl) (op := .indexAddr 52 (.tmp 38) (.tmp 39)) (ty := 0) (d := some 40) (g := none) (by kernel_rfl) (by kernel_rfl) (by kernel_rfl) (Tells.indexAddr (A := Ae9) (n := (l0.getD y4.toNat []).length) (c := ce9) (k := .i64) (j := y16) (by kernel_rfl) (by kernel_rfl) (He9.isSome hb22.1 hb22.2) hb22.1 hb22.2 sl52) ?_
                  refine WA.tellE (i := 10) (m := 3) (b' := 2047) (by kernel_rfl) (NoPanic.block (NoPanic.then (NoPanic.then (NoPanic.block (NoPanic.then (NoPanic.block (NoPanic.then (NoPanic.then (NoPanic.block (NoPanic.then (NoPanic.then (NoPanic.body)))))))))))) Under.refl hS (by kernel_rfl) (op := .load 3 (.tmp 40)) (ty := 3) (d := some 41) (g := none) (by kernel_rfl) (by kernel_rfl) (by kernel_rfl) (He9.load (agg := false) hb22.1 hb22.2 0 ag3 (fun _ => rfl) (by kernel_rfl)) ?_
                  rintro _ rfl
                  rw [Option.bind_eq_some_iff] at h
                  obtain ⟨t23, ht24, h⟩ := h
                  refine WA.op (i := 11) (m := 2) (b' := 4095) (by kernel_rfl) hS (by kernel_rfl) (op := .call { callee := (.value (.tmp 33)), args := #[(.tmp 37), (.tmp 41)], argTypes := #[3, 3] }) (ty := 3) (d := some 42) (g := none) (by kernel_rfl) (by kernel_rfl) (by kernel_rfl) (Does.call (f := 57) (args := [.int .i64 (y17.getD y16.toNat 0), .int .i64 ((l0.getD y4.toNat []).getD y16.toNat 0)]) (by kernel_rfl) (fun W hI => (vector_Meet_1_calls (y17.getD y16.toNat 0) ((l0.getD y4.toNat []).getD y16.toNat 0)  t23 ht24 hI))) ?_
                  rintro _ _ _ ⟨rfl, rfl, rfl⟩
                  refine ⟨_, _, Under.refl, Under.refl, ?_⟩
                  by_cases hb25 : 0 ≤ y16 ∧ y16 < (y17.length : Int)
                  case neg => rw [if_neg hb25] at h; cases h
                  rw [if_pos hb25] at h
                  refine WA.tell (i := 12) (m := 1) (b' := 8191) (by kernel_rfl) (NoPanic.block (NoPanic.then (NoPanic.then (NoPanic.block (NoPanic.then (NoPanic.block (NoPanic.then (NoPanic.then (NoPanic.block (NoPanic.then (NoPanic.then (NoPanic.body)))))))))))) Under.refl hS (by kernel_rfl) (op := .indexAddr 52 (.tmp 31) (.tmp 32)) (ty := 0) (d := some 43) (g := none) (by kernel_rfl) (by kernel_rfl) (by kernel_rfl) (Tells.indexAddr (A := Ay17) (n := y17.length) (c := cy17) (k := .i64) (j := y16) (by kernel_rfl) (by kernel_rfl) (Hy17.isSome hb25.1 hb25.2) hb25.1 hb25.2 sl52) ?_
                  refine WA.opK (i := 13) (kw' := 14) (m := 0) (b' := 16383) (by kernel_rfl) rfl hS (by kernel_rfl) (op := .store 3 (.tmp 43) (.tmp 42)) (ty := 0) (d := none) (g := none) (by kernel_rfl) (by kernel_rfl) (by kernel_rfl) (Ow.store Hy17 (i := 0) rfl hb25.1 hb25.2 (z := t23) (v := .int .i64 t23) (by kernel_rfl) (by kernel_rfl) sz3 (by exact rfl)) ?_
                  rintro _ _ _ ⟨rfl, rfl, C26, Ho27, rfl⟩
                  refine ⟨_, _, Under.refl, ?_⟩
                  refine WA.reput 5 (v := .slice Ay17 y17.length cy17) (v' := .slice Ay17 (y17.set y16.toNat t23).length cy17) (by kernel_rfl) (by rw [List.length_set]) ?_
                  refine WA.done hS (by kernel_rfl) ?_
                  refine QP.pick [1, 5, 7, 9, 10, 11, 27, 28] ?_
                  refine QP.blockN ?_
                  refine QP.next ?_
                  refine WP.pick [1, 5, 7, 9, 10, 11, 27, 28] ?_
                  refine WP.regionP [1, 5, 7, 9, 10, 11, 27, 28] (L' := [(1, .func (.func 57) #[] #[]), (5, .slice Ay17 (y17.set y16.toNat t23).length cy17), (7, .slice Ae9 (l0.getD y4.toNat []).length ce9), (9, .slice Al0 l0.length cl0), (10, .int .i64 (l0.length : Int)), (11, .int .i64 y4), (27, .int .i64 (y3.length : Int)), (28, .int .i64 (IntKind.i64.wrap (y16 + 1)))]) (by kernel_rfl) ?_
                  refine QP.pick [1, 5, 7, 9, 10, 11, 27, 28] ?_
                  exact QP.meet ⟨k19, Nat.lt_succ_self _, (IntKind.i64.wrap (y16 + 1)), (y17.set y16.toNat t23), h, Ay17, cy17, C26, rfl, rfl, rfl, Ho27⟩
                · replace hc := of_decide_eq_false hc
                  rw [if_neg hc] at h
                  have hc20 := hc
                  clear hc
                  refine WP.exit ?_
                  refine QP.thenE ?_
                  refine QP.thenE ?_
                  refine QP.blockE ?_
                  refine QP.pick [1, 5, 9, 10, 11] ?_
                  exact QP.meet ⟨_, Option.some.inj h, Ay17, cy17, Cy17, rfl, rfl, rfl, Hy17⟩
            · rintro _ _ _ ⟨s14, rfl, As14, cs14, Cs14, rfl, rfl, rfl, Hs14⟩
              clear h
              replace h := hk15
              refine QP.blockN ?_
              refine QP.next ?_
              refine WP.pick [1, 5, 9, 10, 11] ?_
              refine WP.regionP [1, 5, 9, 10, 11] (L' := [(1, .func (.func 57) #[] #[]), (5, .slice As14 s14.length cs14), (9, .slice Al0 l0.length cl0), (10, .int .i64 (l0.length : Int)), (11, .int .i64 (IntKind.i64.wrap (y4 + 1)))]) (by kernel_rfl) ?_
              refine QP.pick [1, 5, 9, 10, 11] ?_
              exact QP.meet ⟨k6, Nat.lt_succ_self _, s14, (IntKind.i64.wrap (y4 + 1)), h, As14, cs14, Cs14, rfl, rfl, rfl, Hs14⟩
      · replace hc := of_decide_eq_false hc
        rw [if_neg hc] at h
        have hc7 := hc
        clear hc
        refine WP.exit ?_
        refine QP.thenE ?_
        refine QP.thenE ?_
        refine QP.blockE ?_
        refine QP.pick [5] ?_
        exact QP.meet ⟨_, Option.some.inj h, Ay3, cy3, Cy3, rfl, rfl, rfl, Hy3⟩
  · rintro _ _ _ ⟨s1, rfl, As1, cs1, Cs1, rfl, rfl, rfl, Hs1⟩
    clear h
    replace h := hk2
    refine QP.next ?_
    refine WP.pick [5] ?_
    refine WP.seqP [4] (L' := [(4, .slice As1 s1.length cs1)]) (by kernel_rfl) ?_
    refine WP.ret ?_
    obtain rfl := Option.some.inj h
    exact QP.returned [4] [.slice As1 s1.length cs1] _ (by kernel_rfl) (by kernel_rfl) (by kernel_rfl) (fun W hI => ⟨_, _, _, rfl, ⟨As1, cs1, Cs1, rfl, Hs1, rfl, rfl⟩, hI⟩)

/-! ### grapevine/vector.Meet: function 34 -/
def vector_Meet (k : Nat) (l0 : List (List Int)) : Option (List Int) := ((vector_fold_8 k l0).bind fun t1 => some t1)
set_option maxHeartbeats 4000000 in
theorem vector_Meet_calls {B : World} {G : GMap} {Γ : List Chunk} {W : World} (k : Nat) (l0 : List (List Int)) (Al0 : Option Addr) (cl0 : Nat) (Hl0 : Rd (kSlice (kInt .i64)) G Al0 cl0 l0) (r : List Int) (h : vector_Meet k l0 = some r) (hI : Inv B G (Γ) W) :
    Calls Try.prog 34 [.slice Al0 l0.length cl0].toArray W (Ret B (fun v G' Γ' => ∃ (AR : Option Addr), ∃ (cR : Nat), ∃ (CR : Chunk), v = .slice AR r.length cR ∧ Ow (kInt .i64) G' AR cR r CR ∧ G = G' ∧ CR :: Γ = Γ')) := by
  refine calls_WP (Γ := Γ) (G := G) (B := B) Try.func34 rfl (by kernel_rfl) ?_ hI
  clear hI
  unfold vector_Meet at h
  refine WP.seqP [0] (L' := [(0, .slice Al0 l0.length cl0)]) (by kernel_rfl) ?_
  refine WP.seqR ?_
  refine WL.pure 0 1 [3] (L' := [(3, .slice Al0 l0.length cl0)]) (by kernel_rfl) (by decide) ?_
  rw [Option.bind_eq_some_iff] at h
  obtain ⟨t1, ht2, h⟩ := h
  refine WL.op (op := .call { callee := (.value (.func 55)), args := #[(.tmp 3), (.func 57)], argTypes := #[84, 50] }) (ty := 52) (d := some 4) (g := none) (by kernel_rfl) (by kernel_rfl) (by kernel_rfl) (Does.call (f := 55) (args := [.slice Al0 l0.length cl0, .func (.func 57) #[] #[]]) (by kernel_rfl) (fun W hI => (vector_fold_8_calls k l0 Al0 cl0 Hl0 t1 ht2 hI))) ?_
  rintro _ _ _ ⟨AR3, cR3, CR3, rfl, HR3, rfl, rfl⟩
  refine WL.restQ 2 [2] (L' := [(2, .slice AR3 t1.length cR3)]) (by kernel_rfl) ?_
  refine WP.ret ?_
  obtain rfl := Option.some.inj h
  exact QP.returned [2] [.slice AR3 t1.length cR3] _ (by kernel_rfl) (by kernel_rfl) (by kernel_rfl) (fun W hI => ⟨_, _, _, rfl, ⟨AR3, cR3, CR3, rfl, HR3, rfl, rfl⟩, hI⟩)

/-! ### grapevine/grapevinelaw0.SameInts: function 35 -/
def grapevinelaw0_SameInts_l0 (l0 : List Int) (l1 : List Int) : Nat → Int → Option (Sum Bool Unit)
  | 0, _ => none
  | k + 1, y4 => (if y4 < (l0.length : Int) then (if 0 ≤ y4 ∧ y4 < (l0.length : Int) then (if 0 ≤ y4 ∧ y4 < (l1.length : Int) then (if ¬ (l0.getD y4.toNat 0) = (l1.getD y4.toNat 0) then some (Sum.inl false) else grapevinelaw0_SameInts_l0 l0 l1 k (IntKind.i64.wrap (y4 + 1))) else none) else none) else some (Sum.inr ()))
def grapevinelaw0_SameInts (k : Nat) (l0 : List Int) (l1 : List Int) : Option Bool := (if ¬ (l0.length : Int) = (l1.length : Int) then some false else ((grapevinelaw0_SameInts_l0 l0 l1 k 0).bind fun os2 => match os2 with | Sum.inl r => some r | Sum.inr s2 => some true))
set_option maxHeartbeats 4000000 in
theorem grapevinelaw0_SameInts_calls {B : World} {G : GMap} {Γ : List Chunk} {W : World} (k : Nat) (l0 : List Int) (l1 : List Int) (Al0 : Option Addr) (cl0 : Nat) (Hl0 : Rd (kInt .i64) G Al0 cl0 l0) (Al1 : Option Addr) (cl1 : Nat) (Hl1 : Rd (kInt .i64) G Al1 cl1 l1) (r : Bool) (h : grapevinelaw0_SameInts k l0 l1 = some r) (hI : Inv B G (Γ) W) :
    Calls Try.prog 35 [.slice Al0 l0.length cl0, .slice Al1 l1.length cl1].toArray W (Ret B (fun v G' Γ' => v = .bool r ∧ G = G' ∧ Γ = Γ')) := by
  refine calls_WP (Γ := Γ) (G := G) (B := B) Try.func35 rfl (by kernel_rfl) ?_ hI
  clear hI
  unfold grapevinelaw0_SameInts at h
  refine WP.seqP [0, 1] (L' := [(0, .slice Al0 l0.length cl0), (1, .slice Al1 l1.length cl1)]) (by kernel_rfl) ?_
  refine WP.seq ?_
  refine WP.seqP [0, 1, 10] (L' := [(0, .slice Al0 l0.length cl0), (1, .slice Al1 l1.length cl1), (10, .bool ((l0.length : Int) != (l1.length : Int)))]) (by kernel_rfl) ?_
  refine WP.cond (b := ((l0.length : Int) != (l1.length : Int))) (by kernel_rfl) (fun hc => ?_) (fun hc => ?_)
  · replace hc := (bne_iff_ne.1 hc)
    rw [if_pos hc] at h
    have hc1 := hc
    clear hc
    refine WP.seqP [4] (L' := [(4, .bool false)]) (by kernel_rfl) ?_
    refine WP.ret ?_
    refine QP.thenR ?_
    obtain rfl := Option.some.inj h
    exact QP.returned [4] [.bool false] _ (by kernel_rfl) (by kernel_rfl) (by kernel_rfl) (fun W hI => ⟨_, _, _, rfl, ⟨rfl, rfl, rfl⟩, hI⟩)
  · replace hc := (not_not_intro (bne_eq_false_iff_eq.1 hc))
    rw [if_neg hc] at h
    have hc1 := hc
    clear hc
    refine WP.skip ?_
    refine QP.next ?_
    refine WP.pick [0, 1] ?_
    refine WP.seq ?_
    refine WP.seqP [0, 1, 5] (L' := [(0, .slice Al0 l0.length cl0), (1, .slice Al1 l1.length cl1), (5, .int .i64 0)]) (by kernel_rfl) ?_
    rw [Option.bind_eq_some_iff] at h
    obtain ⟨os2, h, hk3⟩ := h
    refine WP.cutQ (fun L' G' Γ' => ∃ s2 : Unit, Sum.inr s2 = os2 ∧ L' = [] ∧ G = G' ∧ Γ = Γ') ?_ ?_
    · skip
      refine WP.block ?_
      refine WP.pick [0, 1, 5] ?_
      refine WP.loopF (fun k5 L' G' Γ' => ∃ (y4 : Int), grapevinelaw0_SameInts_l0 l0 l1 k5 y4 = some os2 ∧ L' = [(0, .slice Al0 l0.length cl0), (1, .slice Al1 l1.length cl1), (5, .int .i64 y4)] ∧ G = G' ∧ Γ = Γ') ?_ k ⟨0, h, rfl, rfl, rfl⟩
      clear h
      rintro k6 _ _ _ ⟨y4, h, rfl, rfl, rfl⟩
      cases k6 with
      | zero => exact absurd h (by simp [grapevinelaw0_SameInts_l0])
      | succ k6 =>
        simp only [grapevinelaw0_SameInts_l0] at h
        refine WP.seq ?_
        refine WP.seqP [0, 1, 5, 14] (L' := [(0, .slice Al0 l0.length cl0), (1, .slice Al1 l1.length cl1), (5, .int .i64 y4), (14, .bool (decide (y4 < (l0.length : Int))))]) (by kernel_rfl) ?_
        refine WP.cond (b := decide (y4 < (l0.length : Int))) (by kernel_rfl) (fun hc => ?_) (fun hc => ?_)
        · replace hc := of_decide_eq_true hc
          rw [if_pos hc] at h
          have hc7 := hc
          clear hc
          refine WP.skip ?_
          refine QP.next ?_
          refine WP.pick [0, 1, 5] ?_
          refine WP.seq ?_
          refine WP.block ?_
          refine WP.seq ?_
          refine WP.any (N := 9) (S := [⟨some 17, [0], []⟩, ⟨some 18, [5], []⟩, ⟨some 19, [17, 18], [0, 1]⟩, ⟨some 20, [19], [2]⟩, ⟨some 21, [1], []⟩, ⟨some 22, [5], []⟩, ⟨some 23, [21, 22], [4, 5]⟩, ⟨some 24, [23], [6]⟩, ⟨some 25, [20, 24], [3, 7]⟩]) (kw := 9) (G0 := G) (Γ0 := Γ) mo (by kernel_rfl) (fun hS => ?_)
          refine WA.pure [0, 1, 4, 5] [0, 1, 5, 17, 18, 21, 22] (m := 5) (b' := 51) (L' := [(0, .slice Al0 l0.length cl0), (1, .slice Al1 l1.length cl1), (5, .int .i64 y4), (17, .slice Al0 l0.length cl0), (18, .int .i64 y4), (21, .slice Al1 l1.length cl1), (22, .int .i64 y4)]) (by kernel_rfl) (NoPanic.then (NoPanic.block (NoPanic.then (NoPanic.then (NoPanic.block (NoPanic.then (NoPanic.then (NoPanic.body)))))))) Under.refl hS (by kernel_rfl) ?_
          by_cases hb8 : 0 ≤ y4 ∧ y4 < (l0.length : Int)
          case neg => rw [if_neg hb8] at h; cases h
          rw [if_pos hb8] at h
          refine WA.tell (i := 2) (m := 4) (b' := 55) (by kernel_rfl) (NoPanic.then (NoPanic.block (NoPanic.then (NoPanic.then (NoPanic.block (NoPanic.then (NoPanic.then (NoPanic.body)))))))) Under.refl hS (by kernel_rfl) (op := .indexAddr 52 (.tmp 17) (.tmp 18)) (ty := 0) (d := some 19) (g := none) (by kernel_rfl) (by kernel_rfl) (by kernel_rfl) (Tells.indexAddr (A := Al0) (n := l0.length) (c := cl0) (k := .i64) (j := y4) (by kernel_rfl) (by kernel_rfl) (Hl0.isSome hb8.1 hb8.2) hb8.1 hb8.2 sl52) ?_
          refine WA.tellE (i := 3) (m := 3) (b' := 63) (by kernel_rfl) (NoPanic.then (NoPanic.block (NoPanic.then (NoPanic.then (NoPanic.block (NoPanic.then (NoPanic.then (NoPanic.body)))))))) Under.refl hS (by kernel_rfl) (op := .load 3 (.tmp 19)) (ty := 3) (d := some 20) (g := none) (by kernel_rfl) (by kernel_rfl) (by kernel_rfl) (Hl0.load (agg := false) hb8.1 hb8.2 0 ag3 (fun _ => rfl) (by kernel_rfl)) ?_
          rintro _ rfl
          by_cases hb9 : 0 ≤ y4 ∧ y4 < (l1.length : Int)
          case neg => rw [if_neg hb9] at h; cases h
          rw [if_pos hb9] at h
          refine WA.tell (i := 6) (m := 2) (b' := 127) (by kernel_rfl) (NoPanic.then (NoPanic.block (NoPanic.then (NoPanic.then (NoPanic.block (NoPanic.then (NoPanic.then (NoPanic.body)))))))) Under.refl hS (by kernel_rfl) (op := .indexAddr 52 (.tmp 21) (.tmp 22)) (ty := 0) (d := some 23) (g := none) (by kernel_rfl) (by kernel_rfl) (by kernel_rfl) (Tells.indexAddr (A := Al1) (n := l1.length) (c := cl1) (k := .i64) (j := y4) (by kernel_rfl) (by kernel_rfl) (Hl1.isSome hb9.1 hb9.2) hb9.1 hb9.2 sl52) ?_
          refine WA.tellE (i := 7) (m := 1) (b' := 255) (by kernel_rfl) (NoPanic.then (NoPanic.block (NoPanic.then (NoPanic.then (NoPanic.block (NoPanic.then (NoPanic.then (NoPanic.body)))))))) Under.refl hS (by kernel_rfl) (op := .load 3 (.tmp 23)) (ty := 3) (d := some 24) (g := none) (by kernel_rfl) (by kernel_rfl) (by kernel_rfl) (Hl1.load (agg := false) hb9.1 hb9.2 0 ag3 (fun _ => rfl) (by kernel_rfl)) ?_
          rintro _ rfl
          refine WA.pure [8] [0, 1, 5, 25] (m := 0) (b' := 511) (L' := [(0, .slice Al0 l0.length cl0), (1, .slice Al1 l1.length cl1), (5, .int .i64 y4), (25, .bool ((l0.getD y4.toNat 0) != (l1.getD y4.toNat 0)))]) (by kernel_rfl) (NoPanic.then (NoPanic.block (NoPanic.then (NoPanic.then (NoPanic.block (NoPanic.then (NoPanic.then (NoPanic.body)))))))) Under.refl hS (by kernel_rfl) ?_
          refine WA.done hS (by kernel_rfl) ?_
          refine QP.pick [0, 1, 5, 25] ?_
          refine QP.next ?_
          refine WP.cond (b := ((l0.getD y4.toNat 0) != (l1.getD y4.toNat 0))) (by kernel_rfl) (fun hc => ?_) (fun hc => ?_)
          · replace hc := (bne_iff_ne.1 hc)
            rw [if_pos hc] at h
            have hc10 := hc
            clear hc
            refine WP.seqP [4] (L' := [(4, .bool false)]) (by kernel_rfl) ?_
            refine WP.ret ?_
            refine QP.blockR ?_
            refine QP.thenR ?_
            refine QP.thenR ?_
            refine QP.blockR ?_
            refine QP.thenR ?_
            refine QP.thenR ?_
            obtain rfl := Option.some.inj h
            obtain rfl := Option.some.inj (show some _ = some _ from hk3)
            exact QP.returned [4] [.bool false] _ (by kernel_rfl) (by kernel_rfl) (by kernel_rfl) (fun W hI => ⟨_, _, _, rfl, ⟨rfl, rfl, rfl⟩, hI⟩)
          · replace hc := (not_not_intro (bne_eq_false_iff_eq.1 hc))
            rw [if_neg hc] at h
            have hc10 := hc
            clear hc
            refine WP.skip ?_
            refine QP.blockN ?_
            refine QP.next ?_
            refine WP.pick [0, 1, 5] ?_
            refine WP.regionP [0, 1, 5] (L' := [(0, .slice Al0 l0.length cl0), (1, .slice Al1 l1.length cl1), (5, .int .i64 (IntKind.i64.wrap (y4 + 1)))]) (by kernel_rfl) ?_
            refine QP.pick [0, 1, 5] ?_
            exact QP.meet ⟨k6, Nat.lt_succ_self _, (IntKind.i64.wrap (y4 + 1)), h, rfl, rfl, rfl⟩
        · replace hc := of_decide_eq_false hc
          rw [if_neg hc] at h
          have hc7 := hc
          clear hc
          refine WP.exit ?_
          refine QP.thenE ?_
          refine QP.thenE ?_
          refine QP.blockE ?_
          refine QP.pick [] ?_
          exact QP.meet ⟨_, Option.some.inj h, rfl, rfl, rfl⟩
    · rintro _ _ _ ⟨s2, rfl, rfl, rfl, rfl⟩
      clear h
      replace h := hk3
      refine QP.next ?_
      refine WP.pick [] ?_
      refine WP.seqP [4] (L' := [(4, .bool true)]) (by kernel_rfl) ?_
      refine WP.ret ?_
      obtain rfl := Option.some.inj h
      exact QP.returned [4] [.bool true] _ (by kernel_rfl) (by kernel_rfl) (by kernel_rfl) (fun W hI => ⟨_, _, _, rfl, ⟨rfl, rfl, rfl⟩, hI⟩)

/-! ### grapevine/vector.Below: function 36 -/
def vector_Below_l0 (l0 : List Int) (l1 : List Int) : Nat → Int → Option (Sum Bool Unit)
  | 0, _ => none
  | k + 1, y4 => (if y4 < (l0.length : Int) then (if 0 ≤ y4 ∧ y4 < (l0.length : Int) then (if 0 ≤ y4 ∧ y4 < (l1.length : Int) then (if (l0.getD y4.toNat 0) > (l1.getD y4.toNat 0) then some (Sum.inl false) else vector_Below_l0 l0 l1 k (IntKind.i64.wrap (y4 + 1))) else none) else none) else some (Sum.inr ()))
def vector_Below (k : Nat) (l0 : List Int) (l1 : List Int) : Option Bool := (if ¬ (l0.length : Int) = (l1.length : Int) then some false else ((vector_Below_l0 l0 l1 k 0).bind fun os2 => match os2 with | Sum.inl r => some r | Sum.inr s2 => some true))
set_option maxHeartbeats 4000000 in
theorem vector_Below_calls {B : World} {G : GMap} {Γ : List Chunk} {W : World} (k : Nat) (l0 : List Int) (l1 : List Int) (Al0 : Option Addr) (cl0 : Nat) (Hl0 : Rd (kInt .i64) G Al0 cl0 l0) (Al1 : Option Addr) (cl1 : Nat) (Hl1 : Rd (kInt .i64) G Al1 cl1 l1) (r : Bool) (h : vector_Below k l0 l1 = some r) (hI : Inv B G (Γ) W) :
    Calls Try.prog 36 [.slice Al0 l0.length cl0, .slice Al1 l1.length cl1].toArray W (Ret B (fun v G' Γ' => v = .bool r ∧ G = G' ∧ Γ = Γ')) := by
  refine calls_WP (Γ := Γ) (G := G) (B := B) Try.func36 rfl (by kernel_rfl) ?_ hI
  clear hI
  unfold vector_Below at h
  refine WP.seqP [0, 1] (L' := [(0, .slice Al0 l0.length cl0), (1, .slice Al1 l1.length cl1)]) (by kernel_rfl) ?_
  refine WP.seq ?_
  refine WP.seqP [0, 1, 10] (L' := [(0, .slice Al0 l0.length cl0), (1, .slice Al1 l1.length cl1), (10, .bool ((l0.length : Int) != (l1.length : Int)))]) (by kernel_rfl) ?_
  refine WP.cond (b := ((l0.length : Int) != (l1.length : Int))) (by kernel_rfl) (fun hc => ?_) (fun hc => ?_)
  · replace hc := (bne_iff_ne.1 hc)
    rw [if_pos hc] at h
    have hc1 := hc
    clear hc
    refine WP.seqP [4] (L' := [(4, .bool false)]) (by kernel_rfl) ?_
    refine WP.ret ?_
    refine QP.thenR ?_
    obtain rfl := Option.some.inj h
    exact QP.returned [4] [.bool false] _ (by kernel_rfl) (by kernel_rfl) (by kernel_rfl) (fun W hI => ⟨_, _, _, rfl, ⟨rfl, rfl, rfl⟩, hI⟩)
  · replace hc := (not_not_intro (bne_eq_false_iff_eq.1 hc))
    rw [if_neg hc] at h
    have hc1 := hc
    clear hc
    refine WP.skip ?_
    refine QP.next ?_
    refine WP.pick [0, 1] ?_
    refine WP.seq ?_
    refine WP.seqP [0, 1, 12, 13] (L' := [(0, .slice Al0 l0.length cl0), (1, .slice Al1 l1.length cl1), (12, .int .i64 (l0.length : Int)), (13, .int .i64 0)]) (by kernel_rfl) ?_
    rw [Option.bind_eq_some_iff] at h
    obtain ⟨os2, h, hk3⟩ := h
    refine WP.cutQ (fun L' G' Γ' => ∃ s2 : Unit, Sum.inr s2 = os2 ∧ L' = [] ∧ G = G' ∧ Γ = Γ') ?_ ?_
    · skip
      refine WP.block ?_
      refine WP.pick [0, 1, 12, 13] ?_
      refine WP.loopF (fun k5 L' G' Γ' => ∃ (y4 : Int), vector_Below_l0 l0 l1 k5 y4 = some os2 ∧ L' = [(0, .slice Al0 l0.length cl0), (1, .slice Al1 l1.length cl1), (12, .int .i64 (l0.length : Int)), (13, .int .i64 y4)] ∧ G = G' ∧ Γ = Γ') ?_ k ⟨0, h, rfl, rfl, rfl⟩
      clear h
      rintro k6 _ _ _ ⟨y4, h, rfl, rfl, rfl⟩
      cases k6 with
      | zero => exact absurd h (by simp [vector_Below_l0])
      | succ k6 =>
        simp only [vector_Below_l0] at h
        refine WP.seqP [0, 1, 12, 13, 14] (L' := [(0, .slice Al0 l0.length cl0), (1, .slice Al1 l1.length cl1), (12, .int .i64 (l0.length : Int)), (13, .int .i64 y4), (14, .bool (decide (y4 < (l0.length : Int))))]) (by kernel_rfl) ?_
        refine WP.seq ?_
        refine WP.cond (b := decide (y4 < (l0.length : Int))) (by kernel_rfl) (fun hc => ?_) (fun hc => ?_)
        · replace hc := of_decide_eq_true hc
          rw [if_pos hc] at h
          have hc7 := hc
          clear hc
          refine WP.skip ?_
          refine QP.next ?_
          refine WP.pick [0, 1, 12, 13] ?_
          refine WP.seq ?_
          refine WP.block ?_
          refine WP.seqP [0, 1, 5, 12, 13] (L' := [(0, .slice Al0 l0.length cl0), (1, .slice Al1 l1.length cl1), (5, .int .i64 y4), (12, .int .i64 (l0.length : Int)), (13, .int .i64 y4)]) (by kernel_rfl) ?_
          refine WP.seq ?_
          refine WP.any (N := 9) (S := [⟨some 16, [0], []⟩, ⟨some 17, [5], []⟩, ⟨some 18, [16, 17], [0, 1]⟩, ⟨some 19, [18], [2]⟩, ⟨some 20, [1], []⟩, ⟨some 21, [5], []⟩, ⟨some 22, [20, 21], [4, 5]⟩, ⟨some 23, [22], [6]⟩, ⟨some 24, [19, 23], [3, 7]⟩]) (kw := 9) (G0 := G) (Γ0 := Γ) mo (by kernel_rfl) (fun hS => ?_)
          refine WA.pure [0, 1, 4, 5] [0, 1, 12, 13, 16, 17, 20, 21] (m := 5) (b' := 51) (L' := [(0, .slice Al0 l0.length cl0), (1, .slice Al1 l1.length cl1), (12, .int .i64 (l0.length : Int)), (13, .int .i64 y4), (16, .slice Al0 l0.length cl0), (17, .int .i64 y4), (20, .slice Al1 l1.length cl1), (21, .int .i64 y4)]) (by kernel_rfl) (NoPanic.then (NoPanic.block (NoPanic.then (NoPanic.then (NoPanic.block (NoPanic.then (NoPanic.then (NoPanic.body)))))))) Under.refl hS (by kernel_rfl) ?_
          by_cases hb8 : 0 ≤ y4 ∧ y4 < (l0.length : Int)
          case neg => rw [if_neg hb8] at h; cases h
          rw [if_pos hb8] at h
          refine WA.tell (i := 2) (m := 4) (b' := 55) (by kernel_rfl) (NoPanic.then (NoPanic.block (NoPanic.then (NoPanic.then (NoPanic.block (NoPanic.then (NoPanic.then (NoPanic.body)))))))) Under.refl hS (by kernel_rfl) (op := .indexAddr 52 (.tmp 16) (.tmp 17)) (ty := 0) (d := some 18) (g := none) (by kernel_rfl) (by kernel_rfl) (by kernel_rfl) (Tells.indexAddr (A := Al0) (n := l0.length) (c := cl0) (k := .i64) (j := y4) (by kernel_rfl) (by kernel_rfl) (Hl0.isSome hb8.1 hb8.2) hb8.1 hb8.2 sl52) ?_
          refine WA.tellE (i := 3) (m := 3) (b' := 63) (by kernel_rfl) (NoPanic.then (NoPanic.block (NoPanic.then (NoPanic.then (NoPanic.block (NoPanic.then (NoPanic.then (NoPanic.body)))))))) Under.refl hS (by kernel_rfl) (op := .load 3 (.tmp 18)) (ty := 3) (d := some 19) (g := none) (by kernel_rfl) (by kernel_rfl) (by kernel_rfl) (Hl0.load (agg := false) hb8.1 hb8.2 0 ag3 (fun _ => rfl) (by kernel_rfl)) ?_
          rintro _ rfl
          by_cases hb9 : 0 ≤ y4 ∧ y4 < (l1.length : Int)
          case neg => rw [if_neg hb9] at h; cases h
          rw [if_pos hb9] at h
          refine WA.tell (i := 6) (m := 2) (b' := 127) (by kernel_rfl) (NoPanic.then (NoPanic.block (NoPanic.then (NoPanic.then (NoPanic.block (NoPanic.then (NoPanic.then (NoPanic.body)))))))) Under.refl hS (by kernel_rfl) (op := .indexAddr 52 (.tmp 20) (.tmp 21)) (ty := 0) (d := some 22) (g := none) (by kernel_rfl) (by kernel_rfl) (by kernel_rfl) (Tells.indexAddr (A := Al1) (n := l1.length) (c := cl1) (k := .i64) (j := y4) (by kernel_rfl) (by kernel_rfl) (Hl1.isSome hb9.1 hb9.2) hb9.1 hb9.2 sl52) ?_
          refine WA.tellE (i := 7) (m := 1) (b' := 255) (by kernel_rfl) (NoPanic.then (NoPanic.block (NoPanic.then (NoPanic.then (NoPanic.block (NoPanic.then (NoPanic.then (NoPanic.body)))))))) Under.refl hS (by kernel_rfl) (op := .load 3 (.tmp 22)) (ty := 3) (d := some 23) (g := none) (by kernel_rfl) (by kernel_rfl) (by kernel_rfl) (Hl1.load (agg := false) hb9.1 hb9.2 0 ag3 (fun _ => rfl) (by kernel_rfl)) ?_
          rintro _ rfl
          refine WA.pure [8] [0, 1, 12, 13, 24] (m := 0) (b' := 511) (L' := [(0, .slice Al0 l0.length cl0), (1, .slice Al1 l1.length cl1), (12, .int .i64 (l0.length : Int)), (13, .int .i64 y4), (24, .bool (decide ((l0.getD y4.toNat 0) > (l1.getD y4.toNat 0))))]) (by kernel_rfl) (NoPanic.then (NoPanic.block (NoPanic.then (NoPanic.then (NoPanic.block (NoPanic.then (NoPanic.then (NoPanic.body)))))))) Under.refl hS (by kernel_rfl) ?_
          refine WA.done hS (by kernel_rfl) ?_
          refine QP.pick [0, 1, 12, 13, 24] ?_
          refine QP.next ?_
          refine WP.cond (b := decide ((l0.getD y4.toNat 0) > (l1.getD y4.toNat 0))) (by kernel_rfl) (fun hc => ?_) (fun hc => ?_)
          · replace hc := of_decide_eq_true hc
            rw [if_pos hc] at h
            have hc10 := hc
            clear hc
            refine WP.seqP [4] (L' := [(4, .bool false)]) (by kernel_rfl) ?_
            refine WP.ret ?_
            refine QP.blockR ?_
            refine QP.thenR ?_
            refine QP.thenR ?_
            refine QP.blockR ?_
            refine QP.thenR ?_
            refine QP.thenR ?_
            obtain rfl := Option.some.inj h
            obtain rfl := Option.some.inj (show some _ = some _ from hk3)
            exact QP.returned [4] [.bool false] _ (by kernel_rfl) (by kernel_rfl) (by kernel_rfl) (fun W hI => ⟨_, _, _, rfl, ⟨rfl, rfl, rfl⟩, hI⟩)
          · replace hc := of_decide_eq_false hc
            rw [if_neg hc] at h
            have hc10 := hc
            clear hc
            refine WP.skip ?_
            refine QP.blockN ?_
            refine QP.next ?_
            refine WP.pick [0, 1, 12, 13] ?_
            refine WP.regionP [0, 1, 12, 13] (L' := [(0, .slice Al0 l0.length cl0), (1, .slice Al1 l1.length cl1), (12, .int .i64 (l0.length : Int)), (13, .int .i64 (IntKind.i64.wrap (y4 + 1)))]) (by kernel_rfl) ?_
            refine QP.pick [0, 1, 12, 13] ?_
            exact QP.meet ⟨k6, Nat.lt_succ_self _, (IntKind.i64.wrap (y4 + 1)), h, rfl, rfl, rfl⟩
        · replace hc := of_decide_eq_false hc
          rw [if_neg hc] at h
          have hc7 := hc
          clear hc
          refine WP.exit ?_
          refine QP.thenE ?_
          refine QP.thenE ?_
          refine QP.blockE ?_
          refine QP.pick [] ?_
          exact QP.meet ⟨_, Option.some.inj h, rfl, rfl, rfl⟩
    · rintro _ _ _ ⟨s2, rfl, rfl, rfl, rfl⟩
      clear h
      replace h := hk3
      refine QP.next ?_
      refine WP.pick [] ?_
      refine WP.seqP [4] (L' := [(4, .bool true)]) (by kernel_rfl) ?_
      refine WP.ret ?_
      obtain rfl := Option.some.inj h
      exact QP.returned [4] [.bool true] _ (by kernel_rfl) (by kernel_rfl) (by kernel_rfl) (fun W hI => ⟨_, _, _, rfl, ⟨rfl, rfl, rfl⟩, hI⟩)

/-! ### grapevine/vector.May: function 37 -/
def vector_May_l0 (l0 : List Int) : Nat → Int → Option (Sum Bool Unit)
  | 0, _ => none
  | k + 1, y8 => (if y8 < (l0.length : Int) then (if 0 ≤ y8 ∧ y8 < (l0.length : Int) then ((if (l0.getD y8.toNat 0) < 0 then some true else some (decide ((l0.getD y8.toNat 0) > 1023))).bind fun s13 => (if s13 = true then some (Sum.inl false) else vector_May_l0 l0 k (IntKind.i64.wrap (y8 + 1)))) else none) else some (Sum.inr ()))
def vector_May (k : Nat) (l0 : List Int) (a1 : Int) : Option Bool := ((if a1 < 1 then some true else (if a1 > 8 then some true else some ((l0.length : Int) != a1))).bind fun s1 => (if s1 = true then some false else ((vector_May_l0 l0 k 0).bind fun os6 => match os6 with | Sum.inl r => some r | Sum.inr s6 => some true)))
set_option maxHeartbeats 4000000 in
theorem vector_May_calls {B : World} {G : GMap} {Γ : List Chunk} {W : World} (k : Nat) (l0 : List Int) (a1 : Int) (Al0 : Option Addr) (cl0 : Nat) (Hl0 : Rd (kInt .i64) G Al0 cl0 l0) (r : Bool) (h : vector_May k l0 a1 = some r) (hI : Inv B G (Γ) W) :
    Calls Try.prog 37 [.slice Al0 l0.length cl0, .int .i64 a1].toArray W (Ret B (fun v G' Γ' => v = .bool r ∧ G = G' ∧ Γ = Γ')) := by
  refine calls_WP (Γ := Γ) (G := G) (B := B) Try.func37 rfl (by kernel_rfl) ?_ hI
  clear hI
  unfold vector_May at h
  refine WP.seqP [0, 1] (L' := [(0, .slice Al0 l0.length cl0), (1, .int .i64 a1)]) (by kernel_rfl) ?_
  refine WP.seq ?_
  rw [Option.bind_eq_some_iff] at h
  obtain ⟨os1, h, hk2⟩ := h
  refine WP.cut (fun L' G' Γ' => ∃ s1 : Bool, s1 = os1 ∧ L' = [(0, .slice Al0 l0.length cl0), (18, .bool s1)] ∧ G = G' ∧ Γ = Γ') ?_ ?_
  · clear hk2
    refine WP.region ?_
    refine WL.pure 0 3 [0, 1, 9] (L' := [(0, .slice Al0 l0.length cl0), (1, .int .i64 a1), (9, .bool (decide (a1 < 1)))]) (by kernel_rfl) (by decide) ?_
    refine WL.split 9 (b := decide (a1 < 1)) (by kernel_rfl) (fun hc => ?_) (fun hc => ?_)
    · replace hc := of_decide_eq_true hc
      rw [if_pos hc] at h
      have hc3 := hc
      clear hc
      refine WL.rest 3 [0, 18] (L' := [(0, .slice Al0 l0.length cl0), (18, .bool true)]) (by kernel_rfl) ?_
      refine QP.pick [0, 18] ?_
      exact QP.meet ⟨_, Option.some.inj h, rfl, rfl, rfl⟩
    · replace hc := of_decide_eq_false hc
      rw [if_neg hc] at h
      have hc3 := hc
      clear hc
      refine WL.pure 3 7 [0, 1, 13] (L' := [(0, .slice Al0 l0.length cl0), (1, .int .i64 a1), (13, .bool (decide (a1 > 8)))]) (by kernel_rfl) (by decide) ?_
      refine WL.split 13 (b := decide (a1 > 8)) (by kernel_rfl) (fun hc => ?_) (fun hc => ?_)
      · replace hc := of_decide_eq_true hc
        rw [if_pos hc] at h
        have hc4 := hc
        clear hc
        refine WL.rest 7 [0, 18] (L' := [(0, .slice Al0 l0.length cl0), (18, .bool true)]) (by kernel_rfl) ?_
        refine QP.pick [0, 18] ?_
        exact QP.meet ⟨_, Option.some.inj h, rfl, rfl, rfl⟩
      · replace hc := of_decide_eq_false hc
        rw [if_neg hc] at h
        have hc4 := hc
        clear hc
        refine WL.rest 7 [0, 18] (L' := [(0, .slice Al0 l0.length cl0), (18, .bool ((l0.length : Int) != a1))]) (by kernel_rfl) ?_
        refine QP.pick [0, 18] ?_
        exact QP.meet ⟨_, Option.some.inj h, rfl, rfl, rfl⟩
  · rintro _ _ _ ⟨s1, rfl, rfl, rfl, rfl⟩
    clear h
    replace h := hk2
    refine WP.cond (b := s1) (by kernel_rfl) (fun hc => ?_) (fun hc => ?_)
    · replace hc := hc
      rw [if_pos hc] at h
      have hc5 := hc
      clear hc
      refine WP.seqP [4] (L' := [(4, .bool false)]) (by kernel_rfl) ?_
      refine WP.ret ?_
      refine QP.thenR ?_
      obtain rfl := Option.some.inj h
      exact QP.returned [4] [.bool false] _ (by kernel_rfl) (by kernel_rfl) (by kernel_rfl) (fun W hI => ⟨_, _, _, rfl, ⟨rfl, rfl, rfl⟩, hI⟩)
    · replace hc := (Bool.eq_false_iff.1 hc)
      rw [if_neg hc] at h
      have hc5 := hc
      clear hc
      refine WP.skip ?_
      refine QP.next ?_
      refine WP.pick [0] ?_
      refine WP.seq ?_
      refine WP.seqP [19, 20, 21] (L' := [(19, .slice Al0 l0.length cl0), (20, .int .i64 (l0.length : Int)), (21, .int .i64 0)]) (by kernel_rfl) ?_
      rw [Option.bind_eq_some_iff] at h
      obtain ⟨os6, h, hk7⟩ := h
      refine WP.cutQ (fun L' G' Γ' => ∃ s6 : Unit, Sum.inr s6 = os6 ∧ L' = [] ∧ G = G' ∧ Γ = Γ') ?_ ?_
      · skip
        refine WP.block ?_
        refine WP.pick [19, 20, 21] ?_
        refine WP.loopF (fun k9 L' G' Γ' => ∃ (y8 : Int), vector_May_l0 l0 k9 y8 = some os6 ∧ L' = [(19, .slice Al0 l0.length cl0), (20, .int .i64 (l0.length : Int)), (21, .int .i64 y8)] ∧ G = G' ∧ Γ = Γ') ?_ k ⟨0, h, rfl, rfl, rfl⟩
        clear h
        rintro k10 _ _ _ ⟨y8, h, rfl, rfl, rfl⟩
        cases k10 with
        | zero => exact absurd h (by simp [vector_May_l0])
        | succ k10 =>
          simp only [vector_May_l0] at h
          refine WP.seqP [19, 20, 21, 22] (L' := [(19, .slice Al0 l0.length cl0), (20, .int .i64 (l0.length : Int)), (21, .int .i64 y8), (22, .bool (decide (y8 < (l0.length : Int))))]) (by kernel_rfl) ?_
          refine WP.seq ?_
          refine WP.cond (b := decide (y8 < (l0.length : Int))) (by kernel_rfl) (fun hc => ?_) (fun hc => ?_)
          · replace hc := of_decide_eq_true hc
            rw [if_pos hc] at h
            have hc11 := hc
            clear hc
            refine WP.skip ?_
            refine QP.next ?_
            refine WP.pick [19, 20, 21] ?_
            refine WP.seq ?_
            refine WP.block ?_
            refine WP.seqR ?_
            by_cases hb12 : 0 ≤ y8 ∧ y8 < (l0.length : Int)
            case neg => rw [if_neg hb12] at h; cases h
            rw [if_pos hb12] at h
            refine WL.tell (op := .indexAddr 52 (.tmp 19) (.tmp 21)) (ty := 0) (d := some 23) (g := none) (by kernel_rfl) (by kernel_rfl) (by kernel_rfl) (Tells.indexAddr (A := Al0) (n := l0.length) (c := cl0) (k := .i64) (j := y8) (by kernel_rfl) (by kernel_rfl) (Hl0.isSome hb12.1 hb12.2) hb12.1 hb12.2 sl52) ?_
            refine WL.tellE (op := .load 3 (.tmp 23)) (ty := 3) (d := some 24) (g := none) (by kernel_rfl) (by kernel_rfl) (by kernel_rfl) (Hl0.load (agg := false) hb12.1 hb12.2 0 ag3 (fun _ => rfl) (by kernel_rfl)) ?_
            rintro _ rfl
            refine WL.restQ 2 [6, 19, 20, 21] (L' := [(6, .int .i64 (l0.getD y8.toNat 0)), (19, .slice Al0 l0.length cl0), (20, .int .i64 (l0.length : Int)), (21, .int .i64 y8)]) (by kernel_rfl) ?_
            rw [Option.bind_eq_some_iff] at h
            obtain ⟨os13, h, hk14⟩ := h
            refine WP.cut (fun L' G' Γ' => ∃ s13 : Bool, s13 = os13 ∧ L' = [(19, .slice Al0 l0.length cl0), (20, .int .i64 (l0.length : Int)), (21, .int .i64 y8), (30, .bool s13)] ∧ G = G' ∧ Γ = Γ') ?_ ?_
            · clear hk14
              refine WP.region ?_
              refine WL.pure 0 3 [6, 19, 20, 21, 27] (L' := [(6, .int .i64 (l0.getD y8.toNat 0)), (19, .slice Al0 l0.length cl0), (20, .int .i64 (l0.length : Int)), (21, .int .i64 y8), (27, .bool (decide ((l0.getD y8.toNat 0) < 0)))]) (by kernel_rfl) (by decide) ?_
              refine WL.split 27 (b := decide ((l0.getD y8.toNat 0) < 0)) (by kernel_rfl) (fun hc => ?_) (fun hc => ?_)
              · replace hc := of_decide_eq_true hc
                rw [if_pos hc] at h
                have hc15 := hc
                clear hc
                refine WL.rest 3 [19, 20, 21, 30] (L' := [(19, .slice Al0 l0.length cl0), (20, .int .i64 (l0.length : Int)), (21, .int .i64 y8), (30, .bool true)]) (by kernel_rfl) ?_
                refine QP.pick [19, 20, 21, 30] ?_
                exact QP.meet ⟨_, Option.some.inj h, rfl, rfl, rfl⟩
              · replace hc := of_decide_eq_false hc
                rw [if_neg hc] at h
                have hc15 := hc
                clear hc
                refine WL.rest 3 [19, 20, 21, 30] (L' := [(19, .slice Al0 l0.length cl0), (20, .int .i64 (l0.length : Int)), (21, .int .i64 y8), (30, .bool (decide ((l0.getD y8.toNat 0) > 1023)))]) (by kernel_rfl) ?_
                refine QP.pick [19, 20, 21, 30] ?_
                exact QP.meet ⟨_, Option.some.inj h, rfl, rfl, rfl⟩
            · rintro _ _ _ ⟨s13, rfl, rfl, rfl, rfl⟩
              clear h
              replace h := hk14
              refine WP.cond (b := s13) (by kernel_rfl) (fun hc => ?_) (fun hc => ?_)
              · replace hc := hc
                rw [if_pos hc] at h
                have hc16 := hc
                clear hc
                refine WP.seqP [4] (L' := [(4, .bool false)]) (by kernel_rfl) ?_
                refine WP.ret ?_
                refine QP.blockR ?_
                refine QP.thenR ?_
                refine QP.thenR ?_
                refine QP.blockR ?_
                refine QP.thenR ?_
                refine QP.thenR ?_
                obtain rfl := Option.some.inj h
                obtain rfl := Option.some.inj (show some _ = some _ from hk7)
                exact QP.returned [4] [.bool false] _ (by kernel_rfl) (by kernel_rfl) (by kernel_rfl) (fun W hI => ⟨_, _, _, rfl, ⟨rfl, rfl, rfl⟩, hI⟩)
              · replace hc := (Bool.eq_false_iff.1 hc)
                rw [if_neg hc] at h
                have hc16 := hc
                clear hc
                refine WP.skip ?_
                refine QP.blockN ?_
                refine QP.next ?_
                refine WP.pick [19, 20, 21] ?_
                refine WP.regionP [19, 20, 21] (L' := [(19, .slice Al0 l0.length cl0), (20, .int .i64 (l0.length : Int)), (21, .int .i64 (IntKind.i64.wrap (y8 + 1)))]) (by kernel_rfl) ?_
                refine QP.pick [19, 20, 21] ?_
                exact QP.meet ⟨k10, Nat.lt_succ_self _, (IntKind.i64.wrap (y8 + 1)), h, rfl, rfl, rfl⟩
          · replace hc := of_decide_eq_false hc
            rw [if_neg hc] at h
            have hc11 := hc
            clear hc
            refine WP.exit ?_
            refine QP.thenE ?_
            refine QP.thenE ?_
            refine QP.blockE ?_
            refine QP.pick [] ?_
            exact QP.meet ⟨_, Option.some.inj h, rfl, rfl, rfl⟩
      · rintro _ _ _ ⟨s6, rfl, rfl, rfl, rfl⟩
        clear h
        replace h := hk7
        refine QP.next ?_
        refine WP.pick [] ?_
        refine WP.seqP [4] (L' := [(4, .bool true)]) (by kernel_rfl) ?_
        refine WP.ret ?_
        obtain rfl := Option.some.inj h
        exact QP.returned [4] [.bool true] _ (by kernel_rfl) (by kernel_rfl) (by kernel_rfl) (fun W hI => ⟨_, _, _, rfl, ⟨rfl, rfl, rfl⟩, hI⟩)

/-! ### grapevine/vector.Sum: function 38 -/
def vector_Sum_l0 (l0 : List Int) : Nat → Int → Int → Option Int
  | 0, _, _ => none
  | k + 1, y3, y4 => (if y4 < (l0.length : Int) then (if 0 ≤ y4 ∧ y4 < (l0.length : Int) then vector_Sum_l0 l0 k (IntKind.i64.wrap (y3 + (l0.getD y4.toNat 0))) (IntKind.i64.wrap (y4 + 1)) else none) else some y3)
def vector_Sum (k : Nat) (l0 : List Int) : Option Int := ((vector_Sum_l0 l0 k 0 0).bind fun s1 => some s1)
set_option maxHeartbeats 4000000 in
theorem vector_Sum_calls {B : World} {G : GMap} {Γ : List Chunk} {W : World} (k : Nat) (l0 : List Int) (Al0 : Option Addr) (cl0 : Nat) (Hl0 : Rd (kInt .i64) G Al0 cl0 l0) (r : Int) (h : vector_Sum k l0 = some r) (hI : Inv B G (Γ) W) :
    Calls Try.prog 38 [.slice Al0 l0.length cl0].toArray W (Ret B (fun v G' Γ' => v = .int .i64 r ∧ G = G' ∧ Γ = Γ')) := by
  refine calls_WP (Γ := Γ) (G := G) (B := B) Try.func38 rfl (by kernel_rfl) ?_ hI
  clear hI
  unfold vector_Sum at h
  refine WP.seqP [0] (L' := [(0, .slice Al0 l0.length cl0)]) (by kernel_rfl) ?_
  refine WP.seqP [0, 3] (L' := [(0, .slice Al0 l0.length cl0), (3, .int .i64 0)]) (by kernel_rfl) ?_
  refine WP.seq ?_
  refine WP.seqP [3, 6, 7, 8] (L' := [(3, .int .i64 0), (6, .slice Al0 l0.length cl0), (7, .int .i64 (l0.length : Int)), (8, .int .i64 0)]) (by kernel_rfl) ?_
  rw [Option.bind_eq_some_iff] at h
  obtain ⟨os1, h, hk2⟩ := h
  refine WP.cutQ (fun L' G' Γ' => ∃ s1 : Int, s1 = os1 ∧ L' = [(3, .int .i64 s1)] ∧ G = G' ∧ Γ = Γ') ?_ ?_
  · clear hk2
    refine WP.block ?_
    refine WP.pick [3, 6, 7, 8] ?_
    refine WP.loopF (fun k5 L' G' Γ' => ∃ (y3 : Int), ∃ (y4 : Int), vector_Sum_l0 l0 k5 y3 y4 = some os1 ∧ L' = [(3, .int .i64 y3), (6, .slice Al0 l0.length cl0), (7, .int .i64 (l0.length : Int)), (8, .int .i64 y4)] ∧ G = G' ∧ Γ = Γ') ?_ k ⟨0, 0, h, rfl, rfl, rfl⟩
    clear h
    rintro k6 _ _ _ ⟨y3, y4, h, rfl, rfl, rfl⟩
    cases k6 with
    | zero => exact absurd h (by simp [vector_Sum_l0])
    | succ k6 =>
      simp only [vector_Sum_l0] at h
      refine WP.seqP [3, 6, 7, 8, 9] (L' := [(3, .int .i64 y3), (6, .slice Al0 l0.length cl0), (7, .int .i64 (l0.length : Int)), (8, .int .i64 y4), (9, .bool (decide (y4 < (l0.length : Int))))]) (by kernel_rfl) ?_
      refine WP.seq ?_
      refine WP.cond (b := decide (y4 < (l0.length : Int))) (by kernel_rfl) (fun hc => ?_) (fun hc => ?_)
      · replace hc := of_decide_eq_true hc
        rw [if_pos hc] at h
        have hc7 := hc
        clear hc
        refine WP.skip ?_
        refine QP.next ?_
        refine WP.pick [3, 6, 7, 8] ?_
        refine WP.seq ?_
        refine WP.block ?_
        refine WP.seqR ?_
        by_cases hb8 : 0 ≤ y4 ∧ y4 < (l0.length : Int)
        case neg => rw [if_neg hb8] at h; cases h
        rw [if_pos hb8] at h
        refine WL.tell (op := .indexAddr 52 (.tmp 6) (.tmp 8)) (ty := 0) (d := some 10) (g := none) (by kernel_rfl) (by kernel_rfl) (by kernel_rfl) (Tells.indexAddr (A := Al0) (n := l0.length) (c := cl0) (k := .i64) (j := y4) (by kernel_rfl) (by kernel_rfl) (Hl0.isSome hb8.1 hb8.2) hb8.1 hb8.2 sl52) ?_
        refine WL.tellE (op := .load 3 (.tmp 10)) (ty := 3) (d := some 11) (g := none) (by kernel_rfl) (by kernel_rfl) (by kernel_rfl) (Hl0.load (agg := false) hb8.1 hb8.2 0 ag3 (fun _ => rfl) (by kernel_rfl)) ?_
        rintro _ rfl
        refine WL.restQ 2 [3, 5, 6, 7, 8] (L' := [(3, .int .i64 y3), (5, .int .i64 (l0.getD y4.toNat 0)), (6, .slice Al0 l0.length cl0), (7, .int .i64 (l0.length : Int)), (8, .int .i64 y4)]) (by kernel_rfl) ?_
        refine WP.regionP [3, 6, 7, 8] (L' := [(3, .int .i64 (IntKind.i64.wrap (y3 + (l0.getD y4.toNat 0)))), (6, .slice Al0 l0.length cl0), (7, .int .i64 (l0.length : Int)), (8, .int .i64 y4)]) (by kernel_rfl) ?_
        refine QP.blockN ?_
        refine QP.next ?_
        refine WP.pick [3, 6, 7, 8] ?_
        refine WP.regionP [3, 6, 7, 8] (L' := [(3, .int .i64 (IntKind.i64.wrap (y3 + (l0.getD y4.toNat 0)))), (6, .slice Al0 l0.length cl0), (7, .int .i64 (l0.length : Int)), (8, .int .i64 (IntKind.i64.wrap (y4 + 1)))]) (by kernel_rfl) ?_
        refine QP.pick [3, 6, 7, 8] ?_
        exact QP.meet ⟨k6, Nat.lt_succ_self _, (IntKind.i64.wrap (y3 + (l0.getD y4.toNat 0))), (IntKind.i64.wrap (y4 + 1)), h, rfl, rfl, rfl⟩
      · replace hc := of_decide_eq_false hc
        rw [if_neg hc] at h
        have hc7 := hc
        clear hc
        refine WP.exit ?_
        refine QP.thenE ?_
        refine QP.thenE ?_
        refine QP.blockE ?_
        refine QP.pick [3] ?_
        exact QP.meet ⟨_, Option.some.inj h, rfl, rfl, rfl⟩
  · rintro _ _ _ ⟨s1, rfl, rfl, rfl, rfl⟩
    clear h
    replace h := hk2
    refine QP.next ?_
    refine WP.pick [3] ?_
    refine WP.seqP [2] (L' := [(2, .int .i64 s1)]) (by kernel_rfl) ?_
    refine WP.ret ?_
    obtain rfl := Option.some.inj h
    exact QP.returned [2] [.int .i64 s1] _ (by kernel_rfl) (by kernel_rfl) (by kernel_rfl) (fun W hI => ⟨_, _, _, rfl, ⟨rfl, rfl, rfl⟩, hI⟩)

/-! ### grapevine/vector.Zero: function 41 -/
def vector_Zero (a0 : Int) : Option (List Int) := ((if a0 < 1 then some true else some (decide (a0 > 8))).bind fun s1 => (if s1 = true then some ([] : List Int) else (if 0 ≤ a0 ∧ a0 ≤ a0 ∧ a0 ≤ 1073741824 then some (List.replicate a0.toNat (0 : Int)) else none)))
set_option maxHeartbeats 4000000 in
theorem vector_Zero_calls {B : World} {G : GMap} {Γ : List Chunk} {W : World} (a0 : Int) (r : List Int) (h : vector_Zero a0 = some r) (hI : Inv B G (Γ) W) :
    Calls Try.prog 41 [.int .i64 a0].toArray W (Ret B (fun v G' Γ' => ∃ (AR : Option Addr), ∃ (cR : Nat), ∃ (CR : Chunk), v = .slice AR r.length cR ∧ Ow (kInt .i64) G' AR cR r CR ∧ G = G' ∧ CR :: Γ = Γ')) := by
  refine calls_WP (Γ := Γ) (G := G) (B := B) Try.func41 rfl (by kernel_rfl) ?_ hI
  clear hI
  unfold vector_Zero at h
  refine WP.seqP [0] (L' := [(0, .int .i64 a0)]) (by kernel_rfl) ?_
  refine WP.seq ?_
  rw [Option.bind_eq_some_iff] at h
  obtain ⟨os1, h, hk2⟩ := h
  refine WP.cut (fun L' G' Γ' => ∃ s1 : Bool, s1 = os1 ∧ L' = [(0, .int .i64 a0), (8, .bool s1)] ∧ G = G' ∧ Γ = Γ') ?_ ?_
  · clear hk2
    refine WP.region ?_
    refine WL.pure 0 3 [0, 5] (L' := [(0, .int .i64 a0), (5, .bool (decide (a0 < 1)))]) (by kernel_rfl) (by decide) ?_
    refine WL.split 5 (b := decide (a0 < 1)) (by kernel_rfl) (fun hc => ?_) (fun hc => ?_)
    · replace hc := of_decide_eq_true hc
      rw [if_pos hc] at h
      have hc3 := hc
      clear hc
      refine WL.rest 3 [0, 8] (L' := [(0, .int .i64 a0), (8, .bool true)]) (by kernel_rfl) ?_
      refine QP.pick [0, 8] ?_
      exact QP.meet ⟨_, Option.some.inj h, rfl, rfl, rfl⟩
    · replace hc := of_decide_eq_false hc
      rw [if_neg hc] at h
      have hc3 := hc
      clear hc
      refine WL.rest 3 [0, 8] (L' := [(0, .int .i64 a0), (8, .bool (decide (a0 > 8)))]) (by kernel_rfl) ?_
      refine QP.pick [0, 8] ?_
      exact QP.meet ⟨_, Option.some.inj h, rfl, rfl, rfl⟩
  · rintro _ _ _ ⟨s1, rfl, rfl, rfl, rfl⟩
    clear h
    replace h := hk2
    refine WP.cond (b := s1) (by kernel_rfl) (fun hc => ?_) (fun hc => ?_)
    · replace hc := hc
      rw [if_pos hc] at h
      have hc4 := hc
      clear hc
      refine WP.seqP [2] (L' := [(2, .slice none 0 0)]) (by kernel_rfl) ?_
      refine WP.ret ?_
      refine QP.thenR ?_
      obtain rfl := Option.some.inj h
      refine QP.addNil ?_
      exact QP.returned [2] [.slice none 0 0] _ (by kernel_rfl) (by kernel_rfl) (by kernel_rfl) (fun W hI => ⟨_, _, _, rfl, ⟨none, 0, [], rfl, Ow.nil _ _, rfl, rfl⟩, hI⟩)
    · replace hc := (Bool.eq_false_iff.1 hc)
      rw [if_neg hc] at h
      have hc4 := hc
      clear hc
      refine WP.skip ?_
      refine QP.next ?_
      refine WP.pick [0] ?_
      refine WP.seqR ?_
      refine WL.pure 0 1 [9] (L' := [(9, .int .i64 a0)]) (by kernel_rfl) (by decide) ?_
      by_cases hb5 : 0 ≤ a0 ∧ a0 ≤ a0 ∧ a0 ≤ 1073741824
      case neg => rw [if_neg hb5] at h; cases h
      rw [if_pos hb5] at h
      refine WL.op (op := .makeSlice 52 (.tmp 9) (.tmp 9)) (ty := 52) (d := some 10) (g := none) (by kernel_rfl) (by kernel_rfl) (by kernel_rfl) (Does.make (kd := (kInt .i64)) (k := .i64) (k' := .i64) (l := a0) (c := a0) (z := 0) (zv := .int .i64 0) (by kernel_rfl) (by kernel_rfl) hb5.1 hb5.2.1 sl52 (by decide) hb5.2.2 (by kernel_rfl) (fun _ => (by exact rfl))) ?_
      rintro _ _ _ ⟨rfl, AM6, cM6, CM6, rfl, he7, HM6, rfl⟩
      refine WL.restQ 2 [2] (L' := [(2, .slice AM6 (List.replicate a0.toNat (0 : Int)).length cM6)]) (by kernel_rfl) ?_
      refine WP.ret ?_
      obtain rfl := Option.some.inj h
      exact QP.returned [2] [.slice AM6 (List.replicate a0.toNat (0 : Int)).length cM6] _ (by kernel_rfl) (by kernel_rfl) (by kernel_rfl) (fun W hI => ⟨_, _, _, rfl, ⟨AM6, cM6, CM6, rfl, HM6, rfl, rfl⟩, hI⟩)

/-! ### grapevine/vector.Lack: function 40 -/
def vector_Lack_l0 (l0 : List Int) (l1 : List Int) (l2 : List Int) : Nat → (List T63) → Int → Option (List T63)
  | 0, _, _ => none
  | k + 1, y7, y8 => (if y8 < (l0.length : Int) then (if 0 ≤ y8 ∧ y8 < (l1.length : Int) then (if 0 ≤ y8 ∧ y8 < (l2.length : Int) then ((some (if (l2.getD y8.toNat 0) > (l1.getD y8.toNat 0) then (l2.getD y8.toNat 0) else (l1.getD y8.toNat 0))).bind fun v14 => (if 0 ≤ y8 ∧ y8 < (l0.length : Int) then (if v14 < (l0.getD y8.toNat 0) then (if 0 ≤ y8 ∧ y8 < (l0.length : Int) then (if y7.length + ([(⟨y8, IntKind.i64.wrap (v14 + 1), IntKind.i64.wrap ((l0.getD y8.toNat 0) - v14)⟩ : T63)] : List T63).length ≤ 1073741824 then vector_Lack_l0 l0 l1 l2 k (y7 ++ ([(⟨y8, IntKind.i64.wrap (v14 + 1), IntKind.i64.wrap ((l0.getD y8.toNat 0) - v14)⟩ : T63)] : List T63)) (IntKind.i64.wrap (y8 + 1)) else none) else none) else vector_Lack_l0 l0 l1 l2 k y7 (IntKind.i64.wrap (y8 + 1))) else none)) else none) else none) else some y7)
def vector_Lack (k : Nat) (l0 : List Int) (l1 : List Int) (l2 : List Int) : Option (List T63) := ((if ¬ (l0.length : Int) = (l1.length : Int) then some true else some ((l0.length : Int) != (l2.length : Int))).bind fun s1 => (if s1 = true then some ([] : List T63) else ((vector_Lack_l0 l0 l1 l2 k ([] : List T63) 0).bind fun s5 => some s5)))
set_option maxHeartbeats 4000000 in
theorem vector_Lack_calls {B : World} {G : GMap} {Γ : List Chunk} {W : World} (k : Nat) (l0 : List Int) (l1 : List Int) (l2 : List Int) (Al0 : Option Addr) (cl0 : Nat) (Hl0 : Rd (kInt .i64) G Al0 cl0 l0) (Al1 : Option Addr) (cl1 : Nat) (Hl1 : Rd (kInt .i64) G Al1 cl1 l1) (Al2 : Option Addr) (cl2 : Nat) (Hl2 : Rd (kInt .i64) G Al2 cl2 l2) (r : List T63) (h : vector_Lack k l0 l1 l2 = some r) (hI : Inv B G (Γ) W) :
    Calls Try.prog 40 [.slice Al0 l0.length cl0, .slice Al1 l1.length cl1, .slice Al2 l2.length cl2].toArray W (Ret B (fun v G' Γ' => ∃ (AR : Option Addr), ∃ (cR : Nat), ∃ (CR : Chunk), v = .slice AR r.length cR ∧ Ow k63 G' AR cR r CR ∧ G = G' ∧ CR :: Γ = Γ')) := by
  refine calls_WP (Γ := Γ) (G := G) (B := B) Try.func40 rfl (by kernel_rfl) ?_ hI
  clear hI
  unfold vector_Lack at h
  refine WP.seqP [0, 1, 2] (L' := [(0, .slice Al0 l0.length cl0), (1, .slice Al1 l1.length cl1), (2, .slice Al2 l2.length cl2)]) (by kernel_rfl) ?_
  refine WP.seq ?_
  rw [Option.bind_eq_some_iff] at h
  obtain ⟨os1, h, hk2⟩ := h
  refine WP.cut (fun L' G' Γ' => ∃ s1 : Bool, s1 = os1 ∧ L' = [(0, .slice Al0 l0.length cl0), (1, .slice Al1 l1.length cl1), (2, .slice Al2 l2.length cl2), (21, .bool s1)] ∧ G = G' ∧ Γ = Γ') ?_ ?_
  · clear hk2
    refine WP.region ?_
    refine WL.pure 0 6 [0, 1, 2, 15] (L' := [(0, .slice Al0 l0.length cl0), (1, .slice Al1 l1.length cl1), (2, .slice Al2 l2.length cl2), (15, .bool ((l0.length : Int) != (l1.length : Int)))]) (by kernel_rfl) (by decide) ?_
    refine WL.split 15 (b := ((l0.length : Int) != (l1.length : Int))) (by kernel_rfl) (fun hc => ?_) (fun hc => ?_)
    · replace hc := (bne_iff_ne.1 hc)
      rw [if_pos hc] at h
      have hc3 := hc
      clear hc
      refine WL.rest 6 [0, 1, 2, 21] (L' := [(0, .slice Al0 l0.length cl0), (1, .slice Al1 l1.length cl1), (2, .slice Al2 l2.length cl2), (21, .bool true)]) (by kernel_rfl) ?_
      refine QP.pick [0, 1, 2, 21] ?_
      exact QP.meet ⟨_, Option.some.inj h, rfl, rfl, rfl⟩
    · replace hc := (not_not_intro (bne_eq_false_iff_eq.1 hc))
      rw [if_neg hc] at h
      have hc3 := hc
      clear hc
      refine WL.rest 6 [0, 1, 2, 21] (L' := [(0, .slice Al0 l0.length cl0), (1, .slice Al1 l1.length cl1), (2, .slice Al2 l2.length cl2), (21, .bool ((l0.length : Int) != (l2.length : Int)))]) (by kernel_rfl) ?_
      refine QP.pick [0, 1, 2, 21] ?_
      exact QP.meet ⟨_, Option.some.inj h, rfl, rfl, rfl⟩
  · rintro _ _ _ ⟨s1, rfl, rfl, rfl, rfl⟩
    clear h
    replace h := hk2
    refine WP.cond (b := s1) (by kernel_rfl) (fun hc => ?_) (fun hc => ?_)
    · replace hc := hc
      rw [if_pos hc] at h
      have hc4 := hc
      clear hc
      refine WP.seqP [6] (L' := [(6, .slice none 0 0)]) (by kernel_rfl) ?_
      refine WP.ret ?_
      refine QP.thenR ?_
      obtain rfl := Option.some.inj h
      refine QP.addNil ?_
      exact QP.returned [6] [.slice none 0 0] _ (by kernel_rfl) (by kernel_rfl) (by kernel_rfl) (fun W hI => ⟨_, _, _, rfl, ⟨none, 0, [], rfl, Ow.nil _ _, rfl, rfl⟩, hI⟩)
    · replace hc := (Bool.eq_false_iff.1 hc)
      rw [if_neg hc] at h
      have hc4 := hc
      clear hc
      refine WP.skip ?_
      refine QP.next ?_
      refine WP.pick [0, 1, 2] ?_
      refine WP.seqP [0, 1, 2, 7] (L' := [(0, .slice Al0 l0.length cl0), (1, .slice Al1 l1.length cl1), (2, .slice Al2 l2.length cl2), (7, .slice none 0 0)]) (by kernel_rfl) ?_
      refine WP.seq ?_
      refine WP.seqP [0, 1, 2, 7, 23, 24] (L' := [(0, .slice Al0 l0.length cl0), (1, .slice Al1 l1.length cl1), (2, .slice Al2 l2.length cl2), (7, .slice none 0 0), (23, .int .i64 (l0.length : Int)), (24, .int .i64 0)]) (by kernel_rfl) ?_
      rw [Option.bind_eq_some_iff] at h
      obtain ⟨os5, h, hk6⟩ := h
      refine WP.cutQ (fun L' G' Γ' => ∃ s5 : (List T63), s5 = os5 ∧ ∃ (As5 : Option Addr), ∃ (cs5 : Nat), ∃ (Cs5 : Chunk), L' = [(7, .slice As5 s5.length cs5)] ∧ G = G' ∧ Cs5 :: Γ = Γ' ∧ Ow k63 G As5 cs5 s5 Cs5) ?_ ?_
      · clear hk6
        refine WP.block ?_
        refine WP.addNil ?_
        refine WP.pick [0, 1, 2, 7, 23, 24] ?_
        refine WP.loopF (fun k9 L' G' Γ' => ∃ (y7 : List T63), ∃ (y8 : Int), vector_Lack_l0 l0 l1 l2 k9 y7 y8 = some os5 ∧ ∃ (Ay7 : Option Addr), ∃ (cy7 : Nat), ∃ (Cy7 : Chunk), L' = [(0, .slice Al0 l0.length cl0), (1, .slice Al1 l1.length cl1), (2, .slice Al2 l2.length cl2), (7, .slice Ay7 y7.length cy7), (23, .int .i64 (l0.length : Int)), (24, .int .i64 y8)] ∧ G = G' ∧ Cy7 :: Γ = Γ' ∧ Ow k63 G Ay7 cy7 y7 Cy7) ?_ k ⟨([] : List T63), 0, h, none, 0, [], rfl, rfl, rfl, (Ow.nil _ _)⟩
        clear h
        rintro k10 _ _ _ ⟨y7, y8, h, Ay7, cy7, Cy7, rfl, rfl, rfl, Hy7⟩
        cases k10 with
        | zero => exact absurd h (by simp [vector_Lack_l0])
        | succ k10 =>
          simp only [vector_Lack_l0] at h
          refine WP.seqP [0, 1, 2, 7, 23, 24, 25] (L' := [(0, .slice Al0 l0.length cl0), (1, .slice Al1 l1.length cl1), (2, .slice Al2 l2.length cl2), (7, .slice Ay7 y7.length cy7), (23, .int .i64 (l0.length : Int)), (24, .int .i64 y8), (25, .bool (decide (y8 < (l0.length : Int))))]) (by kernel_rfl) ?_
          refine WP.seq ?_
          refine WP.cond (b := decide (y8 < (l0.length : Int))) (by kernel_rfl) (fun hc => ?_) (fun hc => ?_)
          · replace hc := of_decide_eq_true hc
            rw [if_pos hc] at h
            have hc11 := hc
            clear hc
            refine WP.skip ?_
            refine QP.next ?_
            refine WP.pick [0, 1, 2, 7, 23, 24] ?_
            refine WP.seq ?_
            refine WP.block ?_
            refine WP.seqP [0, 1, 2, 7, 8, 23, 24] (L' := [(0, .slice Al0 l0.length cl0), (1, .slice Al1 l1.length cl1), (2, .slice Al2 l2.length cl2), (7, .slice Ay7 y7.length cy7), (8, .int .i64 y8), (23, .int .i64 (l0.length : Int)), (24, .int .i64 y8)]) (by kernel_rfl) ?_
            refine WP.seq ?_
            refine WP.any (N := 10) (S := [⟨some 27, [1], []⟩, ⟨some 28, [8], []⟩, ⟨some 29, [27, 28], [0, 1]⟩, ⟨some 30, [29], [2]⟩, ⟨some 31, [2], []⟩, ⟨some 32, [8], []⟩, ⟨some 33, [31, 32], [4, 5]⟩, ⟨some 34, [33], [6]⟩, ⟨some 35, [30, 34], [3, 7]⟩, ⟨some 9, [35], [0, 1, 2, 3, 4, 5, 6, 7, 8]⟩]) (kw := 10) (G0 := G) (Γ0 := Cy7 :: Γ) mo (by kernel_rfl) (fun hS => ?_)
            refine WA.pure [0, 1, 4, 5] [0, 1, 2, 7, 8, 23, 24, 27, 28, 31, 32] (m := 6) (b' := 51) (L' := [(0, .slice Al0 l0.length cl0), (1, .slice Al1 l1.length cl1), (2, .slice Al2 l2.length cl2), (7, .slice Ay7 y7.length cy7), (8, .int .i64 y8), (23, .int .i64 (l0.length : Int)), (24, .int .i64 y8), (27, .slice Al1 l1.length cl1), (28, .int .i64 y8), (31, .slice Al2 l2.length cl2), (32, .int .i64 y8)]) (by kernel_rfl) (NoPanic.then (NoPanic.block (NoPanic.then (NoPanic.then (NoPanic.block (NoPanic.then (NoPanic.then (NoPanic.body)))))))) Under.refl hS (by kernel_rfl) ?_
            by_cases hb12 : 0 ≤ y8 ∧ y8 < (l1.length : Int)
            case neg => rw [if_neg hb12] at h; cases h
            rw [if_pos hb12] at h
            refine WA.tell (i := 2) (m := 5) (b' := 55) (by kernel_rfl) (NoPanic.then (NoPanic.block (NoPanic.then (NoPanic.then (NoPanic.block (NoPanic.then (NoPanic.then (NoPanic.body)))))))) Under.refl hS (by kernel_rfl) (op := .indexAddr 52 (.tmp 27) (.tmp 28)) (ty := 0) (d := some 29) (g := none) (by kernel_rfl) (by kernel_rfl) (by kernel_rfl) (Tells.indexAddr (A := Al1) (n := l1.length) (c := cl1) (k := .i64) (j := y8) (by kernel_rfl) (by kernel_rfl) (Hl1.isSome hb12.1 hb12.2) hb12.1 hb12.2 sl52) ?_
            refine WA.tellE (i := 3) (m := 4) (b' := 63) (by kernel_rfl) (NoPanic.then (NoPanic.block (NoPanic.then (NoPanic.then (NoPanic.block (NoPanic.then (NoPanic.then (NoPanic.body)))))))) Under.refl hS (by kernel_rfl) (op := .load 3 (.tmp 29)) (ty := 3) (d := some 30) (g := none) (by kernel_rfl) (by kernel_rfl) (by kernel_rfl) (Hl1.load (agg := false) hb12.1 hb12.2 0 ag3 (fun _ => rfl) (by kernel_rfl)) ?_
            rintro _ rfl
            by_cases hb13 : 0 ≤ y8 ∧ y8 < (l2.length : Int)
            case neg => rw [if_neg hb13] at h; cases h
            rw [if_pos hb13] at h
            refine WA.tell (i := 6) (m := 3) (b' := 127) (by kernel_rfl) (NoPanic.then (NoPanic.block (NoPanic.then (NoPanic.then (NoPanic.block (NoPanic.then (NoPanic.then (NoPanic.body)))))))) Under.refl hS (by kernel_rfl) (op := .indexAddr 52 (.tmp 31) (.tmp 32)) (ty := 0) (d := some 33) (g := none) (by kernel_rfl) (by kernel_rfl) (by kernel_rfl) (Tells.indexAddr (A := Al2) (n := l2.length) (c := cl2) (k := .i64) (j := y8) (by kernel_rfl) (by kernel_rfl) (Hl2.isSome hb13.1 hb13.2) hb13.1 hb13.2 sl52) ?_
            refine WA.tellE (i := 7) (m := 2) (b' := 255) (by kernel_rfl) (NoPanic.then (NoPanic.block (NoPanic.then (NoPanic.then (NoPanic.block (NoPanic.then (NoPanic.then (NoPanic.body)))))))) Under.refl hS (by kernel_rfl) (op := .load 3 (.tmp 33)) (ty := 3) (d := some 34) (g := none) (by kernel_rfl) (by kernel_rfl) (by kernel_rfl) (Hl2.load (agg := false) hb13.1 hb13.2 0 ag3 (fun _ => rfl) (by kernel_rfl)) ?_
            rintro _ rfl
            refine WA.pure [8, 9] [0, 1, 2, 7, 8, 9, 23, 24] (m := 0) (b' := 1023) (L' := [(0, .slice Al0 l0.length cl0), (1, .slice Al1 l1.length cl1), (2, .slice Al2 l2.length cl2), (7, .slice Ay7 y7.length cy7), (8, .int .i64 y8), (9, .int .i64 (if (l2.getD y8.toNat 0) > (l1.getD y8.toNat 0) then (l2.getD y8.toNat 0) else (l1.getD y8.toNat 0))), (23, .int .i64 (l0.length : Int)), (24, .int .i64 y8)]) (by kernel_rfl) (NoPanic.then (NoPanic.block (NoPanic.then (NoPanic.then (NoPanic.block (NoPanic.then (NoPanic.then (NoPanic.body)))))))) Under.refl hS (by kernel_rfl) ?_
            refine WA.done hS (by kernel_rfl) ?_
            refine QP.pick [0, 1, 2, 7, 8, 9, 23, 24] ?_
            refine QP.next ?_
            obtain ⟨v14, hv15, h⟩ := Option.bind_eq_some_iff.1 h
            replace hv15 := Option.some.inj hv15
            refine WP.reput 9 (v := .int .i64 (if (l2.getD y8.toNat 0) > (l1.getD y8.toNat 0) then (l2.getD y8.toNat 0) else (l1.getD y8.toNat 0))) (v' := .int .i64 v14) (by kernel_rfl) (by subst hv15; rfl) ?_
            refine WP.pick [0, 1, 2, 7, 8, 9, 23, 24] ?_
            refine WP.seqR ?_
            refine WL.pure 0 3 [0, 1, 2, 7, 8, 9, 23, 24, 36, 37, 38] (L' := [(0, .slice Al0 l0.length cl0), (1, .slice Al1 l1.length cl1), (2, .slice Al2 l2.length cl2), (7, .slice Ay7 y7.length cy7), (8, .int .i64 y8), (9, .int .i64 v14), (23, .int .i64 (l0.length : Int)), (24, .int .i64 y8), (36, .int .i64 v14), (37, .slice Al0 l0.length cl0), (38, .int .i64 y8)]) (by kernel_rfl) (by decide) ?_
            by_cases hb16 : 0 ≤ y8 ∧ y8 < (l0.length : Int)
            case neg => rw [if_neg hb16] at h; cases h
            rw [if_pos hb16] at h
            refine WL.tell (op := .indexAddr 52 (.tmp 37) (.tmp 38)) (ty := 0) (d := some 39) (g := none) (by kernel_rfl) (by kernel_rfl) (by kernel_rfl) (Tells.indexAddr (A := Al0) (n := l0.length) (c := cl0) (k := .i64) (j := y8) (by kernel_rfl) (by kernel_rfl) (Hl0.isSome hb16.1 hb16.2) hb16.1 hb16.2 sl52) ?_
            refine WL.tellE (op := .load 3 (.tmp 39)) (ty := 3) (d := some 40) (g := none) (by kernel_rfl) (by kernel_rfl) (by kernel_rfl) (Hl0.load (agg := false) hb16.1 hb16.2 0 ag3 (fun _ => rfl) (by kernel_rfl)) ?_
            rintro _ rfl
            refine WL.restQ 5 [0, 1, 2, 7, 8, 9, 23, 24, 41] (L' := [(0, .slice Al0 l0.length cl0), (1, .slice Al1 l1.length cl1), (2, .slice Al2 l2.length cl2), (7, .slice Ay7 y7.length cy7), (8, .int .i64 y8), (9, .int .i64 v14), (23, .int .i64 (l0.length : Int)), (24, .int .i64 y8), (41, .bool (decide (v14 < (l0.getD y8.toNat 0))))]) (by kernel_rfl) ?_
            refine WP.cond (b := decide (v14 < (l0.getD y8.toNat 0))) (by kernel_rfl) (fun hc => ?_) (fun hc => ?_)
            · replace hc := of_decide_eq_true hc
              rw [if_pos hc] at h
              have hc17 := hc
              clear hc
              refine WP.region ?_
              refine WL.pure 0 6 [0, 1, 2, 7, 9, 23, 24, 42, 43, 45, 46, 47] (L' := [(0, .slice Al0 l0.length cl0), (1, .slice Al1 l1.length cl1), (2, .slice Al2 l2.length cl2), (7, .slice Ay7 y7.length cy7), (9, .int .i64 v14), (23, .int .i64 (l0.length : Int)), (24, .int .i64 y8), (42, .slice Ay7 y7.length cy7), (43, .int .i64 y8), (45, .int .i64 (IntKind.i64.wrap (v14 + 1))), (46, .slice Al0 l0.length cl0), (47, .int .i64 y8)]) (by kernel_rfl) (by decide) ?_
              by_cases hb18 : 0 ≤ y8 ∧ y8 < (l0.length : Int)
              case neg => rw [if_neg hb18] at h; cases h
              rw [if_pos hb18] at h
              refine WL.tell (op := .indexAddr 52 (.tmp 46) (.tmp 47)) (ty := 0) (d := some 48) (g := none) (by kernel_rfl) (by kernel_rfl) (by kernel_rfl) (Tells.indexAddr (A := Al0) (n := l0.length) (c := cl0) (k := .i64) (j := y8) (by kernel_rfl) (by kernel_rfl) (Hl0.isSome hb18.1 hb18.2) hb18.1 hb18.2 sl52) ?_
              refine WL.tellE (op := .load 3 (.tmp 48)) (ty := 3) (d := some 49) (g := none) (by kernel_rfl) (by kernel_rfl) (by kernel_rfl) (Hl0.load (agg := false) hb18.1 hb18.2 0 ag3 (fun _ => rfl) (by kernel_rfl)) ?_
              rintro _ rfl
              refine WL.pure 8 11 [0, 1, 2, 7, 23, 24, 42, 52] (L' := [(0, .slice Al0 l0.length cl0), (1, .slice Al1 l1.length cl1), (2, .slice Al2 l2.length cl2), (7, .slice Ay7 y7.length cy7), (23, .int .i64 (l0.length : Int)), (24, .int .i64 y8), (42, .slice Ay7 y7.length cy7), (52, .agg #[.int .i64 y8, .int .i64 (IntKind.i64.wrap (v14 + 1)), .int .i64 (IntKind.i64.wrap ((l0.getD y8.toNat 0) - v14))])]) (by kernel_rfl) (by decide) ?_
              refine WL.op (op := .buildSlice 60 1 #[(0, (.tmp 52))]) (ty := 60) (d := some 53) (g := none) (by kernel_rfl) (by kernel_rfl) (by kernel_rfl) (Does.new (o := .cells #[.int .i64 y8, .int .i64 (IntKind.i64.wrap (v14 + 1)), .int .i64 (IntKind.i64.wrap ((l0.getD y8.toNat 0) - v14))] 63 (0, 0)) (v := fun r => .slice (some ⟨r, 0, none⟩) 1 1) (fun r => by kernel_rfl)) ?_
              rintro _ _ _ ⟨b19, rfl, rfl, rfl⟩
              have Ho21 : Ow k63 G (some ⟨b19, 0, none⟩) 1 ([(⟨y8, IntKind.i64.wrap (v14 + 1), IntKind.i64.wrap ((l0.getD y8.toNat 0) - v14)⟩ : T63)] : List T63) [(b19, .cells #[.int .i64 y8, .int .i64 (IntKind.i64.wrap (v14 + 1)), .int .i64 (IntKind.i64.wrap ((l0.getD y8.toNat 0) - v14))] 63 (0, 0))] := Ow.lit (kd := k63) (G := G) (b := b19) (T := 63) (xs := ([(⟨y8, IntKind.i64.wrap (v14 + 1), IntKind.i64.wrap ((l0.getD y8.toNat 0) - v14)⟩ : T63)] : List T63)) (cs := [.int .i64 y8, .int .i64 (IntKind.i64.wrap (v14 + 1)), .int .i64 (IntKind.i64.wrap ((l0.getD y8.toNat 0) - v14))]) (.cons (x := (⟨y8, IntKind.i64.wrap (v14 + 1), IntKind.i64.wrap ((l0.getD y8.toNat 0) - v14)⟩ : T63)) (cs := [.int .i64 y8, .int .i64 (IntKind.i64.wrap (v14 + 1)), .int .i64 (IntKind.i64.wrap ((l0.getD y8.toNat 0) - v14))]) (by exact rfl) .nil)
              by_cases hb22 : y7.length + ([(⟨y8, IntKind.i64.wrap (v14 + 1), IntKind.i64.wrap ((l0.getD y8.toNat 0) - v14)⟩ : T63)] : List T63).length ≤ 1073741824
              case neg => rw [if_neg hb22] at h; cases h
              rw [if_pos hb22] at h
              refine WL.op (op := .call { callee := (.builtin .append), args := #[(.tmp 42), (.tmp 53)], argTypes := #[60, 60] }) (ty := 60) (d := some 54) (g := none) (by kernel_rfl) (by kernel_rfl) (by kernel_rfl) (Ow.append (ys := ([(⟨y8, IntKind.i64.wrap (v14 + 1), IntKind.i64.wrap ((l0.getD y8.toNat 0) - v14)⟩ : T63)] : List T63)) (v := .slice (some ⟨b19, 0, none⟩) ([(⟨y8, IntKind.i64.wrap (v14 + 1), IntKind.i64.wrap ((l0.getD y8.toNat 0) - v14)⟩ : T63)] : List T63).length 1) Hy7 (i := 1) rfl (by kernel_rfl) (by kernel_rfl) (Ho21.src (i := 0) rfl) sl60 ze63 nt60 (by decide) hb22) ?_
              rintro _ _ _ ⟨rfl, AN23, cN23, CN23, rfl, HN23, rfl⟩
              refine WL.rest 13 [0, 1, 2, 7, 23, 24] (L' := [(0, .slice Al0 l0.length cl0), (1, .slice Al1 l1.length cl1), (2, .slice Al2 l2.length cl2), (7, .slice AN23 (y7 ++ ([(⟨y8, IntKind.i64.wrap (v14 + 1), IntKind.i64.wrap ((l0.getD y8.toNat 0) - v14)⟩ : T63)] : List T63)).length cN23), (23, .int .i64 (l0.length : Int)), (24, .int .i64 y8)]) (by kernel_rfl) ?_
              refine QP.blockN ?_
              refine QP.next ?_
              refine WP.pick [0, 1, 2, 7, 23, 24] ?_
              refine WP.regionP [0, 1, 2, 7, 23, 24] (L' := [(0, .slice Al0 l0.length cl0), (1, .slice Al1 l1.length cl1), (2, .slice Al2 l2.length cl2), (7, .slice AN23 (y7 ++ ([(⟨y8, IntKind.i64.wrap (v14 + 1), IntKind.i64.wrap ((l0.getD y8.toNat 0) - v14)⟩ : T63)] : List T63)).length cN23), (23, .int .i64 (l0.length : Int)), (24, .int .i64 (IntKind.i64.wrap (y8 + 1)))]) (by kernel_rfl) ?_
              refine QP.dropAt 0 ?_
              refine QP.pick [0, 1, 2, 7, 23, 24] ?_
              exact QP.meet ⟨k10, Nat.lt_succ_self _, (y7 ++ ([(⟨y8, IntKind.i64.wrap (v14 + 1), IntKind.i64.wrap ((l0.getD y8.toNat 0) - v14)⟩ : T63)] : List T63)), (IntKind.i64.wrap (y8 + 1)), h, AN23, cN23, CN23, rfl, rfl, rfl, HN23⟩
            · replace hc := of_decide_eq_false hc
              rw [if_neg hc] at h
              have hc17 := hc
              clear hc
              refine WP.skip ?_
              refine QP.blockN ?_
              refine QP.next ?_
              refine WP.pick [0, 1, 2, 7, 23, 24] ?_
              refine WP.regionP [0, 1, 2, 7, 23, 24] (L' := [(0, .slice Al0 l0.length cl0), (1, .slice Al1 l1.length cl1), (2, .slice Al2 l2.length cl2), (7, .slice Ay7 y7.length cy7), (23, .int .i64 (l0.length : Int)), (24, .int .i64 (IntKind.i64.wrap (y8 + 1)))]) (by kernel_rfl) ?_
              refine QP.pick [0, 1, 2, 7, 23, 24] ?_
              exact QP.meet ⟨k10, Nat.lt_succ_self _, y7, (IntKind.i64.wrap (y8 + 1)), h, Ay7, cy7, Cy7, rfl, rfl, rfl, Hy7⟩
          · replace hc := of_decide_eq_false hc
            rw [if_neg hc] at h
            have hc11 := hc
            clear hc
            refine WP.exit ?_
            refine QP.thenE ?_
            refine QP.thenE ?_
            refine QP.blockE ?_
            refine QP.pick [7] ?_
            exact QP.meet ⟨_, Option.some.inj h, Ay7, cy7, Cy7, rfl, rfl, rfl, Hy7⟩
      · rintro _ _ _ ⟨s5, rfl, As5, cs5, Cs5, rfl, rfl, rfl, Hs5⟩
        clear h
        replace h := hk6
        refine QP.next ?_
        refine WP.pick [7] ?_
        refine WP.seqP [6] (L' := [(6, .slice As5 s5.length cs5)]) (by kernel_rfl) ?_
        refine WP.ret ?_
        obtain rfl := Option.some.inj h
        exact QP.returned [6] [.slice As5 s5.length cs5] _ (by kernel_rfl) (by kernel_rfl) (by kernel_rfl) (fun W hI => ⟨_, _, _, rfl, ⟨As5, cs5, Cs5, rfl, Hs5, rfl, rfl⟩, hI⟩)

/-! ### grapevine/grapevinelaw0.SameSpans: function 58 -/
def grapevinelaw0_SameSpans_l0 (l0 : List T63) (l1 : List T63) : Nat → Int → Option (Sum Bool Unit)
  | 0, _ => none
  | k + 1, y4 => (if y4 < (l0.length : Int) then (if 0 ≤ y4 ∧ y4 < (l0.length : Int) then (if 0 ≤ y4 ∧ y4 < (l1.length : Int) then (if ¬ (l0.getD y4.toNat z63) = (l1.getD y4.toNat z63) then some (Sum.inl false) else grapevinelaw0_SameSpans_l0 l0 l1 k (IntKind.i64.wrap (y4 + 1))) else none) else none) else some (Sum.inr ()))
def grapevinelaw0_SameSpans (k : Nat) (l0 : List T63) (l1 : List T63) : Option Bool := (if ¬ (l0.length : Int) = (l1.length : Int) then some false else ((grapevinelaw0_SameSpans_l0 l0 l1 k 0).bind fun os2 => match os2 with | Sum.inl r => some r | Sum.inr s2 => some true))
set_option maxHeartbeats 4000000 in
theorem grapevinelaw0_SameSpans_calls {B : World} {G : GMap} {Γ : List Chunk} {W : World} (k : Nat) (l0 : List T63) (l1 : List T63) (Al0 : Option Addr) (cl0 : Nat) (Hl0 : Rd k63 G Al0 cl0 l0) (Al1 : Option Addr) (cl1 : Nat) (Hl1 : Rd k63 G Al1 cl1 l1) (r : Bool) (h : grapevinelaw0_SameSpans k l0 l1 = some r) (hI : Inv B G (Γ) W) :
    Calls Try.prog 58 [.slice Al0 l0.length cl0, .slice Al1 l1.length cl1].toArray W (Ret B (fun v G' Γ' => v = .bool r ∧ G = G' ∧ Γ = Γ')) := by
  refine calls_WP (Γ := Γ) (G := G) (B := B) Try.func58 rfl (by kernel_rfl) ?_ hI
  clear hI
  unfold grapevinelaw0_SameSpans at h
  refine WP.seqP [0, 1] (L' := [(0, .slice Al0 l0.length cl0), (1, .slice Al1 l1.length cl1)]) (by kernel_rfl) ?_
  refine WP.seq ?_
  refine WP.seqP [0, 1, 10] (L' := [(0, .slice Al0 l0.length cl0), (1, .slice Al1 l1.length cl1), (10, .bool ((l0.length : Int) != (l1.length : Int)))]) (by kernel_rfl) ?_
  refine WP.cond (b := ((l0.length : Int) != (l1.length : Int))) (by kernel_rfl) (fun hc => ?_) (fun hc => ?_)
  · replace hc := (bne_iff_ne.1 hc)
    rw [if_pos hc] at h
    have hc1 := hc
    clear hc
    refine WP.seqP [4] (L' := [(4, .bool false)]) (by kernel_rfl) ?_
    refine WP.ret ?_
    refine QP.thenR ?_
    obtain rfl := Option.some.inj h
    exact QP.returned [4] [.bool false] _ (by kernel_rfl) (by kernel_rfl) (by kernel_rfl) (fun W hI => ⟨_, _, _, rfl, ⟨rfl, rfl, rfl⟩, hI⟩)
  · replace hc := (not_not_intro (bne_eq_false_iff_eq.1 hc))
    rw [if_neg hc] at h
    have hc1 := hc
    clear hc
    refine WP.skip ?_
    refine QP.next ?_
    refine WP.pick [0, 1] ?_
    refine WP.seq ?_
    refine WP.seqP [0, 1, 5] (L' := [(0, .slice Al0 l0.length cl0), (1, .slice Al1 l1.length cl1), (5, .int .i64 0)]) (by kernel_rfl) ?_
    rw [Option.bind_eq_some_iff] at h
    obtain ⟨os2, h, hk3⟩ := h
    refine WP.cutQ (fun L' G' Γ' => ∃ s2 : Unit, Sum.inr s2 = os2 ∧ L' = [] ∧ G = G' ∧ Γ = Γ') ?_ ?_
    · skip
      refine WP.block ?_
      refine WP.pick [0, 1, 5] ?_
      refine WP.loopF (fun k5 L' G' Γ' => ∃ (y4 : Int), grapevinelaw0_SameSpans_l0 l0 l1 k5 y4 = some os2 ∧ L' = [(0, .slice Al0 l0.length cl0), (1, .slice Al1 l1.length cl1), (5, .int .i64 y4)] ∧ G = G' ∧ Γ = Γ') ?_ k ⟨0, h, rfl, rfl, rfl⟩
      clear h
      rintro k6 _ _ _ ⟨y4, h, rfl, rfl, rfl⟩
      cases k6 with
      | zero => exact absurd h (by simp [grapevinelaw0_SameSpans_l0])
      | succ k6 =>
        simp only [grapevinelaw0_SameSpans_l0] at h
        refine WP.seq ?_
        refine WP.seqP [0, 1, 5, 14] (L' := [(0, .slice Al0 l0.length cl0), (1, .slice Al1 l1.length cl1), (5, .int .i64 y4), (14, .bool (decide (y4 < (l0.length : Int))))]) (by kernel_rfl) ?_
        refine WP.cond (b := decide (y4 < (l0.length : Int))) (by kernel_rfl) (fun hc => ?_) (fun hc => ?_)
        · replace hc := of_decide_eq_true hc
          rw [if_pos hc] at h
          have hc7 := hc
          clear hc
          refine WP.skip ?_
          refine QP.next ?_
          refine WP.pick [0, 1, 5] ?_
          refine WP.seq ?_
          refine WP.block ?_
          refine WP.seq ?_
          refine WP.any (N := 9) (S := [⟨some 17, [0], []⟩, ⟨some 18, [5], []⟩, ⟨some 19, [17, 18], [0, 1]⟩, ⟨some 20, [19], [2]⟩, ⟨some 21, [1], []⟩, ⟨some 22, [5], []⟩, ⟨some 23, [21, 22], [4, 5]⟩, ⟨some 24, [23], [6]⟩, ⟨some 25, [20, 24], [3, 7]⟩]) (kw := 9) (G0 := G) (Γ0 := Γ) mo (by kernel_rfl) (fun hS => ?_)
          refine WA.pure [0, 1, 4, 5] [0, 1, 5, 17, 18, 21, 22] (m := 5) (b' := 51) (L' := [(0, .slice Al0 l0.length cl0), (1, .slice Al1 l1.length cl1), (5, .int .i64 y4), (17, .slice Al0 l0.length cl0), (18, .int .i64 y4), (21, .slice Al1 l1.length cl1), (22, .int .i64 y4)]) (by kernel_rfl) (NoPanic.then (NoPanic.block (NoPanic.then (NoPanic.then (NoPanic.block (NoPanic.then (NoPanic.then (NoPanic.body)))))))) Under.refl hS (by kernel_rfl) ?_
          by_cases hb8 : 0 ≤ y4 ∧ y4 < (l0.length : Int)
          case neg => rw [if_neg hb8] at h; cases h
          rw [if_pos hb8] at h
          refine WA.tell (i := 2) (m := 4) (b' := 55) (by kernel_rfl) (NoPanic.then (NoPanic.block (NoPanic.then (NoPanic.then (NoPanic.block (NoPanic.then (NoPanic.then (NoPanic.body)))))))) Under.refl hS (by kernel_rfl) (op := .indexAddr 60 (.tmp 17) (.tmp 18)) (ty := 0) (d := some 19) (g := none) (by kernel_rfl) (by kernel_rfl) (by kernel_rfl) (Tells.indexAddr (A := Al0) (n := l0.length) (c := cl0) (k := .i64) (j := y4) (by kernel_rfl) (by kernel_rfl) (Hl0.isSome hb8.1 hb8.2) hb8.1 hb8.2 sl60) ?_
          refine WA.tellE (i := 3) (m := 3) (b' := 63) (by kernel_rfl) (NoPanic.then (NoPanic.block (NoPanic.then (NoPanic.then (NoPanic.block (NoPanic.then (NoPanic.then (NoPanic.body)))))))) Under.refl hS (by kernel_rfl) (op := .load 63 (.tmp 19)) (ty := 63) (d := some 20) (g := none) (by kernel_rfl) (by kernel_rfl) (by kernel_rfl) (Hl0.load (agg := true) hb8.1 hb8.2 z63 ag63 (fun h => by cases h) (by kernel_rfl)) ?_
          rintro _ rfl
          by_cases hb9 : 0 ≤ y4 ∧ y4 < (l1.length : Int)
          case neg => rw [if_neg hb9] at h; cases h
          rw [if_pos hb9] at h
          refine WA.tell (i := 6) (m := 2) (b' := 127) (by kernel_rfl) (NoPanic.then (NoPanic.block (NoPanic.then (NoPanic.then (NoPanic.block (NoPanic.then (NoPanic.then (NoPanic.body)))))))) Under.refl hS (by kernel_rfl) (op := .indexAddr 60 (.tmp 21) (.tmp 22)) (ty := 0) (d := some 23) (g := none) (by kernel_rfl) (by kernel_rfl) (by kernel_rfl) (Tells.indexAddr (A := Al1) (n := l1.length) (c := cl1) (k := .i64) (j := y4) (by kernel_rfl) (by kernel_rfl) (Hl1.isSome hb9.1 hb9.2) hb9.1 hb9.2 sl60) ?_
          refine WA.tellE (i := 7) (m := 1) (b' := 255) (by kernel_rfl) (NoPanic.then (NoPanic.block (NoPanic.then (NoPanic.then (NoPanic.block (NoPanic.then (NoPanic.then (NoPanic.body)))))))) Under.refl hS (by kernel_rfl) (op := .load 63 (.tmp 23)) (ty := 63) (d := some 24) (g := none) (by kernel_rfl) (by kernel_rfl) (by kernel_rfl) (Hl1.load (agg := true) hb9.1 hb9.2 z63 ag63 (fun h => by cases h) (by kernel_rfl)) ?_
          rintro _ rfl
          refine WA.tell (i := 8) (m := 0) (b' := 511) (by kernel_rfl) (NoPanic.then (NoPanic.block (NoPanic.then (NoPanic.then (NoPanic.block (NoPanic.then (NoPanic.then (NoPanic.body)))))))) Under.refl hS (by kernel_rfl) (op := .binOp .neq 63 (.tmp 20) (.tmp 24) 63) (ty := 4) (d := some 25) (g := none) (by kernel_rfl) (by kernel_rfl) (by kernel_rfl) (Tells.neAgg (xs := #[.int .i64 ((l0.getD y4.toNat z63).f0), .int .i64 ((l0.getD y4.toNat z63).f1), .int .i64 ((l0.getD y4.toNat z63).f2)]) (ys := #[.int .i64 ((l1.getD y4.toNat z63).f0), .int .i64 ((l1.getD y4.toNat z63).f1), .int .i64 ((l1.getD y4.toNat z63).f2)]) (ls := [.int ((l0.getD y4.toNat z63).f0) ((l1.getD y4.toNat z63).f0), .int ((l0.getD y4.toNat z63).f1) ((l1.getD y4.toNat z63).f1), .int ((l0.getD y4.toNat z63).f2) ((l1.getD y4.toNat z63).f2)]) (by kernel_rfl) (by kernel_rfl) (by kernel_rfl) eg63) ?_
          refine WA.reput 25 (v := .bool (!([.int ((l0.getD y4.toNat z63).f0) ((l1.getD y4.toNat z63).f0), .int ((l0.getD y4.toNat z63).f1) ((l1.getD y4.toNat z63).f1), .int ((l0.getD y4.toNat z63).f2) ((l1.getD y4.toNat z63).f2)].all Lf.ok))) (v' := .bool (!decide ((l0.getD y4.toNat z63) = (l1.getD y4.toNat z63)))) (by kernel_rfl) (by exact (congrArg (fun z => Value.bool (!z)) (eqT63 (l0.getD y4.toNat z63) (l1.getD y4.toNat z63)))) ?_
          refine WA.done hS (by kernel_rfl) ?_
          refine QP.pick [0, 1, 5, 25] ?_
          refine QP.next ?_
          refine WP.cond (b := (!decide ((l0.getD y4.toNat z63) = (l1.getD y4.toNat z63)))) (by kernel_rfl) (fun hc => ?_) (fun hc => ?_)
          · replace hc := (nd_true hc)
            rw [if_pos hc] at h
            have hc10 := hc
            clear hc
            refine WP.seqP [4] (L' := [(4, .bool false)]) (by kernel_rfl) ?_
            refine WP.ret ?_
            refine QP.blockR ?_
            refine QP.thenR ?_
            refine QP.thenR ?_
            refine QP.blockR ?_
            refine QP.thenR ?_
            refine QP.thenR ?_
            obtain rfl := Option.some.inj h
            obtain rfl := Option.some.inj (show some _ = some _ from hk3)
            exact QP.returned [4] [.bool false] _ (by kernel_rfl) (by kernel_rfl) (by kernel_rfl) (fun W hI => ⟨_, _, _, rfl, ⟨rfl, rfl, rfl⟩, hI⟩)
          · replace hc := (nd_false hc)
            rw [if_neg hc] at h
            have hc10 := hc
            clear hc
            refine WP.skip ?_
            refine QP.blockN ?_
            refine QP.next ?_
            refine WP.pick [0, 1, 5] ?_
            refine WP.regionP [0, 1, 5] (L' := [(0, .slice Al0 l0.length cl0), (1, .slice Al1 l1.length cl1), (5, .int .i64 (IntKind.i64.wrap (y4 + 1)))]) (by kernel_rfl) ?_
            refine QP.pick [0, 1, 5] ?_
            exact QP.meet ⟨k6, Nat.lt_succ_self _, (IntKind.i64.wrap (y4 + 1)), h, rfl, rfl, rfl⟩
        · replace hc := of_decide_eq_false hc
          rw [if_neg hc] at h
          have hc7 := hc
          clear hc
          refine WP.exit ?_
          refine QP.thenE ?_
          refine QP.thenE ?_
          refine QP.blockE ?_
          refine QP.pick [] ?_
          exact QP.meet ⟨_, Option.some.inj h, rfl, rfl, rfl⟩
    · rintro _ _ _ ⟨s2, rfl, rfl, rfl, rfl⟩
      clear h
      replace h := hk3
      refine QP.next ?_
      refine WP.pick [] ?_
      refine WP.seqP [4] (L' := [(4, .bool true)]) (by kernel_rfl) ?_
      refine WP.ret ?_
      obtain rfl := Option.some.inj h
      exact QP.returned [4] [.bool true] _ (by kernel_rfl) (by kernel_rfl) (by kernel_rfl) (fun W hI => ⟨_, _, _, rfl, ⟨rfl, rfl, rfl⟩, hI⟩)

/-! ### grapevine/grapevinelaw3.awake: function 39 -/
def grapevinelaw3_awake (k : Nat) : Option Bool := (((vector_Join k ([([5, 2] : List Int), ([3, 4] : List Int)] : List (List Int))).bind fun t12 => ((grapevinelaw0_SameInts k t12 ([5, 4] : List Int)).bind fun t21 => (if t21 = true then ((vector_Meet k ([([5, 2] : List Int), ([3, 4] : List Int)] : List (List Int))).bind fun t29 => ((grapevinelaw0_SameInts k t29 ([3, 2] : List Int)).bind fun t38 => (if t38 = true then ((vector_Below k ([5, 2] : List Int) ([3, 4] : List Int)).bind fun t43 => (if (!t43) = true then ((vector_Sum k ([5, 2] : List Int)).bind fun t48 => (if t48 = 7 then ((vector_May k ([5, 2] : List Int) 2).bind fun t52 => (if t52 = true then ((vector_Zero 3).bind fun t56 => (if (t56.length : Int) = 3 then ((vector_Lack k ([5, 2] : List Int) ([3, 2] : List Int) ([4, 0] : List Int)).bind fun t66 => ((grapevinelaw0_SameSpans k t66 ([(⟨0, 5, 1⟩ : T63)] : List T63)).bind fun t75 => some t75)) else some false)) else some false)) else some false)) else some false)) else some false))) else some false))).bind fun s7 => some s7)
set_option maxHeartbeats 4000000 in
theorem grapevinelaw3_awake_calls {B : World} {G : GMap} {Γ : List Chunk} {W : World} (k : Nat) (r : Bool) (h : grapevinelaw3_awake k  = some r) (hI : Inv B G (Γ) W) :
    Calls Try.prog 39 [].toArray W (Ret B (fun v G' Γ' => v = .bool r ∧ G = G' ∧ Γ = Γ')) := by
  refine calls_WP (Γ := Γ) (G := G) (B := B) Try.func39 rfl (by kernel_rfl) ?_ hI
  clear hI
  unfold grapevinelaw3_awake at h
  refine WP.seqP [] (L' := []) (by kernel_rfl) ?_
  refine WP.seqR ?_
  refine WL.op (op := .buildSlice 52 2 #[(0, (.const (.int .i64 5))), (1, (.const (.int .i64 2)))]) (ty := 52) (d := some 3) (g := none) (by kernel_rfl) (by kernel_rfl) (by kernel_rfl) (Does.new (o := .cells #[.int .i64 5, .int .i64 2] 3 (0, 0)) (v := fun r => .slice (some ⟨r, 0, none⟩) 2 2) (fun r => by kernel_rfl)) ?_
  rintro _ _ _ ⟨b1, rfl, rfl, rfl⟩
  have Ho3 : Ow (kInt .i64) G (some ⟨b1, 0, none⟩) 2 ([5, 2] : List Int) [(b1, .cells #[.int .i64 5, .int .i64 2] 3 (0, 0))] := Ow.lit (kd := (kInt .i64)) (G := G) (b := b1) (T := 3) (xs := ([5, 2] : List Int)) (cs := [.int .i64 5, .int .i64 2]) (.cons (x := 5) (cs := [.int .i64 5]) (by exact rfl) (.cons (x := 2) (cs := [.int .i64 2]) (by exact rfl) .nil))
  refine WL.op (op := .buildSlice 52 2 #[(0, (.const (.int .i64 3))), (1, (.const (.int .i64 4)))]) (ty := 52) (d := some 4) (g := none) (by kernel_rfl) (by kernel_rfl) (by kernel_rfl) (Does.new (o := .cells #[.int .i64 3, .int .i64 4] 3 (0, 0)) (v := fun r => .slice (some ⟨r, 0, none⟩) 2 2) (fun r => by kernel_rfl)) ?_
  rintro _ _ _ ⟨b4, rfl, rfl, rfl⟩
  have Ho6 : Ow (kInt .i64) G (some ⟨b4, 0, none⟩) 2 ([3, 4] : List Int) [(b4, .cells #[.int .i64 3, .int .i64 4] 3 (0, 0))] := Ow.lit (kd := (kInt .i64)) (G := G) (b := b4) (T := 3) (xs := ([3, 4] : List Int)) (cs := [.int .i64 3, .int .i64 4]) (.cons (x := 3) (cs := [.int .i64 3]) (by exact rfl) (.cons (x := 4) (cs := [.int .i64 4]) (by exact rfl) .nil))
  refine WL.restQ 2 [1, 2] (L' := [(1, .slice (some ⟨b1, 0, none⟩) ([5, 2] : List Int).length 2), (2, .slice (some ⟨b4, 0, none⟩) ([3, 4] : List Int).length 2)]) (by kernel_rfl) ?_
  rw [Option.bind_eq_some_iff] at h
  obtain ⟨os7, h, hk8⟩ := h
  refine WP.cut (fun L' G' Γ' => ∃ s7 : Bool, s7 = os7 ∧ L' = [(0, .bool s7)] ∧ G = G' ∧ [(b4, .cells #[.int .i64 3, .int .i64 4] 3 (0, 0))] :: [(b1, .cells #[.int .i64 5, .int .i64 2] 3 (0, 0))] :: Γ = Γ') ?_ ?_
  · clear hk8
    refine WP.region ?_
    refine WL.pure 0 2 [1, 2, 5, 6] (L' := [(1, .slice (some ⟨b1, 0, none⟩) ([5, 2] : List Int).length 2), (2, .slice (some ⟨b4, 0, none⟩) ([3, 4] : List Int).length 2), (5, .slice (some ⟨b1, 0, none⟩) ([5, 2] : List Int).length 2), (6, .slice (some ⟨b4, 0, none⟩) ([3, 4] : List Int).length 2)]) (by kernel_rfl) (by decide) ?_
    refine WL.op (op := .buildSlice 84 2 #[(0, (.tmp 5)), (1, (.tmp 6))]) (ty := 84) (d := some 7) (g := none) (by kernel_rfl) (by kernel_rfl) (by kernel_rfl) (Does.new (o := .cells #[.slice (some ⟨b1, 0, none⟩) ([5, 2] : List Int).length 2, .slice (some ⟨b4, 0, none⟩) ([3, 4] : List Int).length 2] 52 (0, 0)) (v := fun r => .slice (some ⟨r, 0, none⟩) 2 2) (fun r => by kernel_rfl)) ?_
    rintro _ _ _ ⟨b9, rfl, rfl, rfl⟩
    rw [Option.bind_eq_some_iff] at h
    obtain ⟨t12, ht13, h⟩ := h
    refine WL.op (op := .call { callee := (.value (.func 33)), args := #[(.tmp 7)], argTypes := #[84] }) (ty := 52) (d := some 8) (g := none) (by kernel_rfl) (by kernel_rfl) (by kernel_rfl) (Does.call (Φ := fun v' G' Γ' => ∃ (AR14 : Option Addr), ∃ (cR14 : Nat), ∃ (CR14 : Chunk), v' = .slice AR14 t12.length cR14 ∧ Ow (kInt .i64) G AR14 cR14 t12 CR14 ∧ G = G' ∧ CR14 :: [(b9, .cells #[.slice (some ⟨b1, 0, none⟩) ([5, 2] : List Int).length 2, .slice (some ⟨b4, 0, none⟩) ([3, 4] : List Int).length 2] 52 (0, 0))] :: [(b4, .cells #[.int .i64 3, .int .i64 4] 3 (0, 0))] :: [(b1, .cells #[.int .i64 5, .int .i64 2] 3 (0, 0))] :: Γ = Γ') (f := 33) (args := [.slice (some ⟨b9, 0, none⟩) ([([5, 2] : List Int), ([3, 4] : List Int)] : List (List Int)).length 2]) (by kernel_rfl) (fun W hI => (Calls.lendR (Φ := fun v' N => ∃ (AR14 : Option Addr), ∃ (cR14 : Nat), ∃ (CR14 : Chunk), v' = .slice AR14 t12.length cR14 ∧ Ow (kInt .i64) G AR14 cR14 t12 CR14 ∧ N = [CR14]) (i := 2) rfl (Ow.nodup Ho3) hI (fun _ e l15 hI => by subst e; exact Calls.lendR (Φ := fun v' N => ∃ (AR14 : Option Addr), ∃ (cR14 : Nat), ∃ (CR14 : Chunk), v' = .slice AR14 t12.length cR14 ∧ Ow (kInt .i64) G AR14 cR14 t12 CR14 ∧ N = [CR14]) (i := 1) rfl (Ow.nodup (Ho6.mono l15)) hI (fun _ e l16 hI => by subst e; exact Calls.lendR (Φ := fun v' N => ∃ (AR14 : Option Addr), ∃ (cR14 : Nat), ∃ (CR14 : Chunk), v' = .slice AR14 t12.length cR14 ∧ Ow (kInt .i64) G AR14 cR14 t12 CR14 ∧ N = [CR14]) (i := 0) rfl (by simp) hI (fun _ e l17 hI => by subst e; exact ((vector_Join_calls k ([([5, 2] : List Int), ([3, 4] : List Int)] : List (List Int)) (some ⟨b9, 0, none⟩) 2 ((Ow.lit (kd := (kSlice (kInt .i64))) (b := b9) (T := 52) (xs := ([([5, 2] : List Int), ([3, 4] : List Int)] : List (List Int))) (cs := [.slice (some ⟨b1, 0, none⟩) ([5, 2] : List Int).length 2, .slice (some ⟨b4, 0, none⟩) ([3, 4] : List Int).length 2]) (.cons (x := ([5, 2] : List Int)) (cs := [.slice (some ⟨b1, 0, none⟩) ([5, 2] : List Int).length 2]) ⟨(some ⟨b1, 0, none⟩), 2, rfl, ((Ho3.rd l15).mono l16)⟩ (.cons (x := ([3, 4] : List Int)) (cs := [.slice (some ⟨b4, 0, none⟩) ([3, 4] : List Int).length 2]) ⟨(some ⟨b4, 0, none⟩), 2, rfl, ((Ho6.mono l15).rd l16)⟩ .nil))).rd l17) t12 ht13 hI).mono fun _ _ hr => by obtain ⟨_, _, _, rfl, ⟨AR14, cR14, CR14, rfl, HR14, rfl, rfl⟩, hI⟩ := hr; exact ⟨_, _, _, rfl, ⟨[CR14], ⟨AR14, cR14, CR14, rfl, (HR14.flat (kInt_flat _)), rfl⟩, rfl, rfl⟩, hI⟩))))).mono fun _ _ hr => by obtain ⟨_, _, _, rfl, ⟨_, ⟨AR14, cR14, CR14, rfl, HR14, rfl⟩, rfl, rfl⟩, hI⟩ := hr; exact ⟨_, _, _, rfl, ⟨AR14, cR14, CR14, rfl, HR14, rfl, rfl⟩, hI⟩)) ?_
    rintro _ _ _ ⟨AR14, cR14, CR14, rfl, HR14, rfl, rfl⟩
    refine WL.op (op := .buildSlice 52 2 #[(0, (.const (.int .i64 5))), (1, (.const (.int .i64 4)))]) (ty := 52) (d := some 9) (g := none) (by kernel_rfl) (by kernel_rfl) (by kernel_rfl) (Does.new (o := .cells #[.int .i64 5, .int .i64 4] 3 (0, 0)) (v := fun r => .slice (some ⟨r, 0, none⟩) 2 2) (fun r => by kernel_rfl)) ?_
    rintro _ _ _ ⟨b18, rfl, rfl, rfl⟩
    have Ho20 : Ow (kInt .i64) G (some ⟨b18, 0, none⟩) 2 ([5, 4] : List Int) [(b18, .cells #[.int .i64 5, .int .i64 4] 3 (0, 0))] := Ow.lit (kd := (kInt .i64)) (G := G) (b := b18) (T := 3) (xs := ([5, 4] : List Int)) (cs := [.int .i64 5, .int .i64 4]) (.cons (x := 5) (cs := [.int .i64 5]) (by exact rfl) (.cons (x := 4) (cs := [.int .i64 4]) (by exact rfl) .nil))
    rw [Option.bind_eq_some_iff] at h
    obtain ⟨t21, ht22, h⟩ := h
    refine WL.op (op := .call { callee := (.value (.func 35)), args := #[(.tmp 8), (.tmp 9)], argTypes := #[52, 52] }) (ty := 4) (d := some 10) (g := none) (by kernel_rfl) (by kernel_rfl) (by kernel_rfl) (Does.call (Φ := fun v' G' Γ' => v' = .bool t21 ∧ G = G' ∧ [(b18, .cells #[.int .i64 5, .int .i64 4] 3 (0, 0))] :: CR14 :: [(b9, .cells #[.slice (some ⟨b1, 0, none⟩) ([5, 2] : List Int).length 2, .slice (some ⟨b4, 0, none⟩) ([3, 4] : List Int).length 2] 52 (0, 0))] :: [(b4, .cells #[.int .i64 3, .int .i64 4] 3 (0, 0))] :: [(b1, .cells #[.int .i64 5, .int .i64 2] 3 (0, 0))] :: Γ = Γ') (f := 35) (args := [.slice AR14 t12.length cR14, .slice (some ⟨b18, 0, none⟩) ([5, 4] : List Int).length 2]) (by kernel_rfl) (fun W hI => Calls.lend (i := 1) rfl (Ow.nodup HR14) hI (fun _ e l23 hI => by subst e; exact Calls.lend (i := 0) rfl (Ow.nodup (Ho20.mono l23)) hI (fun _ e l24 hI => by subst e; exact (grapevinelaw0_SameInts_calls k t12 ([5, 4] : List Int) AR14 cR14 ((HR14.rd l23).mono l24) (some ⟨b18, 0, none⟩) 2 ((Ho20.mono l23).rd l24) t21 ht22 hI))))) ?_
    rintro _ _ _ ⟨rfl, rfl, rfl⟩
    refine WL.pure 6 7 [1, 2, 11] (L' := [(1, .slice (some ⟨b1, 0, none⟩) ([5, 2] : List Int).length 2), (2, .slice (some ⟨b4, 0, none⟩) ([3, 4] : List Int).length 2), (11, .bool t21)]) (by kernel_rfl) (by decide) ?_
    refine WL.split 11 (b := t21) (by kernel_rfl) (fun hc => ?_) (fun hc => ?_)
    · replace hc := hc
      rw [if_pos hc] at h
      have hc25 := hc
      clear hc
      refine WL.pure 7 9 [1, 2, 11, 12, 13] (L' := [(1, .slice (some ⟨b1, 0, none⟩) ([5, 2] : List Int).length 2), (2, .slice (some ⟨b4, 0, none⟩) ([3, 4] : List Int).length 2), (11, .bool true), (12, .slice (some ⟨b1, 0, none⟩) ([5, 2] : List Int).length 2), (13, .slice (some ⟨b4, 0, none⟩) ([3, 4] : List Int).length 2)]) (by kernel_rfl) (by decide) ?_
      refine WL.op (op := .buildSlice 84 2 #[(0, (.tmp 12)), (1, (.tmp 13))]) (ty := 84) (d := some 14) (g := some (6, true)) (by kernel_rfl) (by kernel_rfl) (by kernel_rfl) (Does.new (o := .cells #[.slice (some ⟨b1, 0, none⟩) ([5, 2] : List Int).length 2, .slice (some ⟨b4, 0, none⟩) ([3, 4] : List Int).length 2] 52 (0, 0)) (v := fun r => .slice (some ⟨r, 0, none⟩) 2 2) (fun r => by kernel_rfl)) ?_
      rintro _ _ _ ⟨b26, rfl, rfl, rfl⟩
      rw [Option.bind_eq_some_iff] at h
      obtain ⟨t29, ht30, h⟩ := h
      refine WL.op (op := .call { callee := (.value (.func 34)), args := #[(.tmp 14)], argTypes := #[84] }) (ty := 52) (d := some 15) (g := some (6, true)) (by kernel_rfl) (by kernel_rfl) (by kernel_rfl) (Does.call (Φ := fun v' G' Γ' => ∃ (AR31 : Option Addr), ∃ (cR31 : Nat), ∃ (CR31 : Chunk), v' = .slice AR31 t29.length cR31 ∧ Ow (kInt .i64) G AR31 cR31 t29 CR31 ∧ G = G' ∧ CR31 :: [(b26, .cells #[.slice (some ⟨b1, 0, none⟩) ([5, 2] : List Int).length 2, .slice (some ⟨b4, 0, none⟩) ([3, 4] : List Int).length 2] 52 (0, 0))] :: [(b18, .cells #[.int .i64 5, .int .i64 4] 3 (0, 0))] :: CR14 :: [(b9, .cells #[.slice (some ⟨b1, 0, none⟩) ([5, 2] : List Int).length 2, .slice (some ⟨b4, 0, none⟩) ([3, 4] : List Int).length 2] 52 (0, 0))] :: [(b4, .cells #[.int .i64 3, .int .i64 4] 3 (0, 0))] :: [(b1, .cells #[.int .i64 5, .int .i64 2] 3 (0, 0))] :: Γ = Γ') (f := 34) (args := [.slice (some ⟨b26, 0, none⟩) ([([5, 2] : List Int), ([3, 4] : List Int)] : List (List Int)).length 2]) (by kernel_rfl) (fun W hI => (Calls.lendR (Φ := fun v' N => ∃ (AR31 : Option Addr), ∃ (cR31 : Nat), ∃ (CR31 : Chunk), v' = .slice AR31 t29.length cR31 ∧ Ow (kInt .i64) G AR31 cR31 t29 CR31 ∧ N = [CR31]) (i := 5) rfl (Ow.nodup Ho3) hI (fun _ e l32 hI => by subst e; exact Calls.lendR (Φ := fun v' N => ∃ (AR31 : Option Addr), ∃ (cR31 : Nat), ∃ (CR31 : Chunk), v' = .slice AR31 t29.length cR31 ∧ Ow (kInt .i64) G AR31 cR31 t29 CR31 ∧ N = [CR31]) (i := 4) rfl (Ow.nodup (Ho6.mono l32)) hI (fun _ e l33 hI => by subst e; exact Calls.lendR (Φ := fun v' N => ∃ (AR31 : Option Addr), ∃ (cR31 : Nat), ∃ (CR31 : Chunk), v' = .slice AR31 t29.length cR31 ∧ Ow (kInt .i64) G AR31 cR31 t29 CR31 ∧ N = [CR31]) (i := 0) rfl (by simp) hI (fun _ e l34 hI => by subst e; exact ((vector_Meet_calls k ([([5, 2] : List Int), ([3, 4] : List Int)] : List (List Int)) (some ⟨b26, 0, none⟩) 2 ((Ow.lit (kd := (kSlice (kInt .i64))) (b := b26) (T := 52) (xs := ([([5, 2] : List Int), ([3, 4] : List Int)] : List (List Int))) (cs := [.slice (some ⟨b1, 0, none⟩) ([5, 2] : List Int).length 2, .slice (some ⟨b4, 0, none⟩) ([3, 4] : List Int).length 2]) (.cons (x := ([5, 2] : List Int)) (cs := [.slice (some ⟨b1, 0, none⟩) ([5, 2] : List Int).length 2]) ⟨(some ⟨b1, 0, none⟩), 2, rfl, ((Ho3.rd l32).mono l33)⟩ (.cons (x := ([3, 4] : List Int)) (cs := [.slice (some ⟨b4, 0, none⟩) ([3, 4] : List Int).length 2]) ⟨(some ⟨b4, 0, none⟩), 2, rfl, ((Ho6.mono l32).rd l33)⟩ .nil))).rd l34) t29 ht30 hI).mono fun _ _ hr => by obtain ⟨_, _, _, rfl, ⟨AR31, cR31, CR31, rfl, HR31, rfl, rfl⟩, hI⟩ := hr; exact ⟨_, _, _, rfl, ⟨[CR31], ⟨AR31, cR31, CR31, rfl, (HR31.flat (kInt_flat _)), rfl⟩, rfl, rfl⟩, hI⟩))))).mono fun _ _ hr => by obtain ⟨_, _, _, rfl, ⟨_, ⟨AR31, cR31, CR31, rfl, HR31, rfl⟩, rfl, rfl⟩, hI⟩ := hr; exact ⟨_, _, _, rfl, ⟨AR31, cR31, CR31, rfl, HR31, rfl, rfl⟩, hI⟩)) ?_
      rintro _ _ _ ⟨AR31, cR31, CR31, rfl, HR31, rfl, rfl⟩
      refine WL.op (op := .buildSlice 52 2 #[(0, (.const (.int .i64 3))), (1, (.const (.int .i64 2)))]) (ty := 52) (d := some 16) (g := some (6, true)) (by kernel_rfl) (by kernel_rfl) (by kernel_rfl) (Does.new (o := .cells #[.int .i64 3, .int .i64 2] 3 (0, 0)) (v := fun r => .slice (some ⟨r, 0, none⟩) 2 2) (fun r => by kernel_rfl)) ?_
      rintro _ _ _ ⟨b35, rfl, rfl, rfl⟩
      have Ho37 : Ow (kInt .i64) G (some ⟨b35, 0, none⟩) 2 ([3, 2] : List Int) [(b35, .cells #[.int .i64 3, .int .i64 2] 3 (0, 0))] := Ow.lit (kd := (kInt .i64)) (G := G) (b := b35) (T := 3) (xs := ([3, 2] : List Int)) (cs := [.int .i64 3, .int .i64 2]) (.cons (x := 3) (cs := [.int .i64 3]) (by exact rfl) (.cons (x := 2) (cs := [.int .i64 2]) (by exact rfl) .nil))
      rw [Option.bind_eq_some_iff] at h
      obtain ⟨t38, ht39, h⟩ := h
      refine WL.op (op := .call { callee := (.value (.func 35)), args := #[(.tmp 15), (.tmp 16)], argTypes := #[52, 52] }) (ty := 4) (d := some 17) (g := some (6, true)) (by kernel_rfl) (by kernel_rfl) (by kernel_rfl) (Does.call (Φ := fun v' G' Γ' => v' = .bool t38 ∧ G = G' ∧ [(b35, .cells #[.int .i64 3, .int .i64 2] 3 (0, 0))] :: CR31 :: [(b26, .cells #[.slice (some ⟨b1, 0, none⟩) ([5, 2] : List Int).length 2, .slice (some ⟨b4, 0, none⟩) ([3, 4] : List Int).length 2] 52 (0, 0))] :: [(b18, .cells #[.int .i64 5, .int .i64 4] 3 (0, 0))] :: CR14 :: [(b9, .cells #[.slice (some ⟨b1, 0, none⟩) ([5, 2] : List Int).length 2, .slice (some ⟨b4, 0, none⟩) ([3, 4] : List Int).length 2] 52 (0, 0))] :: [(b4, .cells #[.int .i64 3, .int .i64 4] 3 (0, 0))] :: [(b1, .cells #[.int .i64 5, .int .i64 2] 3 (0, 0))] :: Γ = Γ') (f := 35) (args := [.slice AR31 t29.length cR31, .slice (some ⟨b35, 0, none⟩) ([3, 2] : List Int).length 2]) (by kernel_rfl) (fun W hI => Calls.lend (i := 1) rfl (Ow.nodup HR31) hI (fun _ e l40 hI => by subst e; exact Calls.lend (i := 0) rfl (Ow.nodup (Ho37.mono l40)) hI (fun _ e l41 hI => by subst e; exact (grapevinelaw0_SameInts_calls k t29 ([3, 2] : List Int) AR31 cR31 ((HR31.rd l40).mono l41) (some ⟨b35, 0, none⟩) 2 ((Ho37.mono l40).rd l41) t38 ht39 hI))))) ?_
      rintro _ _ _ ⟨rfl, rfl, rfl⟩
      refine WL.pure 13 15 [1, 2, 19] (L' := [(1, .slice (some ⟨b1, 0, none⟩) ([5, 2] : List Int).length 2), (2, .slice (some ⟨b4, 0, none⟩) ([3, 4] : List Int).length 2), (19, .bool t38)]) (by kernel_rfl) (by decide) ?_
      refine WL.split 19 (b := t38) (by kernel_rfl) (fun hc => ?_) (fun hc => ?_)
      · replace hc := hc
        rw [if_pos hc] at h
        have hc42 := hc
        clear hc
        refine WL.pure 15 17 [1, 19, 20, 21] (L' := [(1, .slice (some ⟨b1, 0, none⟩) ([5, 2] : List Int).length 2), (19, .bool true), (20, .slice (some ⟨b1, 0, none⟩) ([5, 2] : List Int).length 2), (21, .slice (some ⟨b4, 0, none⟩) ([3, 4] : List Int).length 2)]) (by kernel_rfl) (by decide) ?_
        rw [Option.bind_eq_some_iff] at h
        obtain ⟨t43, ht44, h⟩ := h
        refine WL.op (op := .call { callee := (.value (.func 36)), args := #[(.tmp 20), (.tmp 21)], argTypes := #[52, 52] }) (ty := 4) (d := some 22) (g := some (14, true)) (by kernel_rfl) (by kernel_rfl) (by kernel_rfl) (Does.call (Φ := fun v' G' Γ' => v' = .bool t43 ∧ G = G' ∧ [(b35, .cells #[.int .i64 3, .int .i64 2] 3 (0, 0))] :: CR31 :: [(b26, .cells #[.slice (some ⟨b1, 0, none⟩) ([5, 2] : List Int).length 2, .slice (some ⟨b4, 0, none⟩) ([3, 4] : List Int).length 2] 52 (0, 0))] :: [(b18, .cells #[.int .i64 5, .int .i64 4] 3 (0, 0))] :: CR14 :: [(b9, .cells #[.slice (some ⟨b1, 0, none⟩) ([5, 2] : List Int).length 2, .slice (some ⟨b4, 0, none⟩) ([3, 4] : List Int).length 2] 52 (0, 0))] :: [(b4, .cells #[.int .i64 3, .int .i64 4] 3 (0, 0))] :: [(b1, .cells #[.int .i64 5, .int .i64 2] 3 (0, 0))] :: Γ = Γ') (f := 36) (args := [.slice (some ⟨b1, 0, none⟩) ([5, 2] : List Int).length 2, .slice (some ⟨b4, 0, none⟩) ([3, 4] : List Int).length 2]) (by kernel_rfl) (fun W hI => Calls.lend (i := 7) rfl (Ow.nodup Ho3) hI (fun _ e l45 hI => by subst e; exact Calls.lend (i := 6) rfl (Ow.nodup (Ho6.mono l45)) hI (fun _ e l46 hI => by subst e; exact (vector_Below_calls k ([5, 2] : List Int) ([3, 4] : List Int) (some ⟨b1, 0, none⟩) 2 ((Ho3.rd l45).mono l46) (some ⟨b4, 0, none⟩) 2 ((Ho6.mono l45).rd l46) t43 ht44 hI))))) ?_
        rintro _ _ _ ⟨rfl, rfl, rfl⟩
        refine WL.pure 18 21 [1, 25] (L' := [(1, .slice (some ⟨b1, 0, none⟩) ([5, 2] : List Int).length 2), (25, .bool (!t43))]) (by kernel_rfl) (by decide) ?_
        refine WL.split 25 (b := (!t43)) (by kernel_rfl) (fun hc => ?_) (fun hc => ?_)
        · replace hc := hc
          rw [if_pos hc] at h
          have hc47 := hc
          clear hc
          refine WL.pure 21 22 [1, 25, 26] (L' := [(1, .slice (some ⟨b1, 0, none⟩) ([5, 2] : List Int).length 2), (25, .bool true), (26, .slice (some ⟨b1, 0, none⟩) ([5, 2] : List Int).length 2)]) (by kernel_rfl) (by decide) ?_
          rw [Option.bind_eq_some_iff] at h
          obtain ⟨t48, ht49, h⟩ := h
          refine WL.op (op := .call { callee := (.value (.func 38)), args := #[(.tmp 26)], argTypes := #[52] }) (ty := 3) (d := some 27) (g := some (20, true)) (by kernel_rfl) (by kernel_rfl) (by kernel_rfl) (Does.call (Φ := fun v' G' Γ' => v' = .int .i64 t48 ∧ G = G' ∧ [(b35, .cells #[.int .i64 3, .int .i64 2] 3 (0, 0))] :: CR31 :: [(b26, .cells #[.slice (some ⟨b1, 0, none⟩) ([5, 2] : List Int).length 2, .slice (some ⟨b4, 0, none⟩) ([3, 4] : List Int).length 2] 52 (0, 0))] :: [(b18, .cells #[.int .i64 5, .int .i64 4] 3 (0, 0))] :: CR14 :: [(b9, .cells #[.slice (some ⟨b1, 0, none⟩) ([5, 2] : List Int).length 2, .slice (some ⟨b4, 0, none⟩) ([3, 4] : List Int).length 2] 52 (0, 0))] :: [(b4, .cells #[.int .i64 3, .int .i64 4] 3 (0, 0))] :: [(b1, .cells #[.int .i64 5, .int .i64 2] 3 (0, 0))] :: Γ = Γ') (f := 38) (args := [.slice (some ⟨b1, 0, none⟩) ([5, 2] : List Int).length 2]) (by kernel_rfl) (fun W hI => Calls.lend (i := 7) rfl (Ow.nodup Ho3) hI (fun _ e l50 hI => by subst e; exact (vector_Sum_calls k ([5, 2] : List Int) (some ⟨b1, 0, none⟩) 2 (Ho3.rd l50) t48 ht49 hI)))) ?_
          rintro _ _ _ ⟨rfl, rfl, rfl⟩
          refine WL.pure 23 26 [1, 30] (L' := [(1, .slice (some ⟨b1, 0, none⟩) ([5, 2] : List Int).length 2), (30, .bool (t48 == 7))]) (by kernel_rfl) (by decide) ?_
          refine WL.split 30 (b := (t48 == 7)) (by kernel_rfl) (fun hc => ?_) (fun hc => ?_)
          · replace hc := eq_of_beq hc
            rw [if_pos hc] at h
            have hc51 := hc
            clear hc
            refine WL.pure 26 27 [1, 30, 31] (L' := [(1, .slice (some ⟨b1, 0, none⟩) ([5, 2] : List Int).length 2), (30, .bool true), (31, .slice (some ⟨b1, 0, none⟩) ([5, 2] : List Int).length 2)]) (by kernel_rfl) (by decide) ?_
            rw [Option.bind_eq_some_iff] at h
            obtain ⟨t52, ht53, h⟩ := h
            refine WL.op (op := .call { callee := (.value (.func 37)), args := #[(.tmp 31), (.const (.int .i64 2))], argTypes := #[52, 3] }) (ty := 4) (d := some 32) (g := some (25, true)) (by kernel_rfl) (by kernel_rfl) (by kernel_rfl) (Does.call (Φ := fun v' G' Γ' => v' = .bool t52 ∧ G = G' ∧ [(b35, .cells #[.int .i64 3, .int .i64 2] 3 (0, 0))] :: CR31 :: [(b26, .cells #[.slice (some ⟨b1, 0, none⟩) ([5, 2] : List Int).length 2, .slice (some ⟨b4, 0, none⟩) ([3, 4] : List Int).length 2] 52 (0, 0))] :: [(b18, .cells #[.int .i64 5, .int .i64 4] 3 (0, 0))] :: CR14 :: [(b9, .cells #[.slice (some ⟨b1, 0, none⟩) ([5, 2] : List Int).length 2, .slice (some ⟨b4, 0, none⟩) ([3, 4] : List Int).length 2] 52 (0, 0))] :: [(b4, .cells #[.int .i64 3, .int .i64 4] 3 (0, 0))] :: [(b1, .cells #[.int .i64 5, .int .i64 2] 3 (0, 0))] :: Γ = Γ') (f := 37) (args := [.slice (some ⟨b1, 0, none⟩) ([5, 2] : List Int).length 2, .int .i64 2]) (by kernel_rfl) (fun W hI => Calls.lend (i := 7) rfl (Ow.nodup Ho3) hI (fun _ e l54 hI => by subst e; exact (vector_May_calls k ([5, 2] : List Int) 2 (some ⟨b1, 0, none⟩) 2 (Ho3.rd l54) t52 ht53 hI)))) ?_
            rintro _ _ _ ⟨rfl, rfl, rfl⟩
            refine WL.pure 28 30 [1, 34] (L' := [(1, .slice (some ⟨b1, 0, none⟩) ([5, 2] : List Int).length 2), (34, .bool t52)]) (by kernel_rfl) (by decide) ?_
            refine WL.split 34 (b := t52) (by kernel_rfl) (fun hc => ?_) (fun hc => ?_)
            · replace hc := hc
              rw [if_pos hc] at h
              have hc55 := hc
              clear hc
              rw [Option.bind_eq_some_iff] at h
              obtain ⟨t56, ht57, h⟩ := h
              refine WL.op (op := .call { callee := (.value (.func 41)), args := #[(.const (.int .i64 3))], argTypes := #[3] }) (ty := 52) (d := some 35) (g := some (29, true)) (by kernel_rfl) (by kernel_rfl) (by kernel_rfl) (Does.call (f := 41) (args := [.int .i64 3]) (by kernel_rfl) (fun W hI => (vector_Zero_calls 3  t56 ht57 hI))) ?_
              rintro _ _ _ ⟨AR58, cR58, CR58, rfl, HR58, rfl, rfl⟩
              refine WL.pure 31 35 [1, 39] (L' := [(1, .slice (some ⟨b1, 0, none⟩) ([5, 2] : List Int).length 2), (39, .bool ((t56.length : Int) == 3))]) (by kernel_rfl) (by decide) ?_
              refine WL.split 39 (b := ((t56.length : Int) == 3)) (by kernel_rfl) (fun hc => ?_) (fun hc => ?_)
              · replace hc := eq_of_beq hc
                rw [if_pos hc] at h
                have hc59 := hc
                clear hc
                refine WL.pure 35 36 [39, 40] (L' := [(39, .bool true), (40, .slice (some ⟨b1, 0, none⟩) ([5, 2] : List Int).length 2)]) (by kernel_rfl) (by decide) ?_
                refine WL.op (op := .buildSlice 52 2 #[(0, (.const (.int .i64 3))), (1, (.const (.int .i64 2)))]) (ty := 52) (d := some 41) (g := some (34, true)) (by kernel_rfl) (by kernel_rfl) (by kernel_rfl) (Does.new (o := .cells #[.int .i64 3, .int .i64 2] 3 (0, 0)) (v := fun r => .slice (some ⟨r, 0, none⟩) 2 2) (fun r => by kernel_rfl)) ?_
                rintro _ _ _ ⟨b60, rfl, rfl, rfl⟩
                have Ho62 : Ow (kInt .i64) G (some ⟨b60, 0, none⟩) 2 ([3, 2] : List Int) [(b60, .cells #[.int .i64 3, .int .i64 2] 3 (0, 0))] := Ow.lit (kd := (kInt .i64)) (G := G) (b := b60) (T := 3) (xs := ([3, 2] : List Int)) (cs := [.int .i64 3, .int .i64 2]) (.cons (x := 3) (cs := [.int .i64 3]) (by exact rfl) (.cons (x := 2) (cs := [.int .i64 2]) (by exact rfl) .nil))
                refine WL.op (op := .buildSlice 52 2 #[(0, (.const (.int .i64 4))), (1, (.const (.int .i64 0)))]) (ty := 52) (d := some 42) (g := some (34, true)) (by kernel_rfl) (by kernel_rfl) (by kernel_rfl) (Does.new (o := .cells #[.int .i64 4, .int .i64 0] 3 (0, 0)) (v := fun r => .slice (some ⟨r, 0, none⟩) 2 2) (fun r => by kernel_rfl)) ?_
                rintro _ _ _ ⟨b63, rfl, rfl, rfl⟩
                have Ho65 : Ow (kInt .i64) G (some ⟨b63, 0, none⟩) 2 ([4, 0] : List Int) [(b63, .cells #[.int .i64 4, .int .i64 0] 3 (0, 0))] := Ow.lit (kd := (kInt .i64)) (G := G) (b := b63) (T := 3) (xs := ([4, 0] : List Int)) (cs := [.int .i64 4, .int .i64 0]) (.cons (x := 4) (cs := [.int .i64 4]) (by exact rfl) (.cons (x := 0) (cs := [.int .i64 0]) (by exact rfl) .nil))
                rw [Option.bind_eq_some_iff] at h
                obtain ⟨t66, ht67, h⟩ := h
                refine WL.op (op := .call { callee := (.value (.func 40)), args := #[(.tmp 40), (.tmp 41), (.tmp 42)], argTypes := #[52, 52, 52] }) (ty := 60) (d := some 43) (g := some (34, true)) (by kernel_rfl) (by kernel_rfl) (by kernel_rfl) (Does.call (Φ := fun v' G' Γ' => ∃ (AR68 : Option Addr), ∃ (cR68 : Nat), ∃ (CR68 : Chunk), v' = .slice AR68 t66.length cR68 ∧ Ow k63 G AR68 cR68 t66 CR68 ∧ G = G' ∧ CR68 :: [(b63, .cells #[.int .i64 4, .int .i64 0] 3 (0, 0))] :: [(b60, .cells #[.int .i64 3, .int .i64 2] 3 (0, 0))] :: CR58 :: [(b35, .cells #[.int .i64 3, .int .i64 2] 3 (0, 0))] :: CR31 :: [(b26, .cells #[.slice (some ⟨b1, 0, none⟩) ([5, 2] : List Int).length 2, .slice (some ⟨b4, 0, none⟩) ([3, 4] : List Int).length 2] 52 (0, 0))] :: [(b18, .cells #[.int .i64 5, .int .i64 4] 3 (0, 0))] :: CR14 :: [(b9, .cells #[.slice (some ⟨b1, 0, none⟩) ([5, 2] : List Int).length 2, .slice (some ⟨b4, 0, none⟩) ([3, 4] : List Int).length 2] 52 (0, 0))] :: [(b4, .cells #[.int .i64 3, .int .i64 4] 3 (0, 0))] :: [(b1, .cells #[.int .i64 5, .int .i64 2] 3 (0, 0))] :: Γ = Γ') (f := 40) (args := [.slice (some ⟨b1, 0, none⟩) ([5, 2] : List Int).length 2, .slice (some ⟨b60, 0, none⟩) ([3, 2] : List Int).length 2, .slice (some ⟨b63, 0, none⟩) ([4, 0] : List Int).length 2]) (by kernel_rfl) (fun W hI => (Calls.lendR (Φ := fun v' N => ∃ (AR68 : Option Addr), ∃ (cR68 : Nat), ∃ (CR68 : Chunk), v' = .slice AR68 t66.length cR68 ∧ Ow k63 G AR68 cR68 t66 CR68 ∧ N = [CR68]) (i := 10) rfl (Ow.nodup Ho3) hI (fun _ e l69 hI => by subst e; exact Calls.lendR (Φ := fun v' N => ∃ (AR68 : Option Addr), ∃ (cR68 : Nat), ∃ (CR68 : Chunk), v' = .slice AR68 t66.length cR68 ∧ Ow k63 G AR68 cR68 t66 CR68 ∧ N = [CR68]) (i := 1) rfl (Ow.nodup (Ho62.mono l69)) hI (fun _ e l70 hI => by subst e; exact Calls.lendR (Φ := fun v' N => ∃ (AR68 : Option Addr), ∃ (cR68 : Nat), ∃ (CR68 : Chunk), v' = .slice AR68 t66.length cR68 ∧ Ow k63 G AR68 cR68 t66 CR68 ∧ N = [CR68]) (i := 0) rfl (Ow.nodup ((Ho65.mono l69).mono l70)) hI (fun _ e l71 hI => by subst e; exact ((vector_Lack_calls k ([5, 2] : List Int) ([3, 2] : List Int) ([4, 0] : List Int) (some ⟨b1, 0, none⟩) 2 (((Ho3.rd l69).mono l70).mono l71) (some ⟨b60, 0, none⟩) 2 (((Ho62.mono l69).rd l70).mono l71) (some ⟨b63, 0, none⟩) 2 (((Ho65.mono l69).mono l70).rd l71) t66 ht67 hI).mono fun _ _ hr => by obtain ⟨_, _, _, rfl, ⟨AR68, cR68, CR68, rfl, HR68, rfl, rfl⟩, hI⟩ := hr; exact ⟨_, _, _, rfl, ⟨[CR68], ⟨AR68, cR68, CR68, rfl, (HR68.flat (kFlat_flat _ _ _ _)), rfl⟩, rfl, rfl⟩, hI⟩))))).mono fun _ _ hr => by obtain ⟨_, _, _, rfl, ⟨_, ⟨AR68, cR68, CR68, rfl, HR68, rfl⟩, rfl, rfl⟩, hI⟩ := hr; exact ⟨_, _, _, rfl, ⟨AR68, cR68, CR68, rfl, HR68, rfl, rfl⟩, hI⟩)) ?_
                rintro _ _ _ ⟨AR68, cR68, CR68, rfl, HR68, rfl, rfl⟩
                refine WL.pure 39 40 [39, 43, 44] (L' := [(39, .bool true), (43, .slice AR68 t66.length cR68), (44, .agg #[.int .i64 0, .int .i64 5, .int .i64 1])]) (by kernel_rfl) (by decide) ?_
                refine WL.op (op := .buildSlice 60 1 #[(0, (.tmp 44))]) (ty := 60) (d := some 45) (g := some (34, true)) (by kernel_rfl) (by kernel_rfl) (by kernel_rfl) (Does.new (o := .cells #[.int .i64 0, .int .i64 5, .int .i64 1] 63 (0, 0)) (v := fun r => .slice (some ⟨r, 0, none⟩) 1 1) (fun r => by kernel_rfl)) ?_
                rintro _ _ _ ⟨b72, rfl, rfl, rfl⟩
                have Ho74 : Ow k63 G (some ⟨b72, 0, none⟩) 1 ([(⟨0, 5, 1⟩ : T63)] : List T63) [(b72, .cells #[.int .i64 0, .int .i64 5, .int .i64 1] 63 (0, 0))] := Ow.lit (kd := k63) (G := G) (b := b72) (T := 63) (xs := ([(⟨0, 5, 1⟩ : T63)] : List T63)) (cs := [.int .i64 0, .int .i64 5, .int .i64 1]) (.cons (x := (⟨0, 5, 1⟩ : T63)) (cs := [.int .i64 0, .int .i64 5, .int .i64 1]) (by exact rfl) .nil)
                rw [Option.bind_eq_some_iff] at h
                obtain ⟨t75, ht76, h⟩ := h
                refine WL.op (op := .call { callee := (.value (.func 58)), args := #[(.tmp 43), (.tmp 45)], argTypes := #[60, 60] }) (ty := 4) (d := some 46) (g := some (34, true)) (by kernel_rfl) (by kernel_rfl) (by kernel_rfl) (Does.call (Φ := fun v' G' Γ' => v' = .bool t75 ∧ G = G' ∧ [(b72, .cells #[.int .i64 0, .int .i64 5, .int .i64 1] 63 (0, 0))] :: CR68 :: [(b63, .cells #[.int .i64 4, .int .i64 0] 3 (0, 0))] :: [(b60, .cells #[.int .i64 3, .int .i64 2] 3 (0, 0))] :: CR58 :: [(b35, .cells #[.int .i64 3, .int .i64 2] 3 (0, 0))] :: CR31 :: [(b26, .cells #[.slice (some ⟨b1, 0, none⟩) ([5, 2] : List Int).length 2, .slice (some ⟨b4, 0, none⟩) ([3, 4] : List Int).length 2] 52 (0, 0))] :: [(b18, .cells #[.int .i64 5, .int .i64 4] 3 (0, 0))] :: CR14 :: [(b9, .cells #[.slice (some ⟨b1, 0, none⟩) ([5, 2] : List Int).length 2, .slice (some ⟨b4, 0, none⟩) ([3, 4] : List Int).length 2] 52 (0, 0))] :: [(b4, .cells #[.int .i64 3, .int .i64 4] 3 (0, 0))] :: [(b1, .cells #[.int .i64 5, .int .i64 2] 3 (0, 0))] :: Γ = Γ') (f := 58) (args := [.slice AR68 t66.length cR68, .slice (some ⟨b72, 0, none⟩) ([(⟨0, 5, 1⟩ : T63)] : List T63).length 1]) (by kernel_rfl) (fun W hI => Calls.lend (i := 1) rfl (Ow.nodup HR68) hI (fun _ e l77 hI => by subst e; exact Calls.lend (i := 0) rfl (Ow.nodup (Ho74.mono l77)) hI (fun _ e l78 hI => by subst e; exact (grapevinelaw0_SameSpans_calls k t66 ([(⟨0, 5, 1⟩ : T63)] : List T63) AR68 cR68 ((HR68.rd l77).mono l78) (some ⟨b72, 0, none⟩) 1 ((Ho74.mono l77).rd l78) t75 ht76 hI))))) ?_
                rintro _ _ _ ⟨rfl, rfl, rfl⟩
                refine WL.rest 42 [0] (L' := [(0, .bool t75)]) (by kernel_rfl) ?_
                refine QP.dropAt 10 ?_
                refine QP.dropAt 9 ?_
                refine QP.dropAt 8 ?_
                refine QP.dropAt 7 ?_
                refine QP.dropAt 6 ?_
                refine QP.dropAt 5 ?_
                refine QP.dropAt 4 ?_
                refine QP.dropAt 3 ?_
                refine QP.dropAt 2 ?_
                refine QP.dropAt 1 ?_
                refine QP.dropAt 0 ?_
                refine QP.pick [0] ?_
                exact QP.meet ⟨_, Option.some.inj h, rfl, rfl, rfl⟩
              · replace hc := ne_of_beq_false hc
                rw [if_neg hc] at h
                have hc59 := hc
                clear hc
                refine WL.rest 35 [0] (L' := [(0, .bool false)]) (by kernel_rfl) ?_
                refine QP.dropAt 6 ?_
                refine QP.dropAt 5 ?_
                refine QP.dropAt 4 ?_
                refine QP.dropAt 3 ?_
                refine QP.dropAt 2 ?_
                refine QP.dropAt 1 ?_
                refine QP.dropAt 0 ?_
                refine QP.pick [0] ?_
                exact QP.meet ⟨_, Option.some.inj h, rfl, rfl, rfl⟩
            · replace hc := (Bool.eq_false_iff.1 hc)
              rw [if_neg hc] at h
              have hc55 := hc
              clear hc
              refine WL.rest 30 [0] (L' := [(0, .bool false)]) (by kernel_rfl) ?_
              refine QP.dropAt 5 ?_
              refine QP.dropAt 4 ?_
              refine QP.dropAt 3 ?_
              refine QP.dropAt 2 ?_
              refine QP.dropAt 1 ?_
              refine QP.dropAt 0 ?_
              refine QP.pick [0] ?_
              exact QP.meet ⟨_, Option.some.inj h, rfl, rfl, rfl⟩
          · replace hc := ne_of_beq_false hc
            rw [if_neg hc] at h
            have hc51 := hc
            clear hc
            refine WL.rest 26 [0] (L' := [(0, .bool false)]) (by kernel_rfl) ?_
            refine QP.dropAt 5 ?_
            refine QP.dropAt 4 ?_
            refine QP.dropAt 3 ?_
            refine QP.dropAt 2 ?_
            refine QP.dropAt 1 ?_
            refine QP.dropAt 0 ?_
            refine QP.pick [0] ?_
            exact QP.meet ⟨_, Option.some.inj h, rfl, rfl, rfl⟩
        · replace hc := (Bool.eq_false_iff.1 hc)
          rw [if_neg hc] at h
          have hc47 := hc
          clear hc
          refine WL.rest 21 [0] (L' := [(0, .bool false)]) (by kernel_rfl) ?_
          refine QP.dropAt 5 ?_
          refine QP.dropAt 4 ?_
          refine QP.dropAt 3 ?_
          refine QP.dropAt 2 ?_
          refine QP.dropAt 1 ?_
          refine QP.dropAt 0 ?_
          refine QP.pick [0] ?_
          exact QP.meet ⟨_, Option.some.inj h, rfl, rfl, rfl⟩
      · replace hc := (Bool.eq_false_iff.1 hc)
        rw [if_neg hc] at h
        have hc42 := hc
        clear hc
        refine WL.rest 15 [0] (L' := [(0, .bool false)]) (by kernel_rfl) ?_
        refine QP.dropAt 5 ?_
        refine QP.dropAt 4 ?_
        refine QP.dropAt 3 ?_
        refine QP.dropAt 2 ?_
        refine QP.dropAt 1 ?_
        refine QP.dropAt 0 ?_
        refine QP.pick [0] ?_
        exact QP.meet ⟨_, Option.some.inj h, rfl, rfl, rfl⟩
    · replace hc := (Bool.eq_false_iff.1 hc)
      rw [if_neg hc] at h
      have hc25 := hc
      clear hc
      refine WL.rest 7 [0] (L' := [(0, .bool false)]) (by kernel_rfl) ?_
      refine QP.dropAt 2 ?_
      refine QP.dropAt 1 ?_
      refine QP.dropAt 0 ?_
      refine QP.pick [0] ?_
      exact QP.meet ⟨_, Option.some.inj h, rfl, rfl, rfl⟩
  · rintro _ _ _ ⟨s7, rfl, rfl, rfl, rfl⟩
    clear h
    replace h := hk8
    refine WP.ret ?_
    obtain rfl := Option.some.inj h
    refine QP.dropAt 1 ?_
    refine QP.dropAt 0 ?_
    exact QP.returned [0] [.bool s7] _ (by kernel_rfl) (by kernel_rfl) (by kernel_rfl) (fun W hI => ⟨_, _, _, rfl, ⟨rfl, rfl, rfl⟩, hI⟩)
end Go.Proofs.Ytmphcmgbognmnaa.Gf
