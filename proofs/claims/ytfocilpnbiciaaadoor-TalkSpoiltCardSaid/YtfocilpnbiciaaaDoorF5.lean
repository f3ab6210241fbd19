/- Walks of Go functions: what each tells, as a plain Lean function, and that the Go code comes to it. Written by gg.py of this repo. -/
import Derived.Test.YtfocilpnbiciaaaDoorT
import Derived.Test.YtfocilpnbiciaaaDoorF1
namespace Go.Proofs.YtfocilpnbiciaaaDoor.Gf
open Go Go.Gg
set_option maxRecDepth 100000
set_option linter.unusedVariables false
set_option linter.unusedSimpArgs false

/-! ### grapevine/grapevineref4.Get: function 49 -/
def grapevineref4_Get_l0 (l0 : List Int) (a1 : Int) (a2 : Int) : Nat → Int → Int → Option Int
  | 0, _, _ => none
  | k + 1, y8, y9 => (if y9 < a2 then (if 0 ≤ (IntKind.i64.wrap (a1 + y9)) ∧ (IntKind.i64.wrap (a1 + y9)) < (l0.length : Int) then grapevineref4_Get_l0 l0 a1 a2 k (IntKind.i64.wrap ((IntKind.i64.wrap (y8 * 256)) + (IntKind.i64.wrap (l0.getD (IntKind.i64.wrap (a1 + y9)).toNat 0)))) (IntKind.i64.wrap (y9 + 1)) else none) else some y8)
def grapevineref4_Get (k : Nat) (l0 : List Int) (a1 : Int) (a2 : Int) : Option (Int × Bool) := ((if a1 < 0 then some true else (if a2 > (l0.length : Int) then some true else some (decide (a1 > (IntKind.i64.wrap ((l0.length : Int) - a2)))))).bind fun s1 => (if s1 = true then some (0, false) else ((grapevineref4_Get_l0 l0 a1 a2 k 0 0).bind fun s6 => some (s6, true))))
set_option maxHeartbeats 4000000 in
theorem grapevineref4_Get_calls {B : World} {G : GMap} {Γ : List Chunk} {W : World} (k : Nat) (l0 : List Int) (a1 : Int) (a2 : Int) (Al0 : Option Addr) (cl0 : Nat) (Hl0 : Rd (kInt .u8) G Al0 cl0 l0) (r : Int × Bool) (h : grapevineref4_Get k l0 a1 a2 = some r) (hI : Inv B G (Γ) W) :
    Calls Tryd.prog 49 [.slice Al0 l0.length cl0, .int .i64 a1, .int .i64 a2].toArray W (Ret B (fun v G' Γ' => v = .tuple #[.int .i64 r.1, .bool r.2] ∧ G = G' ∧ Γ = Γ')) := by
  refine calls_WP (Γ := Γ) (G := G) (B := B) Tryd.func49 rfl (by kernel_rfl) ?_ hI
  clear hI
  unfold grapevineref4_Get at h
  refine WP.seqP [0, 1, 2] (L' := [(0, .slice Al0 l0.length cl0), (1, .int .i64 a1), (2, .int .i64 a2)]) (by kernel_rfl) ?_
  refine WP.seq ?_
  rw [Option.bind_eq_some_iff] at h
  obtain ⟨os1, h, hk2⟩ := h
  refine WP.cut (fun L' G' Γ' => ∃ s1 : Bool, s1 = os1 ∧ L' = [(0, .slice Al0 l0.length cl0), (1, .int .i64 a1), (2, .int .i64 a2), (25, .bool s1)] ∧ G = G' ∧ Γ = Γ') ?_ ?_
  · clear hk2
    refine WP.region ?_
    refine WL.pure 0 3 [0, 1, 2, 12] (L' := [(0, .slice Al0 l0.length cl0), (1, .int .i64 a1), (2, .int .i64 a2), (12, .bool (decide (a1 < 0)))]) (by kernel_rfl) (by decide) ?_
    refine WL.split 12 (b := decide (a1 < 0)) (by kernel_rfl) (fun hc => ?_) (fun hc => ?_)
    · replace hc := of_decide_eq_true hc
      rw [if_pos hc] at h
      have hc3 := hc
      clear hc
      refine WL.rest 3 [0, 1, 2, 25] (L' := [(0, .slice Al0 l0.length cl0), (1, .int .i64 a1), (2, .int .i64 a2), (25, .bool true)]) (by kernel_rfl) ?_
      refine QP.pick [0, 1, 2, 25] ?_
      exact QP.meet ⟨_, Option.some.inj h, rfl, rfl, rfl⟩
    · replace hc := of_decide_eq_false hc
      rw [if_neg hc] at h
      have hc3 := hc
      clear hc
      refine WL.pure 3 9 [0, 1, 2, 18] (L' := [(0, .slice Al0 l0.length cl0), (1, .int .i64 a1), (2, .int .i64 a2), (18, .bool (decide (a2 > (l0.length : Int))))]) (by kernel_rfl) (by decide) ?_
      refine WL.split 18 (b := decide (a2 > (l0.length : Int))) (by kernel_rfl) (fun hc => ?_) (fun hc => ?_)
      · replace hc := of_decide_eq_true hc
        rw [if_pos hc] at h
        have hc4 := hc
        clear hc
        refine WL.rest 9 [0, 1, 2, 25] (L' := [(0, .slice Al0 l0.length cl0), (1, .int .i64 a1), (2, .int .i64 a2), (25, .bool true)]) (by kernel_rfl) ?_
        refine QP.pick [0, 1, 2, 25] ?_
        exact QP.meet ⟨_, Option.some.inj h, rfl, rfl, rfl⟩
      · replace hc := of_decide_eq_false hc
        rw [if_neg hc] at h
        have hc4 := hc
        clear hc
        refine WL.rest 9 [0, 1, 2, 25] (L' := [(0, .slice Al0 l0.length cl0), (1, .int .i64 a1), (2, .int .i64 a2), (25, .bool (decide (a1 > (IntKind.i64.wrap ((l0.length : Int) - a2)))))]) (by kernel_rfl) ?_
        refine QP.pick [0, 1, 2, 25] ?_
        exact QP.meet ⟨_, Option.some.inj h, rfl, rfl, rfl⟩
  · rintro _ _ _ ⟨s1, rfl, rfl, rfl, rfl⟩
    clear h
    replace h := hk2
    refine WP.cond (b := s1) (by kernel_rfl) (fun hc => ?_) (fun hc => ?_)
    · replace hc := hc
      rw [if_pos hc] at h
      have hc5 := hc
      clear hc
      refine WP.seqP [6, 7] (L' := [(6, .int .i64 0), (7, .bool false)]) (by kernel_rfl) ?_
      refine WP.ret ?_
      refine QP.thenR ?_
      obtain rfl := Option.some.inj h
      exact QP.returned [6, 7] [.int .i64 0, .bool false] _ (by kernel_rfl) (by kernel_rfl) (by kernel_rfl) (fun W hI => ⟨_, _, _, rfl, ⟨rfl, rfl, rfl⟩, hI⟩)
    · replace hc := (Bool.eq_false_iff.1 hc)
      rw [if_neg hc] at h
      have hc5 := hc
      clear hc
      refine WP.skip ?_
      refine QP.next ?_
      refine WP.pick [0, 1, 2] ?_
      refine WP.seqP [0, 1, 2, 8] (L' := [(0, .slice Al0 l0.length cl0), (1, .int .i64 a1), (2, .int .i64 a2), (8, .int .i64 0)]) (by kernel_rfl) ?_
      refine WP.seq ?_
      refine WP.seqP [0, 1, 2, 8, 9] (L' := [(0, .slice Al0 l0.length cl0), (1, .int .i64 a1), (2, .int .i64 a2), (8, .int .i64 0), (9, .int .i64 0)]) (by kernel_rfl) ?_
      rw [Option.bind_eq_some_iff] at h
      obtain ⟨os6, h, hk7⟩ := h
      refine WP.cutQ (fun L' G' Γ' => ∃ s6 : Int, s6 = os6 ∧ L' = [(8, .int .i64 s6)] ∧ G = G' ∧ Γ = Γ') ?_ ?_
      · clear hk7
        refine WP.block ?_
        refine WP.pick [0, 1, 2, 8, 9] ?_
        refine WP.loopF (fun kn10 L' G' Γ' => ∃ (y8 : Int), ∃ (y9 : Int), grapevineref4_Get_l0 l0 a1 a2 kn10 y8 y9 = some os6 ∧ L' = [(0, .slice Al0 l0.length cl0), (1, .int .i64 a1), (2, .int .i64 a2), (8, .int .i64 y8), (9, .int .i64 y9)] ∧ G = G' ∧ Γ = Γ') ?_ k ⟨0, 0, h, rfl, rfl, rfl⟩
        clear h
        rintro kn11 _ _ _ ⟨y8, y9, h, rfl, rfl, rfl⟩
        cases kn11 with
        | zero => exact absurd h (by simp [grapevineref4_Get_l0])
        | succ kn11 =>
          simp only [grapevineref4_Get_l0] at h
          refine WP.seq ?_
          refine WP.seqP [0, 1, 2, 8, 9, 28] (L' := [(0, .slice Al0 l0.length cl0), (1, .int .i64 a1), (2, .int .i64 a2), (8, .int .i64 y8), (9, .int .i64 y9), (28, .bool (decide (y9 < a2)))]) (by kernel_rfl) ?_
          refine WP.cond (b := decide (y9 < a2)) (by kernel_rfl) (fun hc => ?_) (fun hc => ?_)
          · replace hc := of_decide_eq_true hc
            rw [if_pos hc] at h
            have hc12 := hc
            clear hc
            refine WP.skip ?_
            refine QP.next ?_
            refine WP.pick [0, 1, 2, 8, 9] ?_
            refine WP.seq ?_
            refine WP.block ?_
            refine WP.region ?_
            refine WL.pure 0 6 [0, 1, 2, 8, 9, 32, 33, 36] (L' := [(0, .slice Al0 l0.length cl0), (1, .int .i64 a1), (2, .int .i64 a2), (8, .int .i64 y8), (9, .int .i64 y9), (32, .int .i64 (IntKind.i64.wrap (y8 * 256))), (33, .slice Al0 l0.length cl0), (36, .int .i64 (IntKind.i64.wrap (a1 + y9)))]) (by kernel_rfl) (by decide) ?_
            by_cases hb13 : 0 ≤ (IntKind.i64.wrap (a1 + y9)) ∧ (IntKind.i64.wrap (a1 + y9)) < (l0.length : Int)
            case neg => rw [if_neg hb13] at h; cases h
            rw [if_pos hb13] at h
            refine WL.tell (op := .indexAddr 22 (.tmp 33) (.tmp 36)) (ty := 0) (d := some 37) (g := none) (by kernel_rfl) (by kernel_rfl) (by kernel_rfl) (Tells.indexAddr (A := Al0) (n := l0.length) (c := cl0) (k := .i64) (j := (IntKind.i64.wrap (a1 + y9))) (by kernel_rfl) (by kernel_rfl) (Hl0.isSome hb13.1 hb13.2) hb13.1 hb13.2 sl22) ?_
            refine WL.tellE (op := .load 5 (.tmp 37)) (ty := 5) (d := some 38) (g := none) (by kernel_rfl) (by kernel_rfl) (by kernel_rfl) (Hl0.load (agg := false) hb13.1 hb13.2 0 ag5 (fun _ => rfl) (by kernel_rfl)) ?_
            rintro _ rfl
            refine WL.rest 8 [0, 1, 2, 8, 9] (L' := [(0, .slice Al0 l0.length cl0), (1, .int .i64 a1), (2, .int .i64 a2), (8, .int .i64 (IntKind.i64.wrap ((IntKind.i64.wrap (y8 * 256)) + (IntKind.i64.wrap (l0.getD (IntKind.i64.wrap (a1 + y9)).toNat 0))))), (9, .int .i64 y9)]) (by kernel_rfl) ?_
            refine QP.blockN ?_
            refine QP.next ?_
            refine WP.pick [0, 1, 2, 8, 9] ?_
            refine WP.regionP [0, 1, 2, 8, 9] (L' := [(0, .slice Al0 l0.length cl0), (1, .int .i64 a1), (2, .int .i64 a2), (8, .int .i64 (IntKind.i64.wrap ((IntKind.i64.wrap (y8 * 256)) + (IntKind.i64.wrap (l0.getD (IntKind.i64.wrap (a1 + y9)).toNat 0))))), (9, .int .i64 (IntKind.i64.wrap (y9 + 1)))]) (by kernel_rfl) ?_
            refine QP.pick [0, 1, 2, 8, 9] ?_
            exact QP.meet ⟨kn11, Nat.lt_succ_self _, (IntKind.i64.wrap ((IntKind.i64.wrap (y8 * 256)) + (IntKind.i64.wrap (l0.getD (IntKind.i64.wrap (a1 + y9)).toNat 0)))), (IntKind.i64.wrap (y9 + 1)), h, rfl, rfl, rfl⟩
          · replace hc := of_decide_eq_false hc
            rw [if_neg hc] at h
            have hc12 := hc
            clear hc
            refine WP.exit ?_
            refine QP.thenE ?_
            refine QP.thenE ?_
            refine QP.blockE ?_
            refine QP.pick [8] ?_
            exact QP.meet ⟨_, Option.some.inj h, rfl, rfl, rfl⟩
      · rintro _ _ _ ⟨s6, rfl, rfl, rfl, rfl⟩
        clear h
        replace h := hk7
        refine QP.next ?_
        refine WP.pick [8] ?_
        refine WP.seqP [6, 7] (L' := [(6, .int .i64 s6), (7, .bool true)]) (by kernel_rfl) ?_
        refine WP.ret ?_
        obtain rfl := Option.some.inj h
        exact QP.returned [6, 7] [.int .i64 s6, .bool true] _ (by kernel_rfl) (by kernel_rfl) (by kernel_rfl) (fun W hI => ⟨_, _, _, rfl, ⟨rfl, rfl, rfl⟩, hI⟩)

/-! ### grapevine/grapevineref6.Next: function 21 -/
def grapevineref6_Next (k : Nat) (l0 : List Int) (a1 : Int) : Option (Int × (List Int) × Int × Bool) := ((if a1 ≥ 0 then some (decide (a1 ≤ (l0.length : Int))) else some false).bind fun s1 => (if s1 = true then ((grapevineref4_Get k l0 (IntKind.i64.wrap (a1 + 2)) 2).bind fun t5 => ((if (!t5.2) = true then some true else (if 0 ≤ a1 ∧ a1 < (l0.length : Int) then (if ¬ (l0.getD a1.toNat 0) = 71 then some true else (if 0 ≤ (IntKind.i64.wrap (a1 + 1)) ∧ (IntKind.i64.wrap (a1 + 1)) < (l0.length : Int) then (if (l0.getD (IntKind.i64.wrap (a1 + 1)).toNat 0) = 0 then some true else some (decide ((IntKind.i64.wrap (t5.1 + 12)) > (IntKind.i64.wrap ((l0.length : Int) - a1))))) else none)) else none)).bind fun s9 => (if s9 = true then some (0, ([] : List Int), 0, false) else ((some (IntKind.i64.wrap ((IntKind.i64.wrap (a1 + 4)) + t5.1))).bind fun v17 => (if 0 ≤ a1 ∧ a1 ≤ v17 ∧ v17 ≤ (l0.length : Int) then (if 0 ≤ v17 ∧ v17 ≤ (IntKind.i64.wrap (v17 + 8)) ∧ (IntKind.i64.wrap (v17 + 8)) ≤ (l0.length : Int) then ((grapevineref6_seal k ((l0.take v17.toNat).drop a1.toNat)).bind fun t23 => (if (!((strOfNums t23).toList == (strOfNums ((l0.take (IntKind.i64.wrap (v17 + 8)).toNat).drop v17.toNat)).toList)) = true then some (0, ([] : List Int), 0, false) else (if 0 ≤ (IntKind.i64.wrap (a1 + 1)) ∧ (IntKind.i64.wrap (a1 + 1)) < (l0.length : Int) then (if 0 ≤ (IntKind.i64.wrap (a1 + 4)) ∧ (IntKind.i64.wrap (a1 + 4)) ≤ v17 ∧ v17 ≤ (l0.length : Int) then (if ([] : List Int).length + ((l0.take v17.toNat).drop (IntKind.i64.wrap (a1 + 4)).toNat).length ≤ 1073741824 then some (IntKind.i64.wrap (l0.getD (IntKind.i64.wrap (a1 + 1)).toNat 0), (([] : List Int) ++ ((l0.take v17.toNat).drop (IntKind.i64.wrap (a1 + 4)).toNat)), IntKind.i64.wrap (v17 + 8), true) else none) else none) else none))) else none) else none))))) else some (0, ([] : List Int), 0, false)))
set_option maxHeartbeats 4000000 in
theorem grapevineref6_Next_calls {B : World} {G : GMap} {Γ : List Chunk} {W : World} (k : Nat) (l0 : List Int) (a1 : Int) (Al0 : Option Addr) (cl0 : Nat) (Hl0 : Rd (kInt .u8) G Al0 cl0 l0) (r : Int × (List Int) × Int × Bool) (h : grapevineref6_Next k l0 a1 = some r) (hI : Inv B G (Γ) W) :
    Calls Tryd.prog 21 [.slice Al0 l0.length cl0, .int .i64 a1].toArray W (Ret B (fun v G' Γ' => ∃ (AR1 : Option Addr), ∃ (cR1 : Nat), ∃ (CR1 : Chunk), v = .tuple #[.int .i64 r.1, .slice AR1 r.2.1.length cR1, .int .i64 r.2.2.1, .bool r.2.2.2] ∧ Ow (kInt .u8) G' AR1 cR1 r.2.1 CR1 ∧ G = G' ∧ CR1 :: Γ = Γ')) := by
  refine calls_WP (Γ := Γ) (G := G) (B := B) Tryd.func21 rfl (by kernel_rfl) ?_ hI
  clear hI
  unfold grapevineref6_Next at h
  refine WP.seqP [0, 1] (L' := [(0, .slice Al0 l0.length cl0), (1, .int .i64 a1)]) (by kernel_rfl) ?_
  refine WP.seqP [0, 1, 8, 9] (L' := [(0, .slice Al0 l0.length cl0), (1, .int .i64 a1), (8, .int .i64 0), (9, .bool false)]) (by kernel_rfl) ?_
  refine WP.seq ?_
  rw [Option.bind_eq_some_iff] at h
  obtain ⟨os1, h, hk2⟩ := h
  refine WP.cut (fun L' G' Γ' => ∃ s1 : Bool, s1 = os1 ∧ L' = [(0, .slice Al0 l0.length cl0), (1, .int .i64 a1), (8, .int .i64 0), (9, .bool false), (18, .bool s1)] ∧ G = G' ∧ Γ = Γ') ?_ ?_
  · clear hk2
    refine WP.region ?_
    refine WL.pure 0 3 [0, 1, 8, 9, 13] (L' := [(0, .slice Al0 l0.length cl0), (1, .int .i64 a1), (8, .int .i64 0), (9, .bool false), (13, .bool (decide (a1 ≥ 0)))]) (by kernel_rfl) (by decide) ?_
    refine WL.split 13 (b := decide (a1 ≥ 0)) (by kernel_rfl) (fun hc => ?_) (fun hc => ?_)
    · replace hc := of_decide_eq_true hc
      rw [if_pos hc] at h
      have hc3 := hc
      clear hc
      refine WL.rest 3 [0, 1, 8, 9, 18] (L' := [(0, .slice Al0 l0.length cl0), (1, .int .i64 a1), (8, .int .i64 0), (9, .bool false), (18, .bool (decide (a1 ≤ (l0.length : Int))))]) (by kernel_rfl) ?_
      refine QP.pick [0, 1, 8, 9, 18] ?_
      exact QP.meet ⟨_, Option.some.inj h, rfl, rfl, rfl⟩
    · replace hc := of_decide_eq_false hc
      rw [if_neg hc] at h
      have hc3 := hc
      clear hc
      refine WL.rest 3 [0, 1, 8, 9, 18] (L' := [(0, .slice Al0 l0.length cl0), (1, .int .i64 a1), (8, .int .i64 0), (9, .bool false), (18, .bool false)]) (by kernel_rfl) ?_
      refine QP.pick [0, 1, 8, 9, 18] ?_
      exact QP.meet ⟨_, Option.some.inj h, rfl, rfl, rfl⟩
  · rintro _ _ _ ⟨s1, rfl, rfl, rfl, rfl⟩
    clear h
    replace h := hk2
    refine WP.cond (b := s1) (by kernel_rfl) (fun hc => ?_) (fun hc => ?_)
    · replace hc := hc
      rw [if_pos hc] at h
      have hc4 := hc
      clear hc
      refine WP.region ?_
      refine WL.pure 0 3 [0, 1, 8, 9, 20, 22] (L' := [(0, .slice Al0 l0.length cl0), (1, .int .i64 a1), (8, .int .i64 0), (9, .bool false), (20, .slice Al0 l0.length cl0), (22, .int .i64 (IntKind.i64.wrap (a1 + 2)))]) (by kernel_rfl) (by decide) ?_
      rw [Option.bind_eq_some_iff] at h
      obtain ⟨t5, ht6, h⟩ := h
      refine WL.op (op := .call { callee := (.value (.func 49)), args := #[(.tmp 20), (.tmp 22), (.const (.int .i64 2))], argTypes := #[22, 3, 3] }) (ty := 85) (d := some 23) (g := none) (by kernel_rfl) (by kernel_rfl) (by kernel_rfl) (Does.call (f := 49) (args := [.slice Al0 l0.length cl0, .int .i64 (IntKind.i64.wrap (a1 + 2)), .int .i64 2]) (by kernel_rfl) (fun W hI => (grapevineref4_Get_calls k l0 (IntKind.i64.wrap (a1 + 2)) 2 Al0 cl0 Hl0 t5 ht6 hI))) ?_
      rintro _ _ _ ⟨rfl, rfl, rfl⟩
      refine WL.rest 4 [0, 1, 8, 9] (L' := [(0, .slice Al0 l0.length cl0), (1, .int .i64 a1), (8, .int .i64 t5.1), (9, .bool t5.2)]) (by kernel_rfl) ?_
      refine QP.next ?_
      refine WP.pick [0, 1, 8, 9] ?_
      refine WP.seq ?_
      rw [Option.bind_eq_some_iff] at h
      obtain ⟨os9, h, hk10⟩ := h
      refine WP.cut (fun L' G' Γ' => ∃ s9 : Bool, s9 = os9 ∧ L' = [(0, .slice Al0 l0.length cl0), (1, .int .i64 a1), (8, .int .i64 t5.1), (51, .bool s9)] ∧ G = G' ∧ Γ = Γ') ?_ ?_
      · clear hk10
        refine WP.region ?_
        refine WL.pure 0 3 [0, 1, 8, 28] (L' := [(0, .slice Al0 l0.length cl0), (1, .int .i64 a1), (8, .int .i64 t5.1), (28, .bool (!t5.2))]) (by kernel_rfl) (by decide) ?_
        refine WL.split 28 (b := (!t5.2)) (by kernel_rfl) (fun hc => ?_) (fun hc => ?_)
        · replace hc := hc
          rw [if_pos hc] at h
          have hc11 := hc
          clear hc
          refine WL.rest 3 [0, 1, 8, 51] (L' := [(0, .slice Al0 l0.length cl0), (1, .int .i64 a1), (8, .int .i64 t5.1), (51, .bool true)]) (by kernel_rfl) ?_
          refine QP.pick [0, 1, 8, 51] ?_
          exact QP.meet ⟨_, Option.some.inj h, rfl, rfl, rfl⟩
        · replace hc := (Bool.eq_false_iff.1 hc)
          rw [if_neg hc] at h
          have hc11 := hc
          clear hc
          refine WL.pure 3 5 [0, 1, 8, 28, 29, 30] (L' := [(0, .slice Al0 l0.length cl0), (1, .int .i64 a1), (8, .int .i64 t5.1), (28, .bool false), (29, .slice Al0 l0.length cl0), (30, .int .i64 a1)]) (by kernel_rfl) (by decide) ?_
          by_cases hb12 : 0 ≤ a1 ∧ a1 < (l0.length : Int)
          case neg => rw [if_neg hb12] at h; cases h
          rw [if_pos hb12] at h
          refine WL.tell (op := .indexAddr 22 (.tmp 29) (.tmp 30)) (ty := 0) (d := some 31) (g := some (2, false)) (by kernel_rfl) (by kernel_rfl) (by kernel_rfl) (Tells.indexAddr (A := Al0) (n := l0.length) (c := cl0) (k := .i64) (j := a1) (by kernel_rfl) (by kernel_rfl) (Hl0.isSome hb12.1 hb12.2) hb12.1 hb12.2 sl22) ?_
          refine WL.tellE (op := .load 5 (.tmp 31)) (ty := 5) (d := some 32) (g := some (2, false)) (by kernel_rfl) (by kernel_rfl) (by kernel_rfl) (Hl0.load (agg := false) hb12.1 hb12.2 0 ag5 (fun _ => rfl) (by kernel_rfl)) ?_
          rintro _ rfl
          refine WL.pure 7 10 [0, 1, 8, 35] (L' := [(0, .slice Al0 l0.length cl0), (1, .int .i64 a1), (8, .int .i64 t5.1), (35, .bool ((l0.getD a1.toNat 0) != 71))]) (by kernel_rfl) (by decide) ?_
          refine WL.split 35 (b := ((l0.getD a1.toNat 0) != 71)) (by kernel_rfl) (fun hc => ?_) (fun hc => ?_)
          · replace hc := (bne_iff_ne.1 hc)
            rw [if_pos hc] at h
            have hc13 := hc
            clear hc
            refine WL.rest 10 [0, 1, 8, 51] (L' := [(0, .slice Al0 l0.length cl0), (1, .int .i64 a1), (8, .int .i64 t5.1), (51, .bool true)]) (by kernel_rfl) ?_
            refine QP.pick [0, 1, 8, 51] ?_
            exact QP.meet ⟨_, Option.some.inj h, rfl, rfl, rfl⟩
          · replace hc := (not_not_intro (bne_eq_false_iff_eq.1 hc))
            rw [if_neg hc] at h
            have hc13 := hc
            clear hc
            refine WL.pure 10 13 [0, 1, 8, 35, 36, 38] (L' := [(0, .slice Al0 l0.length cl0), (1, .int .i64 a1), (8, .int .i64 t5.1), (35, .bool false), (36, .slice Al0 l0.length cl0), (38, .int .i64 (IntKind.i64.wrap (a1 + 1)))]) (by kernel_rfl) (by decide) ?_
            by_cases hb14 : 0 ≤ (IntKind.i64.wrap (a1 + 1)) ∧ (IntKind.i64.wrap (a1 + 1)) < (l0.length : Int)
            case neg => rw [if_neg hb14] at h; cases h
            rw [if_pos hb14] at h
            refine WL.tell (op := .indexAddr 22 (.tmp 36) (.tmp 38)) (ty := 0) (d := some 39) (g := some (9, false)) (by kernel_rfl) (by kernel_rfl) (by kernel_rfl) (Tells.indexAddr (A := Al0) (n := l0.length) (c := cl0) (k := .i64) (j := (IntKind.i64.wrap (a1 + 1))) (by kernel_rfl) (by kernel_rfl) (Hl0.isSome hb14.1 hb14.2) hb14.1 hb14.2 sl22) ?_
            refine WL.tellE (op := .load 5 (.tmp 39)) (ty := 5) (d := some 40) (g := some (9, false)) (by kernel_rfl) (by kernel_rfl) (by kernel_rfl) (Hl0.load (agg := false) hb14.1 hb14.2 0 ag5 (fun _ => rfl) (by kernel_rfl)) ?_
            rintro _ rfl
            refine WL.pure 15 18 [0, 1, 8, 43] (L' := [(0, .slice Al0 l0.length cl0), (1, .int .i64 a1), (8, .int .i64 t5.1), (43, .bool ((l0.getD (IntKind.i64.wrap (a1 + 1)).toNat 0) == 0))]) (by kernel_rfl) (by decide) ?_
            refine WL.split 43 (b := ((l0.getD (IntKind.i64.wrap (a1 + 1)).toNat 0) == 0)) (by kernel_rfl) (fun hc => ?_) (fun hc => ?_)
            · replace hc := eq_of_beq hc
              rw [if_pos hc] at h
              have hc15 := hc
              clear hc
              refine WL.rest 18 [0, 1, 8, 51] (L' := [(0, .slice Al0 l0.length cl0), (1, .int .i64 a1), (8, .int .i64 t5.1), (51, .bool true)]) (by kernel_rfl) ?_
              refine QP.pick [0, 1, 8, 51] ?_
              exact QP.meet ⟨_, Option.some.inj h, rfl, rfl, rfl⟩
            · replace hc := ne_of_beq_false hc
              rw [if_neg hc] at h
              have hc15 := hc
              clear hc
              refine WL.rest 18 [0, 1, 8, 51] (L' := [(0, .slice Al0 l0.length cl0), (1, .int .i64 a1), (8, .int .i64 t5.1), (51, .bool (decide ((IntKind.i64.wrap (t5.1 + 12)) > (IntKind.i64.wrap ((l0.length : Int) - a1)))))]) (by kernel_rfl) ?_
              refine QP.pick [0, 1, 8, 51] ?_
              exact QP.meet ⟨_, Option.some.inj h, rfl, rfl, rfl⟩
      · rintro _ _ _ ⟨s9, rfl, rfl, rfl, rfl⟩
        clear h
        replace h := hk10
        refine WP.cond (b := s9) (by kernel_rfl) (fun hc => ?_) (fun hc => ?_)
        · replace hc := hc
          rw [if_pos hc] at h
          have hc16 := hc
          clear hc
          refine WP.seqP [4, 5, 6, 7] (L' := [(4, .int .i64 0), (5, .slice none 0 0), (6, .int .i64 0), (7, .bool false)]) (by kernel_rfl) ?_
          refine WP.ret ?_
          refine QP.thenR ?_
          obtain rfl := Option.some.inj h
          refine QP.addNil ?_
          exact QP.returned [4, 5, 6, 7] [.int .i64 0, .slice none ([] : List Int).length 0, .int .i64 0, .bool false] _ (by kernel_rfl) (by kernel_rfl) (by kernel_rfl) (fun W hI => ⟨_, _, _, rfl, ⟨none, 0, [], rfl, (Ow.nil (kInt .u8) _), rfl, rfl⟩, hI⟩)
        · replace hc := (Bool.eq_false_iff.1 hc)
          rw [if_neg hc] at h
          have hc16 := hc
          clear hc
          refine WP.skip ?_
          refine QP.next ?_
          refine WP.pick [0, 1, 8] ?_
          refine WP.seqP [0, 1, 10] (L' := [(0, .slice Al0 l0.length cl0), (1, .int .i64 a1), (10, .int .i64 (IntKind.i64.wrap ((IntKind.i64.wrap (a1 + 4)) + t5.1)))]) (by kernel_rfl) ?_
          obtain ⟨v17, hv18, h⟩ := Option.bind_eq_some_iff.1 h
          replace hv18 := Option.some.inj hv18
          refine WP.reput 10 (v := .int .i64 (IntKind.i64.wrap ((IntKind.i64.wrap (a1 + 4)) + t5.1))) (v' := .int .i64 v17) (by kernel_rfl) (by subst hv18; rfl) ?_
          refine WP.pick [0, 1, 10] ?_
          refine WP.seq ?_
          refine WP.seq ?_
          refine WP.any (N := 13) (S := [⟨some 56, [0], []⟩, ⟨some 57, [1], []⟩, ⟨some 58, [10], []⟩, ⟨some 59, [56, 57, 58], [0, 1, 2]⟩, ⟨some 60, [59], [3]⟩, ⟨some 61, [60], [4]⟩, ⟨some 62, [0], []⟩, ⟨some 63, [10], []⟩, ⟨some 64, [10], []⟩, ⟨some 65, [64], [8]⟩, ⟨some 66, [62, 63, 65], [6, 7, 9]⟩, ⟨some 67, [66], [10]⟩, ⟨some 68, [61, 67], [5, 11]⟩]) (kw := 13) (G0 := G) (Γ0 := Γ) mo (by kernel_rfl) (fun hS => ?_)
          refine WA.pure [0, 1, 2, 6, 7, 8, 9] [0, 1, 10, 56, 57, 58, 62, 63, 65] (m := 6) (b' := 967) (L' := [(0, .slice Al0 l0.length cl0), (1, .int .i64 a1), (10, .int .i64 v17), (56, .slice Al0 l0.length cl0), (57, .int .i64 a1), (58, .int .i64 v17), (62, .slice Al0 l0.length cl0), (63, .int .i64 v17), (65, .int .i64 (IntKind.i64.wrap (v17 + 8)))]) (by kernel_rfl) (NoPanic.then (NoPanic.then (NoPanic.body))) Under.refl hS (by kernel_rfl) ?_
          by_cases hb19 : 0 ≤ a1 ∧ a1 ≤ v17 ∧ v17 ≤ (l0.length : Int)
          case neg => rw [if_neg hb19] at h; cases h
          rw [if_pos hb19] at h
          refine WA.tellDS [] (i := 3) (m := 5) (b' := 975) (by kernel_rfl) (NoPanic.then (NoPanic.then (NoPanic.body))) Under.refl hS (by kernel_rfl) (op := .slice 22 (.tmp 56) (some (.tmp 57)) (some (.tmp 58)) none) (ty := 22) (d := some 59) (g := none) (by kernel_rfl) (by kernel_rfl) (by kernel_rfl) (Hl0.slice (l := a1) (h := v17) (by kernel_rfl) ⟨.i64, by kernel_rfl⟩ ⟨.i64, by kernel_rfl⟩ hb19.1 hb19.2.1 hb19.2.2 sl22) ?_
          rintro AP20 cP20 HP20
          by_cases hb21 : 0 ≤ v17 ∧ v17 ≤ (IntKind.i64.wrap (v17 + 8)) ∧ (IntKind.i64.wrap (v17 + 8)) ≤ (l0.length : Int)
          case neg => rw [if_neg hb21] at h; cases h
          rw [if_pos hb21] at h
          refine WA.tellDS [] (i := 10) (m := 4) (b' := 1999) (by kernel_rfl) (NoPanic.then (NoPanic.then (NoPanic.body))) Under.refl hS (by kernel_rfl) (op := .slice 22 (.tmp 62) (some (.tmp 63)) (some (.tmp 65)) none) (ty := 22) (d := some 66) (g := none) (by kernel_rfl) (by kernel_rfl) (by kernel_rfl) (Hl0.slice (l := v17) (h := (IntKind.i64.wrap (v17 + 8))) (by kernel_rfl) ⟨.i64, by kernel_rfl⟩ ⟨.i64, by kernel_rfl⟩ hb21.1 hb21.2.1 hb21.2.2 sl22) ?_
          rintro AP22 cP22 HP22
          refine WA.tellD [] (i := 11) (m := 3) (b' := 4047) (by kernel_rfl) (NoPanic.then (NoPanic.then (NoPanic.body))) Under.refl hS (by kernel_rfl) (op := .convert 22 9 (.tmp 66)) (ty := 9) (d := some 67) (g := none) (by kernel_rfl) (by kernel_rfl) (by kernel_rfl) (HP22.str (by kernel_rfl) by22 st9) ?_
          rw [Option.bind_eq_some_iff] at h
          obtain ⟨t23, ht24, h⟩ := h
          refine WA.op (i := 4) (m := 2) (b' := 4063) (by kernel_rfl) hS (by kernel_rfl) (op := .call { callee := (.value (.func 50)), args := #[(.tmp 59)], argTypes := #[22] }) (ty := 22) (d := some 60) (g := none) (by kernel_rfl) (by kernel_rfl) (by kernel_rfl) (Does.call (f := 50) (args := [.slice AP20 ((l0.take v17.toNat).drop a1.toNat).length cP20]) (by kernel_rfl) (fun W hI => (grapevineref6_seal_calls k ((l0.take v17.toNat).drop a1.toNat) AP20 cP20 HP20 t23 ht24 hI))) ?_
          rintro _ _ _ ⟨AR25, cR25, CR25, rfl, HR25, rfl, rfl⟩
          refine ⟨_, _, Under.cons (Under.refl), Under.refl, ?_⟩
          refine WA.tellD [] (i := 5) (m := 1) (b' := 4095) (by kernel_rfl) (NoPanic.then (NoPanic.then (NoPanic.body))) Under.refl hS (by kernel_rfl) (op := .convert 22 9 (.tmp 60)) (ty := 9) (d := some 61) (g := none) (by kernel_rfl) (by kernel_rfl) (by kernel_rfl) (HR25.str (i := 0) rfl (by kernel_rfl) by22 st9) ?_
          refine WA.pure [12] [0, 1, 10, 68] (m := 0) (b' := 8191) (L' := [(0, .slice Al0 l0.length cl0), (1, .int .i64 a1), (10, .int .i64 v17), (68, .bool (!((strOfNums t23).toList == (strOfNums ((l0.take (IntKind.i64.wrap (v17 + 8)).toNat).drop v17.toNat)).toList)))]) (by kernel_rfl) (NoPanic.then (NoPanic.then (NoPanic.body))) Under.refl hS (by kernel_rfl) ?_
          refine WA.done hS (by kernel_rfl) ?_
          refine QP.pick [0, 1, 10, 68] ?_
          refine QP.next ?_
          refine WP.dropAt 0 ?_
          refine WP.cond (b := (!((strOfNums t23).toList == (strOfNums ((l0.take (IntKind.i64.wrap (v17 + 8)).toNat).drop v17.toNat)).toList))) (by kernel_rfl) (fun hc => ?_) (fun hc => ?_)
          · replace hc := hc
            rw [if_pos hc] at h
            have hc27 := hc
            clear hc
            refine WP.seqP [4, 5, 6, 7] (L' := [(4, .int .i64 0), (5, .slice none 0 0), (6, .int .i64 0), (7, .bool false)]) (by kernel_rfl) ?_
            refine WP.ret ?_
            refine QP.thenR ?_
            obtain rfl := Option.some.inj h
            refine QP.addNil ?_
            exact QP.returned [4, 5, 6, 7] [.int .i64 0, .slice none ([] : List Int).length 0, .int .i64 0, .bool false] _ (by kernel_rfl) (by kernel_rfl) (by kernel_rfl) (fun W hI => ⟨_, _, _, rfl, ⟨none, 0, [], rfl, (Ow.nil (kInt .u8) _), rfl, rfl⟩, hI⟩)
          · replace hc := (Bool.eq_false_iff.1 hc)
            rw [if_neg hc] at h
            have hc27 := hc
            clear hc
            refine WP.skip ?_
            refine QP.next ?_
            refine WP.pick [0, 1, 10] ?_
            refine WP.seq ?_
            refine WP.any (N := 18) (S := [⟨some 69, [0], []⟩, ⟨some 70, [1], []⟩, ⟨some 71, [70], [1]⟩, ⟨some 72, [69, 71], [0, 2]⟩, ⟨some 73, [72], [3]⟩, ⟨some 74, [73], [4]⟩, ⟨some 75, [0], []⟩, ⟨some 76, [1], []⟩, ⟨some 77, [76], [7]⟩, ⟨some 78, [10], []⟩, ⟨some 79, [75, 77, 78], [6, 8, 9]⟩, ⟨some 80, [79], [10]⟩, ⟨some 81, [10], []⟩, ⟨some 82, [81], [12]⟩, ⟨some 4, [74], [0, 1, 2, 3, 4, 5, 11]⟩, ⟨some 5, [80], [0, 1, 2, 3, 4, 5, 6, 7, 8, 9, 10, 11, 14]⟩, ⟨some 6, [82], [0, 1, 2, 3, 4, 5, 6, 7, 8, 9, 10, 11, 12, 13, 14, 15]⟩, ⟨some 7, [], [0, 1, 2, 3, 4, 5, 6, 7, 8, 9, 10, 11, 12, 13, 14, 15, 16]⟩]) (kw := 18) (G0 := G) (Γ0 := []) mo (by kernel_rfl) (fun hS => ?_)
            refine WA.pure [0, 1, 2, 6, 7, 8, 9, 12, 13] [69, 71, 75, 77, 78, 82] (m := 9) (b' := 13255) (L' := [(69, .slice Al0 l0.length cl0), (71, .int .i64 (IntKind.i64.wrap (a1 + 1))), (75, .slice Al0 l0.length cl0), (77, .int .i64 (IntKind.i64.wrap (a1 + 4))), (78, .int .i64 v17), (82, .int .i64 (IntKind.i64.wrap (v17 + 8)))]) (by kernel_rfl) (NoPanic.then (NoPanic.body)) Under.empty hS (by kernel_rfl) ?_
            by_cases hb28 : 0 ≤ (IntKind.i64.wrap (a1 + 1)) ∧ (IntKind.i64.wrap (a1 + 1)) < (l0.length : Int)
            case neg => rw [if_neg hb28] at h; cases h
            rw [if_pos hb28] at h
            refine WA.tellD [] (i := 3) (m := 8) (b' := 13263) (by kernel_rfl) (NoPanic.then (NoPanic.body)) Under.empty hS (by kernel_rfl) (op := .indexAddr 22 (.tmp 69) (.tmp 71)) (ty := 0) (d := some 72) (g := none) (by kernel_rfl) (by kernel_rfl) (by kernel_rfl) (Tells.indexAddr (A := Al0) (n := l0.length) (c := cl0) (k := .i64) (j := (IntKind.i64.wrap (a1 + 1))) (by kernel_rfl) (by kernel_rfl) (Hl0.isSome hb28.1 hb28.2) hb28.1 hb28.2 sl22) ?_
            refine WA.tellDE [] (i := 4) (m := 7) (b' := 13279) (by kernel_rfl) (NoPanic.then (NoPanic.body)) Under.empty hS (by kernel_rfl) (op := .load 5 (.tmp 72)) (ty := 5) (d := some 73) (g := none) (by kernel_rfl) (by kernel_rfl) (by kernel_rfl) (Hl0.load (agg := false) hb28.1 hb28.2 0 ag5 (fun _ => rfl) (by kernel_rfl)) ?_
            rintro _ rfl
            refine WA.pure [5] [74, 75, 77, 78, 82] (m := 6) (b' := 13311) (L' := [(74, .int .i64 (IntKind.i64.wrap (l0.getD (IntKind.i64.wrap (a1 + 1)).toNat 0))), (75, .slice Al0 l0.length cl0), (77, .int .i64 (IntKind.i64.wrap (a1 + 4))), (78, .int .i64 v17), (82, .int .i64 (IntKind.i64.wrap (v17 + 8)))]) (by kernel_rfl) (NoPanic.then (NoPanic.body)) Under.empty hS (by kernel_rfl) ?_
            by_cases hb29 : 0 ≤ (IntKind.i64.wrap (a1 + 4)) ∧ (IntKind.i64.wrap (a1 + 4)) ≤ v17 ∧ v17 ≤ (l0.length : Int)
            case neg => rw [if_neg hb29] at h; cases h
            rw [if_pos hb29] at h
            refine WA.tellDS [] (i := 10) (m := 5) (b' := 14335) (by kernel_rfl) (NoPanic.then (NoPanic.body)) Under.empty hS (by kernel_rfl) (op := .slice 22 (.tmp 75) (some (.tmp 77)) (some (.tmp 78)) none) (ty := 22) (d := some 79) (g := none) (by kernel_rfl) (by kernel_rfl) (by kernel_rfl) (Hl0.slice (l := (IntKind.i64.wrap (a1 + 4))) (h := v17) (by kernel_rfl) ⟨.i64, by kernel_rfl⟩ ⟨.i64, by kernel_rfl⟩ hb29.1 hb29.2.1 hb29.2.2 sl22) ?_
            rintro AP30 cP30 HP30
            refine WA.addNil ?_
            by_cases hb31 : ([] : List Int).length + ((l0.take v17.toNat).drop (IntKind.i64.wrap (a1 + 4)).toNat).length ≤ 1073741824
            case neg => rw [if_neg hb31] at h; cases h
            rw [if_pos hb31] at h
            refine WA.op (i := 11) (m := 4) (b' := 16383) (by kernel_rfl) hS (by kernel_rfl) (op := .call { callee := (.builtin .append), args := #[(.const (.slice none 0 0)), (.tmp 79)], argTypes := #[22, 22] }) (ty := 22) (d := some 80) (g := none) (by kernel_rfl) (by kernel_rfl) (by kernel_rfl) (Ow.append (ys := ((l0.take v17.toNat).drop (IntKind.i64.wrap (a1 + 4)).toNat)) (v := .slice AP30 ((l0.take v17.toNat).drop (IntKind.i64.wrap (a1 + 4)).toNat).length cP30) (Ow.nil (kInt .u8) G) (i := 0) rfl (by kernel_rfl) (by kernel_rfl) HP30.src sl22 ze5 nt22 (by decide) hb31) ?_
            rintro _ _ _ ⟨rfl, AN32, cN32, CN32, rfl, HN32, rfl⟩
            refine ⟨_, _, Under.refl, Under.empty, ?_⟩
            refine WA.pure [14, 15, 16, 17] [4, 5, 6, 7] (m := 0) (b' := 262143) (L' := [(4, .int .i64 (IntKind.i64.wrap (l0.getD (IntKind.i64.wrap (a1 + 1)).toNat 0))), (5, .slice AN32 (([] : List Int) ++ ((l0.take v17.toNat).drop (IntKind.i64.wrap (a1 + 4)).toNat)).length cN32), (6, .int .i64 (IntKind.i64.wrap (v17 + 8))), (7, .bool true)]) (by kernel_rfl) (NoPanic.then (NoPanic.body)) Under.empty hS (by kernel_rfl) ?_
            refine WA.done hS (by kernel_rfl) ?_
            refine QP.pick [4, 5, 6, 7] ?_
            refine QP.next ?_
            refine WP.ret ?_
            obtain rfl := Option.some.inj h
            exact QP.returned [4, 5, 6, 7] [.int .i64 (IntKind.i64.wrap (l0.getD (IntKind.i64.wrap (a1 + 1)).toNat 0)), .slice AN32 (([] : List Int) ++ ((l0.take v17.toNat).drop (IntKind.i64.wrap (a1 + 4)).toNat)).length cN32, .int .i64 (IntKind.i64.wrap (v17 + 8)), .bool true] _ (by kernel_rfl) (by kernel_rfl) (by kernel_rfl) (fun W hI => ⟨_, _, _, rfl, ⟨AN32, cN32, CN32, rfl, HN32, rfl, rfl⟩, hI⟩)
    · replace hc := (Bool.eq_false_iff.1 hc)
      rw [if_neg hc] at h
      have hc4 := hc
      clear hc
      refine WP.skip ?_
      refine QP.next ?_
      refine WP.pick [0, 1, 8, 9] ?_
      refine WP.seq ?_
      refine WP.seqP [0, 1, 8, 51] (L' := [(0, .slice Al0 l0.length cl0), (1, .int .i64 a1), (8, .int .i64 0), (51, .bool true)]) (by kernel_rfl) ?_
      refine WP.yes (by kernel_rfl) ?_
      refine WP.seqP [4, 5, 6, 7] (L' := [(4, .int .i64 0), (5, .slice none 0 0), (6, .int .i64 0), (7, .bool false)]) (by kernel_rfl) ?_
      refine WP.ret ?_
      refine QP.thenR ?_
      obtain rfl := Option.some.inj h
      refine QP.addNil ?_
      exact QP.returned [4, 5, 6, 7] [.int .i64 0, .slice none ([] : List Int).length 0, .int .i64 0, .bool false] _ (by kernel_rfl) (by kernel_rfl) (by kernel_rfl) (fun W hI => ⟨_, _, _, rfl, ⟨none, 0, [], rfl, (Ow.nil (kInt .u8) _), rfl, rfl⟩, hI⟩)

/-! ### grapevine/grapevinelaw0.SameEntries: function 14 -/
def grapevinelaw0_SameEntries_l0 (l0 : List T41) (l1 : List T41) : Nat → Int → Option (Sum Bool Unit)
  | 0, _ => none
  | k + 1, y4 => (if y4 < (l0.length : Int) then ((if 0 ≤ y4 ∧ y4 < (l0.length : Int) then (if 0 ≤ y4 ∧ y4 < (l1.length : Int) then (if ¬ ((l0.getD y4.toNat z41).f0) = ((l1.getD y4.toNat z41).f0) then some true else (if 0 ≤ y4 ∧ y4 < (l0.length : Int) then (if 0 ≤ y4 ∧ y4 < (l1.length : Int) then (if ¬ (⟨(l0.getD y4.toNat z41).f3, (l0.getD y4.toNat z41).f4, (l0.getD y4.toNat z41).f5, (l0.getD y4.toNat z41).f6, (l0.getD y4.toNat z41).f7⟩ : T39) = (⟨(l1.getD y4.toNat z41).f3, (l1.getD y4.toNat z41).f4, (l1.getD y4.toNat z41).f5, (l1.getD y4.toNat z41).f6, (l1.getD y4.toNat z41).f7⟩ : T39) then some true else (if 0 ≤ y4 ∧ y4 < (l0.length : Int) then (if 0 ≤ y4 ∧ y4 < (l1.length : Int) then ((grapevinelaw0_SameInts k ((l0.getD y4.toNat z41).f1) ((l1.getD y4.toNat z41).f1)).bind fun t30 => (if (!t30) = true then some true else (if 0 ≤ y4 ∧ y4 < (l0.length : Int) then (if 0 ≤ y4 ∧ y4 < (l1.length : Int) then ((grapevinelaw0_SameInts k ((l0.getD y4.toNat z41).f2) ((l1.getD y4.toNat z41).f2)).bind fun t41 => some (!t41)) else none) else none))) else none) else none)) else none) else none)) else none) else none).bind fun s8 => (if s8 = true then some (Sum.inl false) else grapevinelaw0_SameEntries_l0 l0 l1 k (IntKind.i64.wrap (y4 + 1)))) else some (Sum.inr ()))
def grapevinelaw0_SameEntries (k : Nat) (l0 : List T41) (l1 : List T41) : Option Bool := (if ¬ (l0.length : Int) = (l1.length : Int) then some false else ((grapevinelaw0_SameEntries_l0 l0 l1 k 0).bind fun os2 => match os2 with | Sum.inl r => some r | Sum.inr s2 => some true))
set_option maxHeartbeats 4000000 in
theorem grapevinelaw0_SameEntries_calls {B : World} {G : GMap} {Γ : List Chunk} {W : World} (k : Nat) (l0 : List T41) (l1 : List T41) (Al0 : Option Addr) (cl0 : Nat) (Hl0 : Rd k41 G Al0 cl0 l0) (Al1 : Option Addr) (cl1 : Nat) (Hl1 : Rd k41 G Al1 cl1 l1) (r : Bool) (h : grapevinelaw0_SameEntries k l0 l1 = some r) (hI : Inv B G (Γ) W) :
    Calls Tryd.prog 14 [.slice Al0 l0.length cl0, .slice Al1 l1.length cl1].toArray W (Ret B (fun v G' Γ' => v = .bool r ∧ G = G' ∧ Γ = Γ')) := by
  refine calls_WP (Γ := Γ) (G := G) (B := B) Tryd.func14 rfl (by kernel_rfl) ?_ hI
  clear hI
  unfold grapevinelaw0_SameEntries at h
  refine WP.seqP [0, 1] (L' := [(0, .slice Al0 l0.length cl0), (1, .slice Al1 l1.length cl1)]) (by kernel_rfl) ?_
  refine WP.seq ?_
  refine WP.seqP [0, 1, 10] (L' := [(0, .slice Al0 l0.length cl0), (1, .slice Al1 l1.length cl1), (10, .bool ((l0.length : Int) != (l1.length : Int)))]) (by kernel_rfl) ?_
  refine WP.cond (b := ((l0.length : Int) != (l1.length : Int))) (by kernel_rfl) (fun hc => ?_) (fun hc => ?_)
  · replace hc := (bne_iff_ne.1 hc)
    rw [if_pos hc] at h
    have hc1 := hc
    clear hc
    refine WP.seqP [4] (L' := [(4, .bool false)]) (by kernel_rfl) ?_
    refine WP.ret ?_
    refine QP.thenR ?_
    obtain rfl := Option.some.inj h
    exact QP.returned [4] [.bool false] _ (by kernel_rfl) (by kernel_rfl) (by kernel_rfl) (fun W hI => ⟨_, _, _, rfl, ⟨rfl, rfl, rfl⟩, hI⟩)
  · replace hc := (not_not_intro (bne_eq_false_iff_eq.1 hc))
    rw [if_neg hc] at h
    have hc1 := hc
    clear hc
    refine WP.skip ?_
    refine QP.next ?_
    refine WP.pick [0, 1] ?_
    refine WP.seq ?_
    refine WP.seqP [0, 1, 5] (L' := [(0, .slice Al0 l0.length cl0), (1, .slice Al1 l1.length cl1), (5, .int .i64 0)]) (by kernel_rfl) ?_
    rw [Option.bind_eq_some_iff] at h
    obtain ⟨os2, h, hk3⟩ := h
    refine WP.cutQ (fun L' G' Γ' => ∃ s2 : Unit, Sum.inr s2 = os2 ∧ L' = [] ∧ G = G' ∧ Γ = Γ') ?_ ?_
    · skip
      refine WP.block ?_
      refine WP.pick [0, 1, 5] ?_
      refine WP.loopF (fun kn5 L' G' Γ' => ∃ (y4 : Int), grapevinelaw0_SameEntries_l0 l0 l1 kn5 y4 = some os2 ∧ L' = [(0, .slice Al0 l0.length cl0), (1, .slice Al1 l1.length cl1), (5, .int .i64 y4)] ∧ G = G' ∧ Γ = Γ') ?_ k ⟨0, h, rfl, rfl, rfl⟩
      clear h
      rintro kn6 _ _ _ ⟨y4, h, rfl, rfl, rfl⟩
      cases kn6 with
      | zero => exact absurd h (by simp [grapevinelaw0_SameEntries_l0])
      | succ kn6 =>
        simp only [grapevinelaw0_SameEntries_l0] at h
        refine WP.seq ?_
        refine WP.seqP [0, 1, 5, 14] (L' := [(0, .slice Al0 l0.length cl0), (1, .slice Al1 l1.length cl1), (5, .int .i64 y4), (14, .bool (decide (y4 < (l0.length : Int))))]) (by kernel_rfl) ?_
        refine WP.cond (b := decide (y4 < (l0.length : Int))) (by kernel_rfl) (fun hc => ?_) (fun hc => ?_)
        · replace hc := of_decide_eq_true hc
          rw [if_pos hc] at h
          have hc7 := hc
          clear hc
          refine WP.skip ?_
          refine QP.next ?_
          refine WP.pick [0, 1, 5] ?_
          refine WP.seq ?_
          refine WP.block ?_
          rw [Option.bind_eq_some_iff] at h
          obtain ⟨os8, h, hk9⟩ := h
          refine WP.cut (fun L' G' Γ' => ∃ s8 : Bool, s8 = os8 ∧ L' = [(0, .slice Al0 l0.length cl0), (1, .slice Al1 l1.length cl1), (5, .int .i64 y4), (68, .bool s8)] ∧ G = G' ∧ Γ = Γ') ?_ ?_
          · clear hk9
            skip
            refine WP.any (N := 52) (S := [⟨some 17, [0], []⟩, ⟨some 18, [5], []⟩, ⟨some 19, [17, 18], [0, 1]⟩, ⟨some 20, [19], [2]⟩, ⟨some 21, [20], [3]⟩, ⟨some 22, [1], []⟩, ⟨some 23, [5], []⟩, ⟨some 24, [22, 23], [5, 6]⟩, ⟨some 25, [24], [7]⟩, ⟨some 26, [25], [8]⟩, ⟨some 27, [21, 26], [4, 9]⟩, ⟨some 28, [27], [10]⟩, ⟨some 29, [0, 28], [11]⟩, ⟨some 30, [5, 28], [11]⟩, ⟨some 31, [28, 29, 30], [11, 12, 13]⟩, ⟨some 32, [28, 31], [11, 14]⟩, ⟨some 33, [28, 32], [11, 15]⟩, ⟨some 34, [1, 28], [11]⟩, ⟨some 35, [5, 28], [11]⟩, ⟨some 36, [28, 34, 35], [11, 17, 18]⟩, ⟨some 37, [28, 36], [11, 19]⟩, ⟨some 38, [28, 37], [11, 20]⟩, ⟨some 39, [28, 33, 38], [11, 16, 21]⟩, ⟨some 40, [28, 39], [11, 22]⟩, ⟨some 41, [40], [11, 23]⟩, ⟨some 42, [0, 41], [24]⟩, ⟨some 43, [5, 41], [24]⟩, ⟨some 44, [41, 42, 43], [24, 25, 26]⟩, ⟨some 45, [41, 44], [24, 27]⟩, ⟨some 46, [41, 45], [24, 28]⟩, ⟨some 47, [1, 41], [24]⟩, ⟨some 48, [5, 41], [24]⟩, ⟨some 49, [41, 47, 48], [24, 30, 31]⟩, ⟨some 50, [41, 49], [24, 32]⟩, ⟨some 51, [41, 50], [24, 33]⟩, ⟨some 52, [41, 46, 51], [24, 29, 34]⟩, ⟨some 53, [41, 52], [24, 35]⟩, ⟨some 54, [41, 53], [24, 36]⟩, ⟨some 55, [54], [35, 37]⟩, ⟨some 56, [0, 55], [38]⟩, ⟨some 57, [5, 55], [38]⟩, ⟨some 58, [55, 56, 57], [38, 39, 40]⟩, ⟨some 59, [55, 58], [38, 41]⟩, ⟨some 60, [55, 59], [38, 42]⟩, ⟨some 61, [1, 55], [38]⟩, ⟨some 62, [5, 55], [38]⟩, ⟨some 63, [55, 61, 62], [38, 44, 45]⟩, ⟨some 64, [55, 63], [38, 46]⟩, ⟨some 65, [55, 64], [38, 47]⟩, ⟨some 66, [55, 60, 65], [38, 43, 48]⟩, ⟨some 67, [55, 66], [38, 49]⟩, ⟨some 68, [55, 67], [38, 50]⟩]) (kw := 52) (G0 := G) (Γ0 := Γ) mo (by kernel_rfl) (fun hS => ?_)
            refine WA.pure [0, 1, 5, 6] [0, 1, 5, 17, 18, 22, 23] (m := 48) (b' := 99) (L' := [(0, .slice Al0 l0.length cl0), (1, .slice Al1 l1.length cl1), (5, .int .i64 y4), (17, .slice Al0 l0.length cl0), (18, .int .i64 y4), (22, .slice Al1 l1.length cl1), (23, .int .i64 y4)]) (by kernel_rfl) (NoPanic.then (NoPanic.block (NoPanic.then (NoPanic.then (NoPanic.block (NoPanic.then (NoPanic.then (NoPanic.body)))))))) Under.refl hS (by kernel_rfl) ?_
            by_cases hb10 : 0 ≤ y4 ∧ y4 < (l0.length : Int)
            case neg => rw [if_neg hb10] at h; cases h
            rw [if_pos hb10] at h
            refine WA.tellD [] (i := 2) (m := 47) (b' := 103) (by kernel_rfl) (NoPanic.then (NoPanic.block (NoPanic.then (NoPanic.then (NoPanic.block (NoPanic.then (NoPanic.then (NoPanic.body)))))))) Under.refl hS (by kernel_rfl) (op := .indexAddr 25 (.tmp 17) (.tmp 18)) (ty := 0) (d := some 19) (g := none) (by kernel_rfl) (by kernel_rfl) (by kernel_rfl) (Tells.indexAddr (A := Al0) (n := l0.length) (c := cl0) (k := .i64) (j := y4) (by kernel_rfl) (by kernel_rfl) (Hl0.isSome hb10.1 hb10.2) hb10.1 hb10.2 sl25) ?_
            refine WA.tellD [] (i := 3) (m := 46) (b' := 111) (by kernel_rfl) (NoPanic.then (NoPanic.block (NoPanic.then (NoPanic.then (NoPanic.block (NoPanic.then (NoPanic.then (NoPanic.body)))))))) Under.refl hS (by kernel_rfl) (op := .fieldAddr 41 (.tmp 19) 0) (ty := 0) (d := some 20) (g := none) (by kernel_rfl) (by kernel_rfl) (by kernel_rfl) (Tells.fieldElem (m := y4.toNat * 8) (A := Al0) (by kernel_rfl) (Hl0.isSome hb10.1 hb10.2) fi41_0) ?_
            refine WA.tellDE [] (i := 4) (m := 45) (b' := 127) (by kernel_rfl) (NoPanic.then (NoPanic.block (NoPanic.then (NoPanic.then (NoPanic.block (NoPanic.then (NoPanic.then (NoPanic.body)))))))) Under.refl hS (by kernel_rfl) (op := .load 3 (.tmp 20)) (ty := 3) (d := some 21) (g := none) (by kernel_rfl) (by kernel_rfl) (by kernel_rfl) (Hl0.loadF (agg := false) (off := 0) hb10.1 hb10.2 z41 ag3 (fun _ => rfl) (by decide) (by kernel_rfl)) ?_
            rintro _ ⟨_, _, rfl, rfl, ⟨_, _, rfl, ⟨Ae11, ce11, rfl, He11⟩, ⟨_, _, rfl, ⟨Ae12, ce12, rfl, He12⟩, ⟨_, _, rfl, rfl, ⟨_, _, rfl, rfl, ⟨_, _, rfl, rfl, ⟨_, _, rfl, rfl, rfl⟩⟩⟩⟩⟩⟩⟩
            replace He11 : Rd (kInt .i64) G Ae11 ce11 ((l0.getD y4.toNat z41).f1) := He11
            replace He12 : Rd (kInt .i64) G Ae12 ce12 ((l0.getD y4.toNat z41).f2) := He12
            by_cases hb13 : 0 ≤ y4 ∧ y4 < (l1.length : Int)
            case neg => rw [if_neg hb13] at h; cases h
            rw [if_pos hb13] at h
            refine WA.tellD [] (i := 7) (m := 44) (b' := 255) (by kernel_rfl) (NoPanic.then (NoPanic.block (NoPanic.then (NoPanic.then (NoPanic.block (NoPanic.then (NoPanic.then (NoPanic.body)))))))) Under.refl hS (by kernel_rfl) (op := .indexAddr 25 (.tmp 22) (.tmp 23)) (ty := 0) (d := some 24) (g := none) (by kernel_rfl) (by kernel_rfl) (by kernel_rfl) (Tells.indexAddr (A := Al1) (n := l1.length) (c := cl1) (k := .i64) (j := y4) (by kernel_rfl) (by kernel_rfl) (Hl1.isSome hb13.1 hb13.2) hb13.1 hb13.2 sl25) ?_
            refine WA.tellD [] (i := 8) (m := 43) (b' := 511) (by kernel_rfl) (NoPanic.then (NoPanic.block (NoPanic.then (NoPanic.then (NoPanic.block (NoPanic.then (NoPanic.then (NoPanic.body)))))))) Under.refl hS (by kernel_rfl) (op := .fieldAddr 41 (.tmp 24) 0) (ty := 0) (d := some 25) (g := none) (by kernel_rfl) (by kernel_rfl) (by kernel_rfl) (Tells.fieldElem (m := y4.toNat * 8) (A := Al1) (by kernel_rfl) (Hl1.isSome hb13.1 hb13.2) fi41_0) ?_
            refine WA.tellDE [] (i := 9) (m := 42) (b' := 1023) (by kernel_rfl) (NoPanic.then (NoPanic.block (NoPanic.then (NoPanic.then (NoPanic.block (NoPanic.then (NoPanic.then (NoPanic.body)))))))) Under.refl hS (by kernel_rfl) (op := .load 3 (.tmp 25)) (ty := 3) (d := some 26) (g := none) (by kernel_rfl) (by kernel_rfl) (by kernel_rfl) (Hl1.loadF (agg := false) (off := 0) hb13.1 hb13.2 z41 ag3 (fun _ => rfl) (by decide) (by kernel_rfl)) ?_
            rintro _ ⟨_, _, rfl, rfl, ⟨_, _, rfl, ⟨Ae14, ce14, rfl, He14⟩, ⟨_, _, rfl, ⟨Ae15, ce15, rfl, He15⟩, ⟨_, _, rfl, rfl, ⟨_, _, rfl, rfl, ⟨_, _, rfl, rfl, ⟨_, _, rfl, rfl, rfl⟩⟩⟩⟩⟩⟩⟩
            replace He14 : Rd (kInt .i64) G Ae14 ce14 ((l1.getD y4.toNat z41).f1) := He14
            replace He15 : Rd (kInt .i64) G Ae15 ce15 ((l1.getD y4.toNat z41).f2) := He15
            refine WA.pure [10, 11] [0, 1, 5, 28] (m := 40) (b' := 4095) (L' := [(0, .slice Al0 l0.length cl0), (1, .slice Al1 l1.length cl1), (5, .int .i64 y4), (28, .bool (((l0.getD y4.toNat z41).f0) != ((l1.getD y4.toNat z41).f0)))]) (by kernel_rfl) (NoPanic.then (NoPanic.block (NoPanic.then (NoPanic.then (NoPanic.block (NoPanic.then (NoPanic.then (NoPanic.body)))))))) Under.refl hS (by kernel_rfl) ?_
            refine WA.split 28 (b := (((l0.getD y4.toNat z41).f0) != ((l1.getD y4.toNat z41).f0))) (by kernel_rfl) (fun hc => ?_) (fun hc => ?_)
            · replace hc := (bne_iff_ne.1 hc)
              rw [if_pos hc] at h
              have hc16 := hc
              clear hc
              refine WA.pure [12, 13, 14, 15, 16, 17, 18, 19, 20, 21, 22, 23, 24, 25, 26, 27, 28, 29, 30, 31, 32, 33, 34, 35, 36, 37, 38, 39, 40, 41, 42, 43, 44, 45, 46, 47, 48, 49, 50, 51] [0, 1, 5, 68] (m := 0) (b' := 4503599627370495) (L' := [(0, .slice Al0 l0.length cl0), (1, .slice Al1 l1.length cl1), (5, .int .i64 y4), (68, .bool true)]) (by kernel_rfl) (NoPanic.then (NoPanic.block (NoPanic.then (NoPanic.then (NoPanic.block (NoPanic.then (NoPanic.then (NoPanic.body)))))))) Under.refl hS (by kernel_rfl) ?_
              refine WA.done hS (by kernel_rfl) ?_
              refine QP.pick [0, 1, 5, 68] ?_
              refine QP.pick [0, 1, 5, 68] ?_
              exact QP.meet ⟨_, Option.some.inj h, rfl, rfl, rfl⟩
            · replace hc := (not_not_intro (bne_eq_false_iff_eq.1 hc))
              rw [if_neg hc] at h
              have hc16 := hc
              clear hc
              refine WA.pure [12, 13, 17, 18] [0, 1, 5, 28, 29, 30, 34, 35] (m := 36) (b' := 409599) (L' := [(0, .slice Al0 l0.length cl0), (1, .slice Al1 l1.length cl1), (5, .int .i64 y4), (28, .bool false), (29, .slice Al0 l0.length cl0), (30, .int .i64 y4), (34, .slice Al1 l1.length cl1), (35, .int .i64 y4)]) (by kernel_rfl) (NoPanic.then (NoPanic.block (NoPanic.then (NoPanic.then (NoPanic.block (NoPanic.then (NoPanic.then (NoPanic.body)))))))) Under.refl hS (by kernel_rfl) ?_
              by_cases hb17 : 0 ≤ y4 ∧ y4 < (l0.length : Int)
              case neg => rw [if_neg hb17] at h; cases h
              rw [if_pos hb17] at h
              refine WA.tellD [] (i := 14) (m := 35) (b' := 425983) (by kernel_rfl) (NoPanic.then (NoPanic.block (NoPanic.then (NoPanic.then (NoPanic.block (NoPanic.then (NoPanic.then (NoPanic.body)))))))) Under.refl hS (by kernel_rfl) (op := .indexAddr 25 (.tmp 29) (.tmp 30)) (ty := 0) (d := some 31) (g := some (11, false)) (by kernel_rfl) (by kernel_rfl) (by kernel_rfl) (Tells.indexAddr (A := Al0) (n := l0.length) (c := cl0) (k := .i64) (j := y4) (by kernel_rfl) (by kernel_rfl) (Hl0.isSome hb17.1 hb17.2) hb17.1 hb17.2 sl25) ?_
              refine WA.tellD [] (i := 15) (m := 34) (b' := 458751) (by kernel_rfl) (NoPanic.then (NoPanic.block (NoPanic.then (NoPanic.then (NoPanic.block (NoPanic.then (NoPanic.then (NoPanic.body)))))))) Under.refl hS (by kernel_rfl) (op := .fieldAddr 41 (.tmp 31) 3) (ty := 0) (d := some 32) (g := some (11, false)) (by kernel_rfl) (by kernel_rfl) (by kernel_rfl) (Tells.fieldElem (m := y4.toNat * 8) (A := Al0) (by kernel_rfl) (Hl0.isSome hb17.1 hb17.2) fi41_3) ?_
              refine WA.tellDE [] (i := 16) (m := 33) (b' := 524287) (by kernel_rfl) (NoPanic.then (NoPanic.block (NoPanic.then (NoPanic.then (NoPanic.block (NoPanic.then (NoPanic.then (NoPanic.body)))))))) Under.refl hS (by kernel_rfl) (op := .load 39 (.tmp 32)) (ty := 39) (d := some 33) (g := some (11, false)) (by kernel_rfl) (by kernel_rfl) (by kernel_rfl) (Hl0.loadF (agg := true) (off := 3) hb17.1 hb17.2 z41 ag39 (fun h => by cases h) (by decide) (by kernel_rfl)) ?_
              rintro _ ⟨_, _, rfl, rfl, ⟨_, _, rfl, ⟨Ae18, ce18, rfl, He18⟩, ⟨_, _, rfl, ⟨Ae19, ce19, rfl, He19⟩, ⟨_, _, rfl, rfl, ⟨_, _, rfl, rfl, ⟨_, _, rfl, rfl, ⟨_, _, rfl, rfl, rfl⟩⟩⟩⟩⟩⟩⟩
              replace He18 : Rd (kInt .i64) G Ae18 ce18 ((l0.getD y4.toNat z41).f1) := He18
              replace He19 : Rd (kInt .i64) G Ae19 ce19 ((l0.getD y4.toNat z41).f2) := He19
              by_cases hb20 : 0 ≤ y4 ∧ y4 < (l1.length : Int)
              case neg => rw [if_neg hb20] at h; cases h
              rw [if_pos hb20] at h
              refine WA.tellD [] (i := 19) (m := 32) (b' := 1048575) (by kernel_rfl) (NoPanic.then (NoPanic.block (NoPanic.then (NoPanic.then (NoPanic.block (NoPanic.then (NoPanic.then (NoPanic.body)))))))) Under.refl hS (by kernel_rfl) (op := .indexAddr 25 (.tmp 34) (.tmp 35)) (ty := 0) (d := some 36) (g := some (11, false)) (by kernel_rfl) (by kernel_rfl) (by kernel_rfl) (Tells.indexAddr (A := Al1) (n := l1.length) (c := cl1) (k := .i64) (j := y4) (by kernel_rfl) (by kernel_rfl) (Hl1.isSome hb20.1 hb20.2) hb20.1 hb20.2 sl25) ?_
              refine WA.tellD [] (i := 20) (m := 31) (b' := 2097151) (by kernel_rfl) (NoPanic.then (NoPanic.block (NoPanic.then (NoPanic.then (NoPanic.block (NoPanic.then (NoPanic.then (NoPanic.body)))))))) Under.refl hS (by kernel_rfl) (op := .fieldAddr 41 (.tmp 36) 3) (ty := 0) (d := some 37) (g := some (11, false)) (by kernel_rfl) (by kernel_rfl) (by kernel_rfl) (Tells.fieldElem (m := y4.toNat * 8) (A := Al1) (by kernel_rfl) (Hl1.isSome hb20.1 hb20.2) fi41_3) ?_
              refine WA.tellDE [] (i := 21) (m := 30) (b' := 4194303) (by kernel_rfl) (NoPanic.then (NoPanic.block (NoPanic.then (NoPanic.then (NoPanic.block (NoPanic.then (NoPanic.then (NoPanic.body)))))))) Under.refl hS (by kernel_rfl) (op := .load 39 (.tmp 37)) (ty := 39) (d := some 38) (g := some (11, false)) (by kernel_rfl) (by kernel_rfl) (by kernel_rfl) (Hl1.loadF (agg := true) (off := 3) hb20.1 hb20.2 z41 ag39 (fun h => by cases h) (by decide) (by kernel_rfl)) ?_
              rintro _ ⟨_, _, rfl, rfl, ⟨_, _, rfl, ⟨Ae21, ce21, rfl, He21⟩, ⟨_, _, rfl, ⟨Ae22, ce22, rfl, He22⟩, ⟨_, _, rfl, rfl, ⟨_, _, rfl, rfl, ⟨_, _, rfl, rfl, ⟨_, _, rfl, rfl, rfl⟩⟩⟩⟩⟩⟩⟩
              replace He21 : Rd (kInt .i64) G Ae21 ce21 ((l1.getD y4.toNat z41).f1) := He21
              replace He22 : Rd (kInt .i64) G Ae22 ce22 ((l1.getD y4.toNat z41).f2) := He22
              refine WA.tellD [] (i := 22) (m := 29) (b' := 8388607) (by kernel_rfl) (NoPanic.then (NoPanic.block (NoPanic.then (NoPanic.then (NoPanic.block (NoPanic.then (NoPanic.then (NoPanic.body)))))))) Under.refl hS (by kernel_rfl) (op := .binOp .neq 39 (.tmp 33) (.tmp 38) 39) (ty := 4) (d := some 39) (g := some (11, false)) (by kernel_rfl) (by kernel_rfl) (by kernel_rfl) (Tells.neAgg (xs := #[.int .i64 ((l0.getD y4.toNat z41).f3), .int .i64 ((l0.getD y4.toNat z41).f4), .int .i64 ((l0.getD y4.toNat z41).f5), .int .i64 ((l0.getD y4.toNat z41).f6), .string ((l0.getD y4.toNat z41).f7)]) (ys := #[.int .i64 ((l1.getD y4.toNat z41).f3), .int .i64 ((l1.getD y4.toNat z41).f4), .int .i64 ((l1.getD y4.toNat z41).f5), .int .i64 ((l1.getD y4.toNat z41).f6), .string ((l1.getD y4.toNat z41).f7)]) (ls := [.int ((l0.getD y4.toNat z41).f3) ((l1.getD y4.toNat z41).f3), .int ((l0.getD y4.toNat z41).f4) ((l1.getD y4.toNat z41).f4), .int ((l0.getD y4.toNat z41).f5) ((l1.getD y4.toNat z41).f5), .int ((l0.getD y4.toNat z41).f6) ((l1.getD y4.toNat z41).f6), .str ((l0.getD y4.toNat z41).f7) ((l1.getD y4.toNat z41).f7)]) (by kernel_rfl) (by kernel_rfl) (by kernel_rfl) eg39) ?_
              refine WA.reput 39 (v := .bool (!([.int ((l0.getD y4.toNat z41).f3) ((l1.getD y4.toNat z41).f3), .int ((l0.getD y4.toNat z41).f4) ((l1.getD y4.toNat z41).f4), .int ((l0.getD y4.toNat z41).f5) ((l1.getD y4.toNat z41).f5), .int ((l0.getD y4.toNat z41).f6) ((l1.getD y4.toNat z41).f6), .str ((l0.getD y4.toNat z41).f7) ((l1.getD y4.toNat z41).f7)].all Lf.ok))) (v' := .bool (!decide ((⟨(l0.getD y4.toNat z41).f3, (l0.getD y4.toNat z41).f4, (l0.getD y4.toNat z41).f5, (l0.getD y4.toNat z41).f6, (l0.getD y4.toNat z41).f7⟩ : T39) = (⟨(l1.getD y4.toNat z41).f3, (l1.getD y4.toNat z41).f4, (l1.getD y4.toNat z41).f5, (l1.getD y4.toNat z41).f6, (l1.getD y4.toNat z41).f7⟩ : T39)))) (by kernel_rfl) (by exact (congrArg (fun z => Value.bool (!z)) (eqT39 (⟨(l0.getD y4.toNat z41).f3, (l0.getD y4.toNat z41).f4, (l0.getD y4.toNat z41).f5, (l0.getD y4.toNat z41).f6, (l0.getD y4.toNat z41).f7⟩ : T39) (⟨(l1.getD y4.toNat z41).f3, (l1.getD y4.toNat z41).f4, (l1.getD y4.toNat z41).f5, (l1.getD y4.toNat z41).f6, (l1.getD y4.toNat z41).f7⟩ : T39)))) ?_
              refine WA.pure [23, 24] [0, 1, 5, 41] (m := 27) (b' := 33554431) (L' := [(0, .slice Al0 l0.length cl0), (1, .slice Al1 l1.length cl1), (5, .int .i64 y4), (41, .bool (!decide ((⟨(l0.getD y4.toNat z41).f3, (l0.getD y4.toNat z41).f4, (l0.getD y4.toNat z41).f5, (l0.getD y4.toNat z41).f6, (l0.getD y4.toNat z41).f7⟩ : T39) = (⟨(l1.getD y4.toNat z41).f3, (l1.getD y4.toNat z41).f4, (l1.getD y4.toNat z41).f5, (l1.getD y4.toNat z41).f6, (l1.getD y4.toNat z41).f7⟩ : T39))))]) (by kernel_rfl) (NoPanic.then (NoPanic.block (NoPanic.then (NoPanic.then (NoPanic.block (NoPanic.then (NoPanic.then (NoPanic.body)))))))) Under.refl hS (by kernel_rfl) ?_
              refine WA.split 41 (b := (!decide ((⟨(l0.getD y4.toNat z41).f3, (l0.getD y4.toNat z41).f4, (l0.getD y4.toNat z41).f5, (l0.getD y4.toNat z41).f6, (l0.getD y4.toNat z41).f7⟩ : T39) = (⟨(l1.getD y4.toNat z41).f3, (l1.getD y4.toNat z41).f4, (l1.getD y4.toNat z41).f5, (l1.getD y4.toNat z41).f6, (l1.getD y4.toNat z41).f7⟩ : T39)))) (by kernel_rfl) (fun hc => ?_) (fun hc => ?_)
              · replace hc := (nd_true hc)
                rw [if_pos hc] at h
                have hc23 := hc
                clear hc
                refine WA.pure [25, 26, 27, 28, 29, 30, 31, 32, 33, 34, 35, 36, 37, 38, 39, 40, 41, 42, 43, 44, 45, 46, 47, 48, 49, 50, 51] [0, 1, 5, 68] (m := 0) (b' := 4503599627370495) (L' := [(0, .slice Al0 l0.length cl0), (1, .slice Al1 l1.length cl1), (5, .int .i64 y4), (68, .bool true)]) (by kernel_rfl) (NoPanic.then (NoPanic.block (NoPanic.then (NoPanic.then (NoPanic.block (NoPanic.then (NoPanic.then (NoPanic.body)))))))) Under.refl hS (by kernel_rfl) ?_
                refine WA.done hS (by kernel_rfl) ?_
                refine QP.pick [0, 1, 5, 68] ?_
                refine QP.pick [0, 1, 5, 68] ?_
                exact QP.meet ⟨_, Option.some.inj h, rfl, rfl, rfl⟩
              · replace hc := (nd_false hc)
                rw [if_neg hc] at h
                have hc23 := hc
                clear hc
                refine WA.pure [25, 26, 30, 31] [0, 1, 5, 41, 42, 43, 47, 48] (m := 23) (b' := 3355443199) (L' := [(0, .slice Al0 l0.length cl0), (1, .slice Al1 l1.length cl1), (5, .int .i64 y4), (41, .bool false), (42, .slice Al0 l0.length cl0), (43, .int .i64 y4), (47, .slice Al1 l1.length cl1), (48, .int .i64 y4)]) (by kernel_rfl) (NoPanic.then (NoPanic.block (NoPanic.then (NoPanic.then (NoPanic.block (NoPanic.then (NoPanic.then (NoPanic.body)))))))) Under.refl hS (by kernel_rfl) ?_
                by_cases hb24 : 0 ≤ y4 ∧ y4 < (l0.length : Int)
                case neg => rw [if_neg hb24] at h; cases h
                rw [if_pos hb24] at h
                refine WA.tellD [] (i := 27) (m := 22) (b' := 3489660927) (by kernel_rfl) (NoPanic.then (NoPanic.block (NoPanic.then (NoPanic.then (NoPanic.block (NoPanic.then (NoPanic.then (NoPanic.body)))))))) Under.refl hS (by kernel_rfl) (op := .indexAddr 25 (.tmp 42) (.tmp 43)) (ty := 0) (d := some 44) (g := some (24, false)) (by kernel_rfl) (by kernel_rfl) (by kernel_rfl) (Tells.indexAddr (A := Al0) (n := l0.length) (c := cl0) (k := .i64) (j := y4) (by kernel_rfl) (by kernel_rfl) (Hl0.isSome hb24.1 hb24.2) hb24.1 hb24.2 sl25) ?_
                refine WA.tellD [] (i := 28) (m := 21) (b' := 3758096383) (by kernel_rfl) (NoPanic.then (NoPanic.block (NoPanic.then (NoPanic.then (NoPanic.block (NoPanic.then (NoPanic.then (NoPanic.body)))))))) Under.refl hS (by kernel_rfl) (op := .fieldAddr 41 (.tmp 44) 1) (ty := 0) (d := some 45) (g := some (24, false)) (by kernel_rfl) (by kernel_rfl) (by kernel_rfl) (Tells.fieldElem (m := y4.toNat * 8) (A := Al0) (by kernel_rfl) (Hl0.isSome hb24.1 hb24.2) fi41_1) ?_
                refine WA.tellDE [] (i := 29) (m := 20) (b' := 4294967295) (by kernel_rfl) (NoPanic.then (NoPanic.block (NoPanic.then (NoPanic.then (NoPanic.block (NoPanic.then (NoPanic.then (NoPanic.body)))))))) Under.refl hS (by kernel_rfl) (op := .load 32 (.tmp 45)) (ty := 32) (d := some 46) (g := some (24, false)) (by kernel_rfl) (by kernel_rfl) (by kernel_rfl) (Hl0.loadF (agg := false) (off := 1) hb24.1 hb24.2 z41 ag32 (fun _ => rfl) (by decide) (by kernel_rfl)) ?_
                rintro _ ⟨_, _, rfl, rfl, ⟨_, _, rfl, ⟨Ae25, ce25, rfl, He25⟩, ⟨_, _, rfl, ⟨Ae26, ce26, rfl, He26⟩, ⟨_, _, rfl, rfl, ⟨_, _, rfl, rfl, ⟨_, _, rfl, rfl, ⟨_, _, rfl, rfl, rfl⟩⟩⟩⟩⟩⟩⟩
                replace He25 : Rd (kInt .i64) G Ae25 ce25 ((l0.getD y4.toNat z41).f1) := He25
                replace He26 : Rd (kInt .i64) G Ae26 ce26 ((l0.getD y4.toNat z41).f2) := He26
                by_cases hb27 : 0 ≤ y4 ∧ y4 < (l1.length : Int)
                case neg => rw [if_neg hb27] at h; cases h
                rw [if_pos hb27] at h
                refine WA.tellD [] (i := 32) (m := 19) (b' := 8589934591) (by kernel_rfl) (NoPanic.then (NoPanic.block (NoPanic.then (NoPanic.then (NoPanic.block (NoPanic.then (NoPanic.then (NoPanic.body)))))))) Under.refl hS (by kernel_rfl) (op := .indexAddr 25 (.tmp 47) (.tmp 48)) (ty := 0) (d := some 49) (g := some (24, false)) (by kernel_rfl) (by kernel_rfl) (by kernel_rfl) (Tells.indexAddr (A := Al1) (n := l1.length) (c := cl1) (k := .i64) (j := y4) (by kernel_rfl) (by kernel_rfl) (Hl1.isSome hb27.1 hb27.2) hb27.1 hb27.2 sl25) ?_
                refine WA.tellD [] (i := 33) (m := 18) (b' := 17179869183) (by kernel_rfl) (NoPanic.then (NoPanic.block (NoPanic.then (NoPanic.then (NoPanic.block (NoPanic.then (NoPanic.then (NoPanic.body)))))))) Under.refl hS (by kernel_rfl) (op := .fieldAddr 41 (.tmp 49) 1) (ty := 0) (d := some 50) (g := some (24, false)) (by kernel_rfl) (by kernel_rfl) (by kernel_rfl) (Tells.fieldElem (m := y4.toNat * 8) (A := Al1) (by kernel_rfl) (Hl1.isSome hb27.1 hb27.2) fi41_1) ?_
                refine WA.tellDE [] (i := 34) (m := 17) (b' := 34359738367) (by kernel_rfl) (NoPanic.then (NoPanic.block (NoPanic.then (NoPanic.then (NoPanic.block (NoPanic.then (NoPanic.then (NoPanic.body)))))))) Under.refl hS (by kernel_rfl) (op := .load 32 (.tmp 50)) (ty := 32) (d := some 51) (g := some (24, false)) (by kernel_rfl) (by kernel_rfl) (by kernel_rfl) (Hl1.loadF (agg := false) (off := 1) hb27.1 hb27.2 z41 ag32 (fun _ => rfl) (by decide) (by kernel_rfl)) ?_
                rintro _ ⟨_, _, rfl, rfl, ⟨_, _, rfl, ⟨Ae28, ce28, rfl, He28⟩, ⟨_, _, rfl, ⟨Ae29, ce29, rfl, He29⟩, ⟨_, _, rfl, rfl, ⟨_, _, rfl, rfl, ⟨_, _, rfl, rfl, ⟨_, _, rfl, rfl, rfl⟩⟩⟩⟩⟩⟩⟩
                replace He28 : Rd (kInt .i64) G Ae28 ce28 ((l1.getD y4.toNat z41).f1) := He28
                replace He29 : Rd (kInt .i64) G Ae29 ce29 ((l1.getD y4.toNat z41).f2) := He29
                rw [Option.bind_eq_some_iff] at h
                obtain ⟨t30, ht31, h⟩ := h
                refine WA.op (i := 35) (m := 16) (b' := 68719476735) (by kernel_rfl) hS (by kernel_rfl) (op := .call { callee := (.value (.func 41)), args := #[(.tmp 46), (.tmp 51)], argTypes := #[32, 32] }) (ty := 4) (d := some 52) (g := some (24, false)) (by kernel_rfl) (by kernel_rfl) (by kernel_rfl) (Does.call (f := 41) (args := [.slice Ae25 ((l0.getD y4.toNat z41).f1).length ce25, .slice Ae28 ((l1.getD y4.toNat z41).f1).length ce28]) (by kernel_rfl) (fun W hI => (grapevinelaw0_SameInts_calls kn6 ((l0.getD y4.toNat z41).f1) ((l1.getD y4.toNat z41).f1) Ae25 ce25 He25 Ae28 ce28 He28 t30 ht31 hI))) ?_
                rintro _ _ _ ⟨rfl, rfl, rfl⟩
                refine ⟨_, _, Under.refl, Under.refl, ?_⟩
                refine WA.pure [36, 37, 38] [0, 1, 5, 55] (m := 13) (b' := 549755813887) (L' := [(0, .slice Al0 l0.length cl0), (1, .slice Al1 l1.length cl1), (5, .int .i64 y4), (55, .bool (!t30))]) (by kernel_rfl) (NoPanic.then (NoPanic.block (NoPanic.then (NoPanic.then (NoPanic.block (NoPanic.then (NoPanic.then (NoPanic.body)))))))) Under.refl hS (by kernel_rfl) ?_
                refine WA.split 55 (b := (!t30)) (by kernel_rfl) (fun hc => ?_) (fun hc => ?_)
                · replace hc := hc
                  rw [if_pos hc] at h
                  have hc34 := hc
                  clear hc
                  refine WA.pure [39, 40, 41, 42, 43, 44, 45, 46, 47, 48, 49, 50, 51] [0, 1, 5, 68] (m := 0) (b' := 4503599627370495) (L' := [(0, .slice Al0 l0.length cl0), (1, .slice Al1 l1.length cl1), (5, .int .i64 y4), (68, .bool true)]) (by kernel_rfl) (NoPanic.then (NoPanic.block (NoPanic.then (NoPanic.then (NoPanic.block (NoPanic.then (NoPanic.then (NoPanic.body)))))))) Under.refl hS (by kernel_rfl) ?_
                  refine WA.done hS (by kernel_rfl) ?_
                  refine QP.pick [0, 1, 5, 68] ?_
                  refine QP.pick [0, 1, 5, 68] ?_
                  exact QP.meet ⟨_, Option.some.inj h, rfl, rfl, rfl⟩
                · replace hc := (Bool.eq_false_iff.1 hc)
                  rw [if_neg hc] at h
                  have hc34 := hc
                  clear hc
                  refine WA.pure [39, 40, 44, 45] [0, 1, 5, 55, 56, 57, 61, 62] (m := 9) (b' := 54975581388799) (L' := [(0, .slice Al0 l0.length cl0), (1, .slice Al1 l1.length cl1), (5, .int .i64 y4), (55, .bool false), (56, .slice Al0 l0.length cl0), (57, .int .i64 y4), (61, .slice Al1 l1.length cl1), (62, .int .i64 y4)]) (by kernel_rfl) (NoPanic.then (NoPanic.block (NoPanic.then (NoPanic.then (NoPanic.block (NoPanic.then (NoPanic.then (NoPanic.body)))))))) Under.refl hS (by kernel_rfl) ?_
                  by_cases hb35 : 0 ≤ y4 ∧ y4 < (l0.length : Int)
                  case neg => rw [if_neg hb35] at h; cases h
                  rw [if_pos hb35] at h
                  refine WA.tellD [] (i := 41) (m := 8) (b' := 57174604644351) (by kernel_rfl) (NoPanic.then (NoPanic.block (NoPanic.then (NoPanic.then (NoPanic.block (NoPanic.then (NoPanic.then (NoPanic.body)))))))) Under.refl hS (by kernel_rfl) (op := .indexAddr 25 (.tmp 56) (.tmp 57)) (ty := 0) (d := some 58) (g := some (38, false)) (by kernel_rfl) (by kernel_rfl) (by kernel_rfl) (Tells.indexAddr (A := Al0) (n := l0.length) (c := cl0) (k := .i64) (j := y4) (by kernel_rfl) (by kernel_rfl) (Hl0.isSome hb35.1 hb35.2) hb35.1 hb35.2 sl25) ?_
                  refine WA.tellD [] (i := 42) (m := 7) (b' := 61572651155455) (by kernel_rfl) (NoPanic.then (NoPanic.block (NoPanic.then (NoPanic.then (NoPanic.block (NoPanic.then (NoPanic.then (NoPanic.body)))))))) Under.refl hS (by kernel_rfl) (op := .fieldAddr 41 (.tmp 58) 2) (ty := 0) (d := some 59) (g := some (38, false)) (by kernel_rfl) (by kernel_rfl) (by kernel_rfl) (Tells.fieldElem (m := y4.toNat * 8) (A := Al0) (by kernel_rfl) (Hl0.isSome hb35.1 hb35.2) fi41_2) ?_
                  refine WA.tellDE [] (i := 43) (m := 6) (b' := 70368744177663) (by kernel_rfl) (NoPanic.then (NoPanic.block (NoPanic.then (NoPanic.then (NoPanic.block (NoPanic.then (NoPanic.then (NoPanic.body)))))))) Under.refl hS (by kernel_rfl) (op := .load 32 (.tmp 59)) (ty := 32) (d := some 60) (g := some (38, false)) (by kernel_rfl) (by kernel_rfl) (by kernel_rfl) (Hl0.loadF (agg := false) (off := 2) hb35.1 hb35.2 z41 ag32 (fun _ => rfl) (by decide) (by kernel_rfl)) ?_
                  rintro _ ⟨_, _, rfl, rfl, ⟨_, _, rfl, ⟨Ae36, ce36, rfl, He36⟩, ⟨_, _, rfl, ⟨Ae37, ce37, rfl, He37⟩, ⟨_, _, rfl, rfl, ⟨_, _, rfl, rfl, ⟨_, _, rfl, rfl, ⟨_, _, rfl, rfl, rfl⟩⟩⟩⟩⟩⟩⟩
                  replace He36 : Rd (kInt .i64) G Ae36 ce36 ((l0.getD y4.toNat z41).f1) := He36
                  replace He37 : Rd (kInt .i64) G Ae37 ce37 ((l0.getD y4.toNat z41).f2) := He37
                  by_cases hb38 : 0 ≤ y4 ∧ y4 < (l1.length : Int)
                  case neg => rw [if_neg hb38] at h; cases h
                  rw [if_pos hb38] at h
                  refine WA.tellD [] (i := 46) (m := 5) (b' := 140737488355327) (by kernel_rfl) (NoPanic.then (NoPanic.block (NoPanic.then (NoPanic.then (NoPanic.block (NoPanic.then (NoPanic.then (NoPanic.body)))))))) Under.refl hS (by kernel_rfl) (op := .indexAddr 25 (.tmp 61) (.tmp 62)) (ty := 0) (d := some 63) (g := some (38, false)) (by kernel_rfl) (by kernel_rfl) (by kernel_rfl) (Tells.indexAddr (A := Al1) (n := l1.length) (c := cl1) (k := .i64) (j := y4) (by kernel_rfl) (by kernel_rfl) (Hl1.isSome hb38.1 hb38.2) hb38.1 hb38.2 sl25) ?_
                  refine WA.tellD [] (i := 47) (m := 4) (b' := 281474976710655) (by kernel_rfl) (NoPanic.then (NoPanic.block (NoPanic.then (NoPanic.then (NoPanic.block (NoPanic.then (NoPanic.then (NoPanic.body)))))))) Under.refl hS (by kernel_rfl) (op := .fieldAddr 41 (.tmp 63) 2) (ty := 0) (d := some 64) (g := some (38, false)) (by kernel_rfl) (by kernel_rfl) (by kernel_rfl) (Tells.fieldElem (m := y4.toNat * 8) (A := Al1) (by kernel_rfl) (Hl1.isSome hb38.1 hb38.2) fi41_2) ?_
                  refine WA.tellDE [] (i := 48) (m := 3) (b' := 562949953421311) (by kernel_rfl) (NoPanic.then (NoPanic.block (NoPanic.then (NoPanic.then (NoPanic.block (NoPanic.then (NoPanic.then (NoPanic.body)))))))) Under.refl hS (by kernel_rfl) (op := .load 32 (.tmp 64)) (ty := 32) (d := some 65) (g := some (38, false)) (by kernel_rfl) (by kernel_rfl) (by kernel_rfl) (Hl1.loadF (agg := false) (off := 2) hb38.1 hb38.2 z41 ag32 (fun _ => rfl) (by decide) (by kernel_rfl)) ?_
                  rintro _ ⟨_, _, rfl, rfl, ⟨_, _, rfl, ⟨Ae39, ce39, rfl, He39⟩, ⟨_, _, rfl, ⟨Ae40, ce40, rfl, He40⟩, ⟨_, _, rfl, rfl, ⟨_, _, rfl, rfl, ⟨_, _, rfl, rfl, ⟨_, _, rfl, rfl, rfl⟩⟩⟩⟩⟩⟩⟩
                  replace He39 : Rd (kInt .i64) G Ae39 ce39 ((l1.getD y4.toNat z41).f1) := He39
                  replace He40 : Rd (kInt .i64) G Ae40 ce40 ((l1.getD y4.toNat z41).f2) := He40
                  rw [Option.bind_eq_some_iff] at h
                  obtain ⟨t41, ht42, h⟩ := h
                  refine WA.op (i := 49) (m := 2) (b' := 1125899906842623) (by kernel_rfl) hS (by kernel_rfl) (op := .call { callee := (.value (.func 41)), args := #[(.tmp 60), (.tmp 65)], argTypes := #[32, 32] }) (ty := 4) (d := some 66) (g := some (38, false)) (by kernel_rfl) (by kernel_rfl) (by kernel_rfl) (Does.call (f := 41) (args := [.slice Ae37 ((l0.getD y4.toNat z41).f2).length ce37, .slice Ae40 ((l1.getD y4.toNat z41).f2).length ce40]) (by kernel_rfl) (fun W hI => (grapevinelaw0_SameInts_calls kn6 ((l0.getD y4.toNat z41).f2) ((l1.getD y4.toNat z41).f2) Ae37 ce37 He37 Ae40 ce40 He40 t41 ht42 hI))) ?_
                  rintro _ _ _ ⟨rfl, rfl, rfl⟩
                  refine ⟨_, _, Under.refl, Under.refl, ?_⟩
                  refine WA.pure [50, 51] [0, 1, 5, 68] (m := 0) (b' := 4503599627370495) (L' := [(0, .slice Al0 l0.length cl0), (1, .slice Al1 l1.length cl1), (5, .int .i64 y4), (68, .bool (!t41))]) (by kernel_rfl) (NoPanic.then (NoPanic.block (NoPanic.then (NoPanic.then (NoPanic.block (NoPanic.then (NoPanic.then (NoPanic.body)))))))) Under.refl hS (by kernel_rfl) ?_
                  refine WA.done hS (by kernel_rfl) ?_
                  refine QP.pick [0, 1, 5, 68] ?_
                  refine QP.pick [0, 1, 5, 68] ?_
                  exact QP.meet ⟨_, Option.some.inj h, rfl, rfl, rfl⟩
          · rintro _ _ _ ⟨s8, rfl, rfl, rfl, rfl⟩
            clear h
            replace h := hk9
            refine WP.cond (b := s8) (by kernel_rfl) (fun hc => ?_) (fun hc => ?_)
            · replace hc := hc
              rw [if_pos hc] at h
              have hc45 := hc
              clear hc
              refine WP.seqP [4] (L' := [(4, .bool false)]) (by kernel_rfl) ?_
              refine WP.ret ?_
              refine QP.blockR ?_
              refine QP.thenR ?_
              refine QP.thenR ?_
              refine QP.blockR ?_
              refine QP.thenR ?_
              refine QP.thenR ?_
              obtain rfl := Option.some.inj h
              obtain rfl := Option.some.inj (show some _ = some _ from hk3)
              exact QP.returned [4] [.bool false] _ (by kernel_rfl) (by kernel_rfl) (by kernel_rfl) (fun W hI => ⟨_, _, _, rfl, ⟨rfl, rfl, rfl⟩, hI⟩)
            · replace hc := (Bool.eq_false_iff.1 hc)
              rw [if_neg hc] at h
              have hc45 := hc
              clear hc
              refine WP.skip ?_
              refine QP.blockN ?_
              refine QP.next ?_
              refine WP.pick [0, 1, 5] ?_
              refine WP.regionP [0, 1, 5] (L' := [(0, .slice Al0 l0.length cl0), (1, .slice Al1 l1.length cl1), (5, .int .i64 (IntKind.i64.wrap (y4 + 1)))]) (by kernel_rfl) ?_
              refine QP.pick [0, 1, 5] ?_
              exact QP.meet ⟨kn6, Nat.lt_succ_self _, (IntKind.i64.wrap (y4 + 1)), h, rfl, rfl, rfl⟩
        · replace hc := of_decide_eq_false hc
          rw [if_neg hc] at h
          have hc7 := hc
          clear hc
          refine WP.exit ?_
          refine QP.thenE ?_
          refine QP.thenE ?_
          refine QP.blockE ?_
          refine QP.pick [] ?_
          exact QP.meet ⟨_, Option.some.inj h, rfl, rfl, rfl⟩
    · rintro _ _ _ ⟨s2, rfl, rfl, rfl, rfl⟩
      clear h
      replace h := hk3
      refine QP.next ?_
      refine WP.pick [] ?_
      refine WP.seqP [4] (L' := [(4, .bool true)]) (by kernel_rfl) ?_
      refine WP.ret ?_
      obtain rfl := Option.some.inj h
      exact QP.returned [4] [.bool true] _ (by kernel_rfl) (by kernel_rfl) (by kernel_rfl) (fun W hI => ⟨_, _, _, rfl, ⟨rfl, rfl, rfl⟩, hI⟩)
end Go.Proofs.YtfocilpnbiciaaaDoor.Gf
