/- Walks of Go functions: what each tells, as a plain Lean function, and that the Go code comes to it. Written by gg.py of this repo. -/
import Derived.Test.YtfocilpnbiciaaaDoorT
import Derived.Test.YtfocilpnbiciaaaDoorF0
namespace Go.Proofs.YtfocilpnbiciaaaDoor.Gf
open Go Go.Gg
set_option maxRecDepth 100000
set_option linter.unusedVariables false
set_option linter.unusedSimpArgs false

/-! ### grapevine/grapevinelaw0.GreatRecords: function 53 -/
def grapevinelaw0_GreatRecords_l0 (l0 : List T39) (a1 : Int) : Nat → Int → Option (Sum Bool Unit)
  | 0, _ => none
  | k + 1, y3 => ((if y3 < (l0.length : Int) then some (decide ((l0.length : Int) ≤ a1)) else some false).bind fun s6 => (if s6 = true then (if 0 ≤ y3 ∧ y3 < (l0.length : Int) then (if (((l0.getD y3.toNat z39).f4).size : Int) > 300 then some (Sum.inl true) else grapevinelaw0_GreatRecords_l0 l0 a1 k (IntKind.i64.wrap (y3 + 1))) else none) else some (Sum.inr ())))
def grapevinelaw0_GreatRecords (k : Nat) (l0 : List T39) (a1 : Int) : Option Bool := ((grapevinelaw0_GreatRecords_l0 l0 a1 k 0).bind fun os1 => match os1 with | Sum.inl r => some r | Sum.inr s1 => some (decide ((l0.length : Int) > a1)))
set_option maxHeartbeats 4000000 in
theorem grapevinelaw0_GreatRecords_calls {B : World} {G : GMap} {Γ : List Chunk} {W : World} (k : Nat) (l0 : List T39) (a1 : Int) (Al0 : Option Addr) (cl0 : Nat) (Hl0 : Rd k39 G Al0 cl0 l0) (r : Bool) (h : grapevinelaw0_GreatRecords k l0 a1 = some r) (hI : Inv B G (Γ) W) :
    Calls Tryd.prog 53 [.slice Al0 l0.length cl0, .int .i64 a1].toArray W (Ret B (fun v G' Γ' => v = .bool r ∧ G = G' ∧ Γ = Γ')) := by
  refine calls_WP (Γ := Γ) (G := G) (B := B) Tryd.func53 rfl (by kernel_rfl) ?_ hI
  clear hI
  unfold grapevinelaw0_GreatRecords at h
  refine WP.seqP [0, 1] (L' := [(0, .slice Al0 l0.length cl0), (1, .int .i64 a1)]) (by kernel_rfl) ?_
  refine WP.seq ?_
  refine WP.seqP [0, 1, 5] (L' := [(0, .slice Al0 l0.length cl0), (1, .int .i64 a1), (5, .int .i64 0)]) (by kernel_rfl) ?_
  rw [Option.bind_eq_some_iff] at h
  obtain ⟨os1, h, hk2⟩ := h
  refine WP.cutQ (fun L' G' Γ' => ∃ s1 : Unit, Sum.inr s1 = os1 ∧ L' = [(0, .slice Al0 l0.length cl0), (1, .int .i64 a1)] ∧ G = G' ∧ Γ = Γ') ?_ ?_
  · skip
    refine WP.block ?_
    refine WP.pick [0, 1, 5] ?_
    refine WP.loopF (fun kn4 L' G' Γ' => ∃ (y3 : Int), grapevinelaw0_GreatRecords_l0 l0 a1 kn4 y3 = some os1 ∧ L' = [(0, .slice Al0 l0.length cl0), (1, .int .i64 a1), (5, .int .i64 y3)] ∧ G = G' ∧ Γ = Γ') ?_ k ⟨0, h, rfl, rfl, rfl⟩
    clear h
    rintro kn5 _ _ _ ⟨y3, h, rfl, rfl, rfl⟩
    cases kn5 with
    | zero => exact absurd h (by simp [grapevinelaw0_GreatRecords_l0])
    | succ kn5 =>
      simp only [grapevinelaw0_GreatRecords_l0] at h
      refine WP.seq ?_
      rw [Option.bind_eq_some_iff] at h
      obtain ⟨os6, h, hk7⟩ := h
      refine WP.cut (fun L' G' Γ' => ∃ s6 : Bool, s6 = os6 ∧ L' = [(0, .slice Al0 l0.length cl0), (1, .int .i64 a1), (5, .int .i64 y3), (15, .bool s6)] ∧ G = G' ∧ Γ = Γ') ?_ ?_
      · clear hk7
        refine WP.region ?_
        refine WL.pure 0 5 [0, 1, 5, 10] (L' := [(0, .slice Al0 l0.length cl0), (1, .int .i64 a1), (5, .int .i64 y3), (10, .bool (decide (y3 < (l0.length : Int))))]) (by kernel_rfl) (by decide) ?_
        refine WL.split 10 (b := decide (y3 < (l0.length : Int))) (by kernel_rfl) (fun hc => ?_) (fun hc => ?_)
        · replace hc := of_decide_eq_true hc
          rw [if_pos hc] at h
          have hc8 := hc
          clear hc
          refine WL.rest 5 [0, 1, 5, 15] (L' := [(0, .slice Al0 l0.length cl0), (1, .int .i64 a1), (5, .int .i64 y3), (15, .bool (decide ((l0.length : Int) ≤ a1)))]) (by kernel_rfl) ?_
          refine QP.pick [0, 1, 5, 15] ?_
          exact QP.meet ⟨_, Option.some.inj h, rfl, rfl, rfl⟩
        · replace hc := of_decide_eq_false hc
          rw [if_neg hc] at h
          have hc8 := hc
          clear hc
          refine WL.rest 5 [0, 1, 5, 15] (L' := [(0, .slice Al0 l0.length cl0), (1, .int .i64 a1), (5, .int .i64 y3), (15, .bool false)]) (by kernel_rfl) ?_
          refine QP.pick [0, 1, 5, 15] ?_
          exact QP.meet ⟨_, Option.some.inj h, rfl, rfl, rfl⟩
      · rintro _ _ _ ⟨s6, rfl, rfl, rfl, rfl⟩
        clear h
        replace h := hk7
        refine WP.cond (b := s6) (by kernel_rfl) (fun hc => ?_) (fun hc => ?_)
        · replace hc := hc
          rw [if_pos hc] at h
          have hc9 := hc
          clear hc
          refine WP.skip ?_
          refine QP.next ?_
          refine WP.pick [0, 1, 5] ?_
          refine WP.seq ?_
          refine WP.block ?_
          refine WP.seqR ?_
          refine WL.pure 0 2 [0, 1, 5, 18, 19] (L' := [(0, .slice Al0 l0.length cl0), (1, .int .i64 a1), (5, .int .i64 y3), (18, .slice Al0 l0.length cl0), (19, .int .i64 y3)]) (by kernel_rfl) (by decide) ?_
          by_cases hb10 : 0 ≤ y3 ∧ y3 < (l0.length : Int)
          case neg => rw [if_neg hb10] at h; cases h
          rw [if_pos hb10] at h
          refine WL.tell (op := .indexAddr 52 (.tmp 18) (.tmp 19)) (ty := 0) (d := some 20) (g := none) (by kernel_rfl) (by kernel_rfl) (by kernel_rfl) (Tells.indexAddr (A := Al0) (n := l0.length) (c := cl0) (k := .i64) (j := y3) (by kernel_rfl) (by kernel_rfl) (Hl0.isSome hb10.1 hb10.2) hb10.1 hb10.2 sl52) ?_
          refine WL.tell (op := .fieldAddr 39 (.tmp 20) 2) (ty := 0) (d := some 21) (g := none) (by kernel_rfl) (by kernel_rfl) (by kernel_rfl) (Tells.fieldElem (m := y3.toNat * 5) (A := Al0) (by kernel_rfl) (Hl0.isSome hb10.1 hb10.2) fi39_2) ?_
          refine WL.tellE (op := .load 9 (.tmp 21)) (ty := 9) (d := some 22) (g := none) (by kernel_rfl) (by kernel_rfl) (by kernel_rfl) (Hl0.loadF (agg := false) (off := 4) hb10.1 hb10.2 z39 ag9 (fun _ => rfl) (by decide) (by kernel_rfl)) ?_
          rintro _ rfl
          refine WL.restQ 5 [0, 1, 5, 24] (L' := [(0, .slice Al0 l0.length cl0), (1, .int .i64 a1), (5, .int .i64 y3), (24, .bool (decide ((((l0.getD y3.toNat z39).f4).size : Int) > 300)))]) (by kernel_rfl) ?_
          refine WP.cond (b := decide ((((l0.getD y3.toNat z39).f4).size : Int) > 300)) (by kernel_rfl) (fun hc => ?_) (fun hc => ?_)
          · replace hc := of_decide_eq_true hc
            rw [if_pos hc] at h
            have hc11 := hc
            clear hc
            refine WP.seqP [4] (L' := [(4, .bool true)]) (by kernel_rfl) ?_
            refine WP.ret ?_
            refine QP.blockR ?_
            refine QP.thenR ?_
            refine QP.thenR ?_
            refine QP.blockR ?_
            refine QP.thenR ?_
            refine QP.thenR ?_
            obtain rfl := Option.some.inj h
            obtain rfl := Option.some.inj (show some _ = some _ from hk2)
            exact QP.returned [4] [.bool true] _ (by kernel_rfl) (by kernel_rfl) (by kernel_rfl) (fun W hI => ⟨_, _, _, rfl, ⟨rfl, rfl, rfl⟩, hI⟩)
          · replace hc := of_decide_eq_false hc
            rw [if_neg hc] at h
            have hc11 := hc
            clear hc
            refine WP.skip ?_
            refine QP.blockN ?_
            refine QP.next ?_
            refine WP.pick [0, 1, 5] ?_
            refine WP.regionP [0, 1, 5] (L' := [(0, .slice Al0 l0.length cl0), (1, .int .i64 a1), (5, .int .i64 (IntKind.i64.wrap (y3 + 1)))]) (by kernel_rfl) ?_
            refine QP.pick [0, 1, 5] ?_
            exact QP.meet ⟨kn5, Nat.lt_succ_self _, (IntKind.i64.wrap (y3 + 1)), h, rfl, rfl, rfl⟩
        · replace hc := (Bool.eq_false_iff.1 hc)
          rw [if_neg hc] at h
          have hc9 := hc
          clear hc
          refine WP.exit ?_
          refine QP.thenE ?_
          refine QP.thenE ?_
          refine QP.blockE ?_
          refine QP.pick [0, 1] ?_
          exact QP.meet ⟨_, Option.some.inj h, rfl, rfl, rfl⟩
  · rintro _ _ _ ⟨s1, rfl, rfl, rfl, rfl⟩
    clear h
    replace h := hk2
    refine QP.next ?_
    refine WP.pick [0, 1] ?_
    refine WP.seqP [4] (L' := [(4, .bool (decide ((l0.length : Int) > a1)))]) (by kernel_rfl) ?_
    refine WP.ret ?_
    obtain rfl := Option.some.inj h
    exact QP.returned [4] [.bool (decide ((l0.length : Int) > a1))] _ (by kernel_rfl) (by kernel_rfl) (by kernel_rfl) (fun W hI => ⟨_, _, _, rfl, ⟨rfl, rfl, rfl⟩, hI⟩)

/-! ### grapevine/grapevinelaw20.great: function 24 -/
def grapevinelaw20_great (k : Nat) (a0 : T54) : Option Bool := ((if (a0.f3.length : Int) > 20 then some true else (if (a0.f4.length : Int) > 20 then some true else ((grapevinelaw0_GreatRecords k a0.f5 10).bind fun t6 => some t6))).bind fun s2 => some s2)
set_option maxHeartbeats 4000000 in
theorem grapevinelaw20_great_calls {B : World} {G : GMap} {Γ : List Chunk} {W : World} (k : Nat) (a0 : T54) (Aa0_f3 : Option Addr) (ca0_f3 : Nat) (Ha0_f3 : Rd (kInt .i64) G Aa0_f3 ca0_f3 a0.f3) (Aa0_f4 : Option Addr) (ca0_f4 : Nat) (Ha0_f4 : Rd (kInt .i64) G Aa0_f4 ca0_f4 a0.f4) (Aa0_f5 : Option Addr) (ca0_f5 : Nat) (Ha0_f5 : Rd k39 G Aa0_f5 ca0_f5 a0.f5) (r : Bool) (h : grapevinelaw20_great k a0 = some r) (hI : Inv B G (Γ) W) :
    Calls Tryd.prog 24 [.agg #[.int .i64 a0.f0, .int .i64 a0.f1, .int .i64 a0.f2, .slice Aa0_f3 a0.f3.length ca0_f3, .slice Aa0_f4 a0.f4.length ca0_f4, .slice Aa0_f5 a0.f5.length ca0_f5]].toArray W (Ret B (fun v G' Γ' => v = .bool r ∧ G = G' ∧ Γ = Γ')) := by
  refine calls_WP (Γ := Γ) (G := G) (B := B) Tryd.func24 rfl (by kernel_rfl) ?_ hI
  clear hI
  unfold grapevinelaw20_great at h
  refine WP.seqR ?_
  refine WL.op (op := .box 54 (.tmp 0)) (ty := 0) (d := some 1) (g := none) (by kernel_rfl) (by kernel_rfl) (by kernel_rfl) (Does.new (o := .cells #[.int .i64 a0.f0, .int .i64 a0.f1, .int .i64 a0.f2, .slice Aa0_f3 a0.f3.length ca0_f3, .slice Aa0_f4 a0.f4.length ca0_f4, .slice Aa0_f5 a0.f5.length ca0_f5] 54 (0, 0)) (v := fun r => .pointer (some ⟨r, 0, none⟩)) (fun r => by kernel_rfl)) ?_
  rintro _ _ _ ⟨b1, rfl, rfl, rfl⟩
  refine WL.restQ 1 [1] (L' := [(1, .pointer (some ⟨b1, 0, none⟩))]) (by kernel_rfl) ?_
  rw [Option.bind_eq_some_iff] at h
  obtain ⟨os2, h, hk3⟩ := h
  refine WP.cut (fun L' G' Γ' => ∃ s2 : Bool, s2 = os2 ∧ L' = [(2, .bool s2)] ∧ G = G' ∧ Γ = Γ') ?_ ?_
  · clear hk3
    refine WP.region ?_
    refine WL.pure 0 1 [1, 3] (L' := [(1, .pointer (some ⟨b1, 0, none⟩)), (3, .pointer (some ⟨b1, 3, none⟩))]) (by kernel_rfl) (by decide) ?_
    refine WL.tell (op := .load 32 (.tmp 3)) (ty := 32) (d := some 4) (g := none) (by kernel_rfl) (by kernel_rfl) (by kernel_rfl) (Tells.load_box (i := 0) (b := b1) (o := 3) (agg := false) (by rfl) ag32 (by kernel_rfl) (fun _ => rfl) (Nat.le_of_ble_eq_true rfl) (v := .slice Aa0_f3 a0.f3.length ca0_f3) (by kernel_rfl)) ?_
    refine WL.pure 2 5 [1, 7] (L' := [(1, .pointer (some ⟨b1, 0, none⟩)), (7, .bool (decide ((a0.f3.length : Int) > 20)))]) (by kernel_rfl) (by decide) ?_
    refine WL.split 7 (b := decide ((a0.f3.length : Int) > 20)) (by kernel_rfl) (fun hc => ?_) (fun hc => ?_)
    · replace hc := of_decide_eq_true hc
      rw [if_pos hc] at h
      have hc4 := hc
      clear hc
      refine WL.rest 5 [2] (L' := [(2, .bool true)]) (by kernel_rfl) ?_
      refine QP.dropAt 0 ?_
      refine QP.pick [2] ?_
      exact QP.meet ⟨_, Option.some.inj h, rfl, rfl, rfl⟩
    · replace hc := of_decide_eq_false hc
      rw [if_neg hc] at h
      have hc4 := hc
      clear hc
      refine WL.pure 5 6 [1, 7, 8] (L' := [(1, .pointer (some ⟨b1, 0, none⟩)), (7, .bool false), (8, .pointer (some ⟨b1, 4, none⟩))]) (by kernel_rfl) (by decide) ?_
      refine WL.tell (op := .load 32 (.tmp 8)) (ty := 32) (d := some 9) (g := some (4, false)) (by kernel_rfl) (by kernel_rfl) (by kernel_rfl) (Tells.load_box (i := 0) (b := b1) (o := 4) (agg := false) (by rfl) ag32 (by kernel_rfl) (fun _ => rfl) (Nat.le_of_ble_eq_true rfl) (v := .slice Aa0_f4 a0.f4.length ca0_f4) (by kernel_rfl)) ?_
      refine WL.pure 7 11 [1, 13] (L' := [(1, .pointer (some ⟨b1, 0, none⟩)), (13, .bool (decide ((a0.f4.length : Int) > 20)))]) (by kernel_rfl) (by decide) ?_
      refine WL.split 13 (b := decide ((a0.f4.length : Int) > 20)) (by kernel_rfl) (fun hc => ?_) (fun hc => ?_)
      · replace hc := of_decide_eq_true hc
        rw [if_pos hc] at h
        have hc5 := hc
        clear hc
        refine WL.rest 11 [2] (L' := [(2, .bool true)]) (by kernel_rfl) ?_
        refine QP.dropAt 0 ?_
        refine QP.pick [2] ?_
        exact QP.meet ⟨_, Option.some.inj h, rfl, rfl, rfl⟩
      · replace hc := of_decide_eq_false hc
        rw [if_neg hc] at h
        have hc5 := hc
        clear hc
        refine WL.pure 11 12 [13, 14] (L' := [(13, .bool false), (14, .pointer (some ⟨b1, 5, none⟩))]) (by kernel_rfl) (by decide) ?_
        refine WL.tell (op := .load 52 (.tmp 14)) (ty := 52) (d := some 15) (g := some (10, false)) (by kernel_rfl) (by kernel_rfl) (by kernel_rfl) (Tells.load_box (i := 0) (b := b1) (o := 5) (agg := false) (by rfl) ag52 (by kernel_rfl) (fun _ => rfl) (Nat.le_of_ble_eq_true rfl) (v := .slice Aa0_f5 a0.f5.length ca0_f5) (by kernel_rfl)) ?_
        rw [Option.bind_eq_some_iff] at h
        obtain ⟨t6, ht7, h⟩ := h
        refine WL.op (op := .call { callee := (.value (.func 53)), args := #[(.tmp 15), (.const (.int .i64 10))], argTypes := #[52, 3] }) (ty := 4) (d := some 16) (g := some (10, false)) (by kernel_rfl) (by kernel_rfl) (by kernel_rfl) (Does.call (f := 53) (args := [.slice Aa0_f5 a0.f5.length ca0_f5, .int .i64 10]) (by kernel_rfl) (fun W hI => (grapevinelaw0_GreatRecords_calls k a0.f5 10 Aa0_f5 ca0_f5 Ha0_f5 t6 ht7 hI))) ?_
        rintro _ _ _ ⟨rfl, rfl, rfl⟩
        refine WL.rest 14 [2] (L' := [(2, .bool t6)]) (by kernel_rfl) ?_
        refine QP.dropAt 0 ?_
        refine QP.pick [2] ?_
        exact QP.meet ⟨_, Option.some.inj h, rfl, rfl, rfl⟩
  · rintro _ _ _ ⟨s2, rfl, rfl, rfl, rfl⟩
    clear h
    replace h := hk3
    refine WP.ret ?_
    obtain rfl := Option.some.inj h
    exact QP.returned [2] [.bool s2] _ (by kernel_rfl) (by kernel_rfl) (by kernel_rfl) (fun W hI => ⟨_, _, _, rfl, ⟨rfl, rfl, rfl⟩, hI⟩)

/-! ### grapevine/grapevinelaw20.hello: function 54 -/
def grapevinelaw20_hello : Option T54 := some (⟨1, 0, 1, ([3, 0] : List Int), ([1, 0] : List Int), ([] : List T39)⟩ : T54)
set_option maxHeartbeats 4000000 in
theorem grapevinelaw20_hello_calls {B : World} {G : GMap} {Γ : List Chunk} {W : World} (r : T54) (h : grapevinelaw20_hello  = some r) (hI : Inv B G (Γ) W) :
    Calls Tryd.prog 54 [].toArray W (Ret B (fun v G' Γ' => ∃ (AR_0 : Option Addr), ∃ (cR_0 : Nat), ∃ (CR_0 : Chunk), ∃ (AR_1 : Option Addr), ∃ (cR_1 : Nat), ∃ (CR_1 : Chunk), ∃ (AR_2 : Option Addr), ∃ (cR_2 : Nat), ∃ (CR_2 : Chunk), v = .agg #[.int .i64 r.f0, .int .i64 r.f1, .int .i64 r.f2, .slice AR_0 r.f3.length cR_0, .slice AR_1 r.f4.length cR_1, .slice AR_2 r.f5.length cR_2] ∧ Ow (kInt .i64) G' AR_0 cR_0 r.f3 CR_0 ∧ Ow (kInt .i64) G' AR_1 cR_1 r.f4 CR_1 ∧ Ow k39 G' AR_2 cR_2 r.f5 CR_2 ∧ G = G' ∧ CR_0 :: CR_1 :: CR_2 :: Γ = Γ')) := by
  refine calls_WP (Γ := Γ) (G := G) (B := B) Tryd.func54 rfl (by kernel_rfl) ?_ hI
  clear hI
  unfold grapevinelaw20_hello at h
  refine WP.seqR ?_
  refine WL.op (op := .alloc 54) (ty := 0) (d := some 0) (g := none) (by kernel_rfl) (by kernel_rfl) (by kernel_rfl) (Does.new (o := .cells #[.int .i64 0, .int .i64 0, .int .i64 0, .slice none 0 0, .slice none 0 0, .slice none 0 0] 54 (0, 0)) (v := fun r => .pointer (some ⟨r, 0, none⟩)) (fun r => by kernel_rfl)) ?_
  rintro _ _ _ ⟨b1, rfl, rfl, rfl⟩
  refine WL.restQ 1 [0] (L' := [(0, .pointer (some ⟨b1, 0, none⟩))]) (by kernel_rfl) ?_
  refine WP.seqR ?_
  refine WL.op (op := .buildSlice 32 2 #[(0, (.const (.int .i64 3))), (1, (.const (.int .i64 0)))]) (ty := 32) (d := some 1) (g := none) (by kernel_rfl) (by kernel_rfl) (by kernel_rfl) (Does.new (o := .cells #[.int .i64 3, .int .i64 0] 3 (0, 0)) (v := fun r => .slice (some ⟨r, 0, none⟩) 2 2) (fun r => by kernel_rfl)) ?_
  rintro _ _ _ ⟨b2, rfl, rfl, rfl⟩
  have Ho4 : Ow (kInt .i64) G (some ⟨b2, 0, none⟩) 2 ([3, 0] : List Int) [(b2, .cells #[.int .i64 3, .int .i64 0] 3 (0, 0))] := Ow.lit (kd := (kInt .i64)) (G := G) (b := b2) (T := 3) (xs := ([3, 0] : List Int)) (cs := [.int .i64 3, .int .i64 0]) (.cons (x := 3) (cs := [.int .i64 3]) (by exact rfl) (.cons (x := 0) (cs := [.int .i64 0]) (by exact rfl) .nil))
  refine WL.op (op := .buildSlice 32 2 #[(0, (.const (.int .i64 1))), (1, (.const (.int .i64 0)))]) (ty := 32) (d := some 2) (g := none) (by kernel_rfl) (by kernel_rfl) (by kernel_rfl) (Does.new (o := .cells #[.int .i64 1, .int .i64 0] 3 (0, 0)) (v := fun r => .slice (some ⟨r, 0, none⟩) 2 2) (fun r => by kernel_rfl)) ?_
  rintro _ _ _ ⟨b5, rfl, rfl, rfl⟩
  have Ho7 : Ow (kInt .i64) G (some ⟨b5, 0, none⟩) 2 ([1, 0] : List Int) [(b5, .cells #[.int .i64 1, .int .i64 0] 3 (0, 0))] := Ow.lit (kd := (kInt .i64)) (G := G) (b := b5) (T := 3) (xs := ([1, 0] : List Int)) (cs := [.int .i64 1, .int .i64 0]) (.cons (x := 1) (cs := [.int .i64 1]) (by exact rfl) (.cons (x := 0) (cs := [.int .i64 0]) (by exact rfl) .nil))
  refine WL.pure 2 3 [0, 3] (L' := [(0, .pointer (some ⟨b1, 0, none⟩)), (3, .agg #[.int .i64 1, .int .i64 0, .int .i64 1, .slice (some ⟨b2, 0, none⟩) ([3, 0] : List Int).length 2, .slice (some ⟨b5, 0, none⟩) ([1, 0] : List Int).length 2, .slice none 0 0])]) (by kernel_rfl) (by decide) ?_
  refine WL.op (op := .store 54 (.tmp 0) (.tmp 3)) (ty := 0) (d := none) (g := none) (by kernel_rfl) (by kernel_rfl) (by kernel_rfl) (Does.store_box (i := 2) (b := b1) (o := 0) (v := .agg #[.int .i64 1, .int .i64 0, .int .i64 1, .slice (some ⟨b2, 0, none⟩) ([3, 0] : List Int).length 2, .slice (some ⟨b5, 0, none⟩) ([1, 0] : List Int).length 2, .slice none 0 0]) (by rfl) sz54 (by kernel_rfl) (by kernel_rfl) (by kernel_rfl) (Free.zero _) (Nat.le_of_ble_eq_true rfl) (cells' := #[.int .i64 1, .int .i64 0, .int .i64 1, .slice (some ⟨b2, 0, none⟩) ([3, 0] : List Int).length 2, .slice (some ⟨b5, 0, none⟩) ([1, 0] : List Int).length 2, .slice none 0 0]) (by kernel_rfl)) ?_
  rintro _ _ _ ⟨rfl, rfl, rfl⟩
  refine WL.restQ 4 [0] (L' := [(0, .pointer (some ⟨b1, 0, none⟩))]) (by kernel_rfl) ?_
  refine WP.ret ?_
  obtain rfl := Option.some.inj h
  refine QP.addNil ?_
  refine QP.front (i := 3) rfl ?_
  refine QP.front (i := 1) rfl ?_
  refine QP.front (i := 2) rfl ?_
  refine QP.front (i := 3) rfl ?_
  exact QP.returnedM (rs := [.cell 0 54]) (by kernel_rfl) (ResAll.cons (Res1.box (p := 0) (i := 3) (o := 0) (agg := true) (by rfl) ag54 (by kernel_rfl) (fun h => by cases h) (Nat.le_of_ble_eq_true rfl) (v := .agg #[.int .i64 1, .int .i64 0, .int .i64 1, .slice (some ⟨b2, 0, none⟩) ([3, 0] : List Int).length 2, .slice (some ⟨b5, 0, none⟩) ([1, 0] : List Int).length 2, .slice none ([] : List T39).length 0]) (by kernel_rfl)) ResAll.nil) (by kernel_rfl) (fun W hI => ⟨_, _, _, rfl, ⟨(some ⟨b2, 0, none⟩), 2, [(b2, .cells #[.int .i64 3, .int .i64 0] 3 (0, 0))], (some ⟨b5, 0, none⟩), 2, [(b5, .cells #[.int .i64 1, .int .i64 0] 3 (0, 0))], none, 0, [], rfl, Ho4, Ho7, (Ow.nil k39 _), rfl, rfl⟩, (hI.less 3 rfl)⟩)

/-! ### grapevine/talk.place: function 59 -/
def talk_place (a0 : Int) (a1 : Int) : Option Bool := ((if a0 ≥ 0 then some (decide (a0 < a1)) else some false).bind fun s1 => some s1)
set_option maxHeartbeats 4000000 in
theorem talk_place_calls {B : World} {G : GMap} {Γ : List Chunk} {W : World} (a0 : Int) (a1 : Int) (r : Bool) (h : talk_place a0 a1 = some r) (hI : Inv B G (Γ) W) :
    Calls Tryd.prog 59 [.int .i64 a0, .int .i64 a1].toArray W (Ret B (fun v G' Γ' => v = .bool r ∧ G = G' ∧ Γ = Γ')) := by
  refine calls_WP (Γ := Γ) (G := G) (B := B) Tryd.func59 rfl (by kernel_rfl) ?_ hI
  clear hI
  unfold talk_place at h
  refine WP.seqP [0, 1] (L' := [(0, .int .i64 a0), (1, .int .i64 a1)]) (by kernel_rfl) ?_
  rw [Option.bind_eq_some_iff] at h
  obtain ⟨os1, h, hk2⟩ := h
  refine WP.cut (fun L' G' Γ' => ∃ s1 : Bool, s1 = os1 ∧ L' = [(4, .bool s1)] ∧ G = G' ∧ Γ = Γ') ?_ ?_
  · clear hk2
    refine WP.region ?_
    refine WL.pure 0 3 [0, 1, 7] (L' := [(0, .int .i64 a0), (1, .int .i64 a1), (7, .bool (decide (a0 ≥ 0)))]) (by kernel_rfl) (by decide) ?_
    refine WL.split 7 (b := decide (a0 ≥ 0)) (by kernel_rfl) (fun hc => ?_) (fun hc => ?_)
    · replace hc := of_decide_eq_true hc
      rw [if_pos hc] at h
      have hc3 := hc
      clear hc
      refine WL.rest 3 [4] (L' := [(4, .bool (decide (a0 < a1)))]) (by kernel_rfl) ?_
      refine QP.pick [4] ?_
      exact QP.meet ⟨_, Option.some.inj h, rfl, rfl, rfl⟩
    · replace hc := of_decide_eq_false hc
      rw [if_neg hc] at h
      have hc3 := hc
      clear hc
      refine WL.rest 3 [4] (L' := [(4, .bool false)]) (by kernel_rfl) ?_
      refine QP.pick [4] ?_
      exact QP.meet ⟨_, Option.some.inj h, rfl, rfl, rfl⟩
  · rintro _ _ _ ⟨s1, rfl, rfl, rfl, rfl⟩
    clear h
    replace h := hk2
    refine WP.ret ?_
    obtain rfl := Option.some.inj h
    exact QP.returned [4] [.bool s1] _ (by kernel_rfl) (by kernel_rfl) (by kernel_rfl) (fun W hI => ⟨_, _, _, rfl, ⟨rfl, rfl, rfl⟩, hI⟩)

/-! ### grapevine/record.Before: function 86 -/
def record_Before (a0 : T35) (a1 : T35) : Option Bool := (if ¬ a0.f0 = a1.f0 then some (decide (a0.f0 < a1.f0)) else some (decide (a0.f1 < a1.f1)))
set_option maxHeartbeats 4000000 in
theorem record_Before_calls {B : World} {G : GMap} {Γ : List Chunk} {W : World} (a0 : T35) (a1 : T35) (r : Bool) (h : record_Before a0 a1 = some r) (hI : Inv B G (Γ) W) :
    Calls Tryd.prog 86 [.agg #[.int .i64 a0.f0, .int .i64 a0.f1], .agg #[.int .i64 a1.f0, .int .i64 a1.f1]].toArray W (Ret B (fun v G' Γ' => v = .bool r ∧ G = G' ∧ Γ = Γ')) := by
  refine calls_WP (Γ := Γ) (G := G) (B := B) Tryd.func86 rfl (by kernel_rfl) ?_ hI
  clear hI
  unfold record_Before at h
  refine WP.seqR ?_
  refine WL.op (op := .box 35 (.tmp 0)) (ty := 0) (d := some 2) (g := none) (by kernel_rfl) (by kernel_rfl) (by kernel_rfl) (Does.new (o := .cells #[.int .i64 a0.f0, .int .i64 a0.f1] 35 (0, 0)) (v := fun r => .pointer (some ⟨r, 0, none⟩)) (fun r => by kernel_rfl)) ?_
  rintro _ _ _ ⟨b1, rfl, rfl, rfl⟩
  refine WL.op (op := .box 35 (.tmp 1)) (ty := 0) (d := some 3) (g := none) (by kernel_rfl) (by kernel_rfl) (by kernel_rfl) (Does.new (o := .cells #[.int .i64 a1.f0, .int .i64 a1.f1] 35 (0, 0)) (v := fun r => .pointer (some ⟨r, 0, none⟩)) (fun r => by kernel_rfl)) ?_
  rintro _ _ _ ⟨b2, rfl, rfl, rfl⟩
  refine WL.restQ 2 [2, 3] (L' := [(2, .pointer (some ⟨b1, 0, none⟩)), (3, .pointer (some ⟨b2, 0, none⟩))]) (by kernel_rfl) ?_
  refine WP.seq ?_
  refine WP.seqR ?_
  refine WL.pure 0 1 [2, 3, 5] (L' := [(2, .pointer (some ⟨b1, 0, none⟩)), (3, .pointer (some ⟨b2, 0, none⟩)), (5, .pointer (some ⟨b1, 0, none⟩))]) (by kernel_rfl) (by decide) ?_
  refine WL.tell (op := .load 3 (.tmp 5)) (ty := 3) (d := some 6) (g := none) (by kernel_rfl) (by kernel_rfl) (by kernel_rfl) (Tells.load_box (i := 1) (b := b1) (o := 0) (agg := false) (by rfl) ag3 (by kernel_rfl) (fun _ => rfl) (Nat.le_of_ble_eq_true rfl) (v := .int .i64 a0.f0) (by kernel_rfl)) ?_
  refine WL.pure 2 3 [2, 3, 6, 7] (L' := [(2, .pointer (some ⟨b1, 0, none⟩)), (3, .pointer (some ⟨b2, 0, none⟩)), (6, .int .i64 a0.f0), (7, .pointer (some ⟨b2, 0, none⟩))]) (by kernel_rfl) (by decide) ?_
  refine WL.tell (op := .load 3 (.tmp 7)) (ty := 3) (d := some 8) (g := none) (by kernel_rfl) (by kernel_rfl) (by kernel_rfl) (Tells.load_box (i := 0) (b := b2) (o := 0) (agg := false) (by rfl) ag3 (by kernel_rfl) (fun _ => rfl) (Nat.le_of_ble_eq_true rfl) (v := .int .i64 a1.f0) (by kernel_rfl)) ?_
  refine WL.restQ 4 [2, 3, 9] (L' := [(2, .pointer (some ⟨b1, 0, none⟩)), (3, .pointer (some ⟨b2, 0, none⟩)), (9, .bool (a0.f0 != a1.f0))]) (by kernel_rfl) ?_
  refine WP.cond (b := (a0.f0 != a1.f0)) (by kernel_rfl) (fun hc => ?_) (fun hc => ?_)
  · replace hc := (bne_iff_ne.1 hc)
    rw [if_pos hc] at h
    have hc3 := hc
    clear hc
    refine WP.seqR ?_
    refine WL.pure 0 1 [3, 10] (L' := [(3, .pointer (some ⟨b2, 0, none⟩)), (10, .pointer (some ⟨b1, 0, none⟩))]) (by kernel_rfl) (by decide) ?_
    refine WL.tell (op := .load 3 (.tmp 10)) (ty := 3) (d := some 11) (g := none) (by kernel_rfl) (by kernel_rfl) (by kernel_rfl) (Tells.load_box (i := 1) (b := b1) (o := 0) (agg := false) (by rfl) ag3 (by kernel_rfl) (fun _ => rfl) (Nat.le_of_ble_eq_true rfl) (v := .int .i64 a0.f0) (by kernel_rfl)) ?_
    refine WL.pure 2 3 [11, 12] (L' := [(11, .int .i64 a0.f0), (12, .pointer (some ⟨b2, 0, none⟩))]) (by kernel_rfl) (by decide) ?_
    refine WL.tell (op := .load 3 (.tmp 12)) (ty := 3) (d := some 13) (g := none) (by kernel_rfl) (by kernel_rfl) (by kernel_rfl) (Tells.load_box (i := 0) (b := b2) (o := 0) (agg := false) (by rfl) ag3 (by kernel_rfl) (fun _ => rfl) (Nat.le_of_ble_eq_true rfl) (v := .int .i64 a1.f0) (by kernel_rfl)) ?_
    refine WL.restQ 4 [4] (L' := [(4, .bool (decide (a0.f0 < a1.f0)))]) (by kernel_rfl) ?_
    refine WP.dropAt 1 ?_
    refine WP.dropAt 0 ?_
    refine WP.ret ?_
    refine QP.thenR ?_
    obtain rfl := Option.some.inj h
    exact QP.returned [4] [.bool (decide (a0.f0 < a1.f0))] _ (by kernel_rfl) (by kernel_rfl) (by kernel_rfl) (fun W hI => ⟨_, _, _, rfl, ⟨rfl, rfl, rfl⟩, hI⟩)
  · replace hc := (not_not_intro (bne_eq_false_iff_eq.1 hc))
    rw [if_neg hc] at h
    have hc3 := hc
    clear hc
    refine WP.skip ?_
    refine QP.next ?_
    refine WP.pick [2, 3] ?_
    refine WP.seqR ?_
    refine WL.pure 0 1 [3, 15] (L' := [(3, .pointer (some ⟨b2, 0, none⟩)), (15, .pointer (some ⟨b1, 1, none⟩))]) (by kernel_rfl) (by decide) ?_
    refine WL.tell (op := .load 3 (.tmp 15)) (ty := 3) (d := some 16) (g := none) (by kernel_rfl) (by kernel_rfl) (by kernel_rfl) (Tells.load_box (i := 1) (b := b1) (o := 1) (agg := false) (by rfl) ag3 (by kernel_rfl) (fun _ => rfl) (Nat.le_of_ble_eq_true rfl) (v := .int .i64 a0.f1) (by kernel_rfl)) ?_
    refine WL.pure 2 3 [16, 17] (L' := [(16, .int .i64 a0.f1), (17, .pointer (some ⟨b2, 1, none⟩))]) (by kernel_rfl) (by decide) ?_
    refine WL.tell (op := .load 3 (.tmp 17)) (ty := 3) (d := some 18) (g := none) (by kernel_rfl) (by kernel_rfl) (by kernel_rfl) (Tells.load_box (i := 0) (b := b2) (o := 1) (agg := false) (by rfl) ag3 (by kernel_rfl) (fun _ => rfl) (Nat.le_of_ble_eq_true rfl) (v := .int .i64 a1.f1) (by kernel_rfl)) ?_
    refine WL.restQ 4 [4] (L' := [(4, .bool (decide (a0.f1 < a1.f1)))]) (by kernel_rfl) ?_
    refine WP.dropAt 1 ?_
    refine WP.dropAt 0 ?_
    refine WP.ret ?_
    obtain rfl := Option.some.inj h
    exact QP.returned [4] [.bool (decide (a0.f1 < a1.f1))] _ (by kernel_rfl) (by kernel_rfl) (by kernel_rfl) (fun W hI => ⟨_, _, _, rfl, ⟨rfl, rfl, rfl⟩, hI⟩)

/-! ### grapevine/talk.rise: function 60 -/
def talk_rise_l0 (l0 : List T39) (a1 : Int) : Nat → Int → Option (Sum Bool Unit)
  | 0, _ => none
  | k + 1, y3 => (if y3 < (l0.length : Int) then (if 0 ≤ y3 ∧ y3 < (l0.length : Int) then (((record_May (⟨(l0.getD y3.toNat z39).f0, (l0.getD y3.toNat z39).f1, (l0.getD y3.toNat z39).f2, (l0.getD y3.toNat z39).f3, (l0.getD y3.toNat z39).f4⟩ : T39)).bind fun t11 => (if (!t11) = true then some true else (if ((l0.getD y3.toNat z39).f0) ≥ a1 then some true else (if y3 > 0 then (if 0 ≤ (IntKind.i64.wrap (y3 - 1)) ∧ (IntKind.i64.wrap (y3 - 1)) < (l0.length : Int) then ((record_Before (⟨(l0.getD (IntKind.i64.wrap (y3 - 1)).toNat z39).f0, (l0.getD (IntKind.i64.wrap (y3 - 1)).toNat z39).f1⟩ : T35) (⟨(l0.getD y3.toNat z39).f0, (l0.getD y3.toNat z39).f1⟩ : T35)).bind fun t19 => some (!t19)) else none) else some false)))).bind fun s9 => (if s9 = true then some (Sum.inl false) else talk_rise_l0 l0 a1 k (IntKind.i64.wrap (y3 + 1)))) else none) else some (Sum.inr ()))
def talk_rise (k : Nat) (l0 : List T39) (a1 : Int) : Option Bool := ((talk_rise_l0 l0 a1 k 0).bind fun os1 => match os1 with | Sum.inl r => some r | Sum.inr s1 => some true)
set_option maxHeartbeats 4000000 in
theorem talk_rise_calls {B : World} {G : GMap} {Γ : List Chunk} {W : World} (HT : Tabs B G) (k : Nat) (l0 : List T39) (a1 : Int) (Al0 : Option Addr) (cl0 : Nat) (Hl0 : Rd k39 G Al0 cl0 l0) (r : Bool) (h : talk_rise k l0 a1 = some r) (hI : Inv B G (Γ) W) :
    Calls Tryd.prog 60 [.slice Al0 l0.length cl0, .int .i64 a1].toArray W (Ret B (fun v G' Γ' => v = .bool r ∧ G = G' ∧ Γ = Γ')) := by
  refine calls_WP (Γ := Γ) (G := G) (B := B) Tryd.func60 rfl (by kernel_rfl) ?_ hI
  clear hI
  unfold talk_rise at h
  refine WP.seqP [0, 1] (L' := [(0, .slice Al0 l0.length cl0), (1, .int .i64 a1)]) (by kernel_rfl) ?_
  refine WP.seq ?_
  refine WP.seqP [0, 1, 7, 8, 9] (L' := [(0, .slice Al0 l0.length cl0), (1, .int .i64 a1), (7, .slice Al0 l0.length cl0), (8, .int .i64 (l0.length : Int)), (9, .int .i64 0)]) (by kernel_rfl) ?_
  rw [Option.bind_eq_some_iff] at h
  obtain ⟨os1, h, hk2⟩ := h
  refine WP.cutQ (fun L' G' Γ' => ∃ s1 : Unit, Sum.inr s1 = os1 ∧ L' = [] ∧ G = G' ∧ Γ = Γ') ?_ ?_
  · skip
    refine WP.block ?_
    refine WP.pick [0, 1, 7, 8, 9] ?_
    refine WP.loopF (fun kn4 L' G' Γ' => ∃ (y3 : Int), talk_rise_l0 l0 a1 kn4 y3 = some os1 ∧ L' = [(0, .slice Al0 l0.length cl0), (1, .int .i64 a1), (7, .slice Al0 l0.length cl0), (8, .int .i64 (l0.length : Int)), (9, .int .i64 y3)] ∧ G = G' ∧ Γ = Γ') ?_ k ⟨0, h, rfl, rfl, rfl⟩
    clear h
    rintro kn5 _ _ _ ⟨y3, h, rfl, rfl, rfl⟩
    cases kn5 with
    | zero => exact absurd h (by simp [talk_rise_l0])
    | succ kn5 =>
      simp only [talk_rise_l0] at h
      refine WP.seqP [0, 1, 7, 8, 9, 10] (L' := [(0, .slice Al0 l0.length cl0), (1, .int .i64 a1), (7, .slice Al0 l0.length cl0), (8, .int .i64 (l0.length : Int)), (9, .int .i64 y3), (10, .bool (decide (y3 < (l0.length : Int))))]) (by kernel_rfl) ?_
      refine WP.seq ?_
      refine WP.cond (b := decide (y3 < (l0.length : Int))) (by kernel_rfl) (fun hc => ?_) (fun hc => ?_)
      · replace hc := of_decide_eq_true hc
        rw [if_pos hc] at h
        have hc6 := hc
        clear hc
        refine WP.skip ?_
        refine QP.next ?_
        refine WP.pick [0, 1, 7, 8, 9] ?_
        refine WP.seq ?_
        refine WP.block ?_
        refine WP.seqR ?_
        refine WL.pure 0 1 [0, 1, 7, 8, 9, 11] (L' := [(0, .slice Al0 l0.length cl0), (1, .int .i64 a1), (7, .slice Al0 l0.length cl0), (8, .int .i64 (l0.length : Int)), (9, .int .i64 y3), (11, .int .i64 y3)]) (by kernel_rfl) (by decide) ?_
        by_cases hb7 : 0 ≤ y3 ∧ y3 < (l0.length : Int)
        case neg => rw [if_neg hb7] at h; cases h
        rw [if_pos hb7] at h
        refine WL.tell (op := .indexAddr 52 (.tmp 7) (.tmp 9)) (ty := 0) (d := some 12) (g := none) (by kernel_rfl) (by kernel_rfl) (by kernel_rfl) (Tells.indexAddr (A := Al0) (n := l0.length) (c := cl0) (k := .i64) (j := y3) (by kernel_rfl) (by kernel_rfl) (Hl0.isSome hb7.1 hb7.2) hb7.1 hb7.2 sl52) ?_
        refine WL.tellE (op := .load 39 (.tmp 12)) (ty := 39) (d := some 13) (g := none) (by kernel_rfl) (by kernel_rfl) (by kernel_rfl) (Hl0.load (agg := true) hb7.1 hb7.2 z39 ag39 (fun h => by cases h) (by kernel_rfl)) ?_
        rintro _ rfl
        refine WL.op (op := .alloc 39) (ty := 0) (d := some 6) (g := none) (by kernel_rfl) (by kernel_rfl) (by kernel_rfl) (Does.new (o := .cells #[.int .i64 0, .int .i64 0, .int .i64 0, .int .i64 0, .string (⟨#[]⟩ : ByteArray)] 39 (0, 0)) (v := fun r => .pointer (some ⟨r, 0, none⟩)) (fun r => by kernel_rfl)) ?_
        rintro _ _ _ ⟨b8, rfl, rfl, rfl⟩
        refine WL.pure 4 5 [0, 1, 5, 6, 7, 8, 9, 13] (L' := [(0, .slice Al0 l0.length cl0), (1, .int .i64 a1), (5, .int .i64 y3), (6, .pointer (some ⟨b8, 0, none⟩)), (7, .slice Al0 l0.length cl0), (8, .int .i64 (l0.length : Int)), (9, .int .i64 y3), (13, .agg #[.int .i64 ((l0.getD y3.toNat z39).f0), .int .i64 ((l0.getD y3.toNat z39).f1), .int .i64 ((l0.getD y3.toNat z39).f2), .int .i64 ((l0.getD y3.toNat z39).f3), .string ((l0.getD y3.toNat z39).f4)])]) (by kernel_rfl) (by decide) ?_
        refine WL.op (op := .store 39 (.tmp 6) (.tmp 13)) (ty := 0) (d := none) (g := none) (by kernel_rfl) (by kernel_rfl) (by kernel_rfl) (Does.store_box (i := 0) (b := b8) (o := 0) (v := .agg #[.int .i64 ((l0.getD y3.toNat z39).f0), .int .i64 ((l0.getD y3.toNat z39).f1), .int .i64 ((l0.getD y3.toNat z39).f2), .int .i64 ((l0.getD y3.toNat z39).f3), .string ((l0.getD y3.toNat z39).f4)]) (by rfl) sz39 (by kernel_rfl) (by kernel_rfl) (by kernel_rfl) (Free.zero _) (Nat.le_of_ble_eq_true rfl) (cells' := #[.int .i64 ((l0.getD y3.toNat z39).f0), .int .i64 ((l0.getD y3.toNat z39).f1), .int .i64 ((l0.getD y3.toNat z39).f2), .int .i64 ((l0.getD y3.toNat z39).f3), .string ((l0.getD y3.toNat z39).f4)]) (by kernel_rfl)) ?_
        rintro _ _ _ ⟨rfl, rfl, rfl⟩
        refine WL.restQ 6 [0, 1, 5, 6, 7, 8, 9] (L' := [(0, .slice Al0 l0.length cl0), (1, .int .i64 a1), (5, .int .i64 y3), (6, .pointer (some ⟨b8, 0, none⟩)), (7, .slice Al0 l0.length cl0), (8, .int .i64 (l0.length : Int)), (9, .int .i64 y3)]) (by kernel_rfl) ?_
        rw [Option.bind_eq_some_iff] at h
        obtain ⟨os9, h, hk10⟩ := h
        refine WP.cut (fun L' G' Γ' => ∃ s9 : Bool, s9 = os9 ∧ L' = [(0, .slice Al0 l0.length cl0), (1, .int .i64 a1), (7, .slice Al0 l0.length cl0), (8, .int .i64 (l0.length : Int)), (9, .int .i64 y3), (39, .bool s9)] ∧ G = G' ∧ Γ = Γ') ?_ ?_
        · clear hk10
          skip
          refine WP.any (N := 26) (S := [⟨some 14, [6], []⟩, ⟨some 15, [14], [0]⟩, ⟨some 16, [15], [1]⟩, ⟨some 17, [16], [1, 2]⟩, ⟨some 18, [6, 17], [3]⟩, ⟨some 19, [17, 18], [3, 4]⟩, ⟨some 20, [17, 19], [3, 5]⟩, ⟨some 21, [1, 17], [3]⟩, ⟨some 22, [17, 20, 21], [3, 6, 7]⟩, ⟨some 23, [17, 22], [3, 8]⟩, ⟨some 24, [23], [3, 9]⟩, ⟨some 25, [5, 24], [10]⟩, ⟨some 26, [24, 25], [10, 11]⟩, ⟨some 27, [24, 26], [10, 12]⟩, ⟨some 28, [0, 27], [13]⟩, ⟨some 29, [5, 27], [13]⟩, ⟨some 30, [27, 29], [13, 15]⟩, ⟨some 31, [27, 28, 30], [13, 14, 16]⟩, ⟨some 32, [27, 31], [13, 17]⟩, ⟨some 33, [27, 32], [13, 18]⟩, ⟨some 34, [6, 27], [13]⟩, ⟨some 35, [27, 34], [13, 20]⟩, ⟨some 36, [27, 33, 35], [13, 19, 21]⟩, ⟨some 37, [27, 36], [13, 22]⟩, ⟨some 38, [24, 27, 37], [10, 13, 23]⟩, ⟨some 39, [24, 38], [10, 24]⟩]) (kw := 26) (G0 := G) (Γ0 := [(b8, .cells #[.int .i64 ((l0.getD y3.toNat z39).f0), .int .i64 ((l0.getD y3.toNat z39).f1), .int .i64 ((l0.getD y3.toNat z39).f2), .int .i64 ((l0.getD y3.toNat z39).f3), .string ((l0.getD y3.toNat z39).f4)] 39 (0, 0))] :: Γ) mo (by kernel_rfl) (fun hS => ?_)
          refine WA.tellD [] (i := 0) (m := 25) (b' := 1) (by kernel_rfl) (NoPanic.then (NoPanic.block (NoPanic.then (NoPanic.then (NoPanic.block (NoPanic.then (NoPanic.then (NoPanic.body)))))))) Under.refl hS (by kernel_rfl) (op := .load 39 (.tmp 6)) (ty := 39) (d := some 14) (g := none) (by kernel_rfl) (by kernel_rfl) (by kernel_rfl) (Tells.load_box (i := 0) (b := b8) (o := 0) (agg := true) (by rfl) ag39 (by kernel_rfl) (fun h => by cases h) (Nat.le_of_ble_eq_true rfl) (v := .agg #[.int .i64 ((l0.getD y3.toNat z39).f0), .int .i64 ((l0.getD y3.toNat z39).f1), .int .i64 ((l0.getD y3.toNat z39).f2), .int .i64 ((l0.getD y3.toNat z39).f3), .string ((l0.getD y3.toNat z39).f4)]) (by kernel_rfl)) ?_
          rw [Option.bind_eq_some_iff] at h
          obtain ⟨t11, ht12, h⟩ := h
          refine WA.op (i := 1) (m := 24) (b' := 3) (by kernel_rfl) hS (by kernel_rfl) (op := .call { callee := (.value (.func 45)), args := #[(.tmp 14)], argTypes := #[39] }) (ty := 4) (d := some 15) (g := none) (by kernel_rfl) (by kernel_rfl) (by kernel_rfl) (Does.call (f := 45) (args := [.agg #[.int .i64 ((l0.getD y3.toNat z39).f0), .int .i64 ((l0.getD y3.toNat z39).f1), .int .i64 ((l0.getD y3.toNat z39).f2), .int .i64 ((l0.getD y3.toNat z39).f3), .string ((l0.getD y3.toNat z39).f4)]]) (by kernel_rfl) (fun W hI => (record_May_calls HT (⟨(l0.getD y3.toNat z39).f0, (l0.getD y3.toNat z39).f1, (l0.getD y3.toNat z39).f2, (l0.getD y3.toNat z39).f3, (l0.getD y3.toNat z39).f4⟩ : T39)  t11 ht12 hI))) ?_
          rintro _ _ _ ⟨rfl, rfl, rfl⟩
          refine ⟨_, _, Under.refl, Under.refl, ?_⟩
          refine WA.pure [2, 3] [0, 1, 5, 6, 7, 8, 9, 17] (m := 22) (b' := 15) (L' := [(0, .slice Al0 l0.length cl0), (1, .int .i64 a1), (5, .int .i64 y3), (6, .pointer (some ⟨b8, 0, none⟩)), (7, .slice Al0 l0.length cl0), (8, .int .i64 (l0.length : Int)), (9, .int .i64 y3), (17, .bool (!t11))]) (by kernel_rfl) (NoPanic.then (NoPanic.block (NoPanic.then (NoPanic.then (NoPanic.block (NoPanic.then (NoPanic.then (NoPanic.body)))))))) Under.refl hS (by kernel_rfl) ?_
          refine WA.split 17 (b := (!t11)) (by kernel_rfl) (fun hc => ?_) (fun hc => ?_)
          · replace hc := hc
            rw [if_pos hc] at h
            have hc15 := hc
            clear hc
            refine WA.pure [4, 5, 6, 7, 8, 9, 10, 11, 12, 13, 14, 15, 16, 17, 18, 19, 20, 21, 22, 23, 24, 25] [0, 1, 7, 8, 9, 39] (m := 0) (b' := 67108863) (L' := [(0, .slice Al0 l0.length cl0), (1, .int .i64 a1), (7, .slice Al0 l0.length cl0), (8, .int .i64 (l0.length : Int)), (9, .int .i64 y3), (39, .bool true)]) (by kernel_rfl) (NoPanic.then (NoPanic.block (NoPanic.then (NoPanic.then (NoPanic.block (NoPanic.then (NoPanic.then (NoPanic.body)))))))) Under.refl hS (by kernel_rfl) ?_
            refine WA.done hS (by kernel_rfl) ?_
            refine QP.pick [0, 1, 7, 8, 9, 39] ?_
            refine QP.dropAt 0 ?_
            refine QP.pick [0, 1, 7, 8, 9, 39] ?_
            exact QP.meet ⟨_, Option.some.inj h, rfl, rfl, rfl⟩
          · replace hc := (Bool.eq_false_iff.1 hc)
            rw [if_neg hc] at h
            have hc15 := hc
            clear hc
            refine WA.pure [4, 5, 7] [0, 1, 5, 6, 7, 8, 9, 17, 19, 21] (m := 19) (b' := 191) (L' := [(0, .slice Al0 l0.length cl0), (1, .int .i64 a1), (5, .int .i64 y3), (6, .pointer (some ⟨b8, 0, none⟩)), (7, .slice Al0 l0.length cl0), (8, .int .i64 (l0.length : Int)), (9, .int .i64 y3), (17, .bool false), (19, .pointer (some ⟨b8, 0, none⟩)), (21, .int .i64 a1)]) (by kernel_rfl) (NoPanic.then (NoPanic.block (NoPanic.then (NoPanic.then (NoPanic.block (NoPanic.then (NoPanic.then (NoPanic.body)))))))) Under.refl hS (by kernel_rfl) ?_
            refine WA.tellD [] (i := 6) (m := 18) (b' := 255) (by kernel_rfl) (NoPanic.then (NoPanic.block (NoPanic.then (NoPanic.then (NoPanic.block (NoPanic.then (NoPanic.then (NoPanic.body)))))))) Under.refl hS (by kernel_rfl) (op := .load 3 (.tmp 19)) (ty := 3) (d := some 20) (g := some (3, false)) (by kernel_rfl) (by kernel_rfl) (by kernel_rfl) (Tells.load_box (i := 0) (b := b8) (o := 0) (agg := false) (by rfl) ag3 (by kernel_rfl) (fun _ => rfl) (Nat.le_of_ble_eq_true rfl) (v := .int .i64 ((l0.getD y3.toNat z39).f0)) (by kernel_rfl)) ?_
            refine WA.pure [8, 9, 10] [0, 1, 5, 6, 7, 8, 9, 24] (m := 15) (b' := 2047) (L' := [(0, .slice Al0 l0.length cl0), (1, .int .i64 a1), (5, .int .i64 y3), (6, .pointer (some ⟨b8, 0, none⟩)), (7, .slice Al0 l0.length cl0), (8, .int .i64 (l0.length : Int)), (9, .int .i64 y3), (24, .bool (decide (((l0.getD y3.toNat z39).f0) ≥ a1)))]) (by kernel_rfl) (NoPanic.then (NoPanic.block (NoPanic.then (NoPanic.then (NoPanic.block (NoPanic.then (NoPanic.then (NoPanic.body)))))))) Under.refl hS (by kernel_rfl) ?_
            refine WA.split 24 (b := decide (((l0.getD y3.toNat z39).f0) ≥ a1)) (by kernel_rfl) (fun hc => ?_) (fun hc => ?_)
            · replace hc := of_decide_eq_true hc
              rw [if_pos hc] at h
              have hc16 := hc
              clear hc
              refine WA.pure [11, 12, 13, 14, 15, 16, 17, 18, 19, 20, 21, 22, 23, 24, 25] [0, 1, 7, 8, 9, 39] (m := 0) (b' := 67108863) (L' := [(0, .slice Al0 l0.length cl0), (1, .int .i64 a1), (7, .slice Al0 l0.length cl0), (8, .int .i64 (l0.length : Int)), (9, .int .i64 y3), (39, .bool true)]) (by kernel_rfl) (NoPanic.then (NoPanic.block (NoPanic.then (NoPanic.then (NoPanic.block (NoPanic.then (NoPanic.then (NoPanic.body)))))))) Under.refl hS (by kernel_rfl) ?_
              refine WA.done hS (by kernel_rfl) ?_
              refine QP.pick [0, 1, 7, 8, 9, 39] ?_
              refine QP.dropAt 0 ?_
              refine QP.pick [0, 1, 7, 8, 9, 39] ?_
              exact QP.meet ⟨_, Option.some.inj h, rfl, rfl, rfl⟩
            · replace hc := of_decide_eq_false hc
              rw [if_neg hc] at h
              have hc16 := hc
              clear hc
              refine WA.pure [11, 12, 13] [0, 1, 5, 6, 7, 8, 9, 24, 27] (m := 12) (b' := 16383) (L' := [(0, .slice Al0 l0.length cl0), (1, .int .i64 a1), (5, .int .i64 y3), (6, .pointer (some ⟨b8, 0, none⟩)), (7, .slice Al0 l0.length cl0), (8, .int .i64 (l0.length : Int)), (9, .int .i64 y3), (24, .bool false), (27, .bool (decide (y3 > 0)))]) (by kernel_rfl) (NoPanic.then (NoPanic.block (NoPanic.then (NoPanic.then (NoPanic.block (NoPanic.then (NoPanic.then (NoPanic.body)))))))) Under.refl hS (by kernel_rfl) ?_
              refine WA.split 27 (b := decide (y3 > 0)) (by kernel_rfl) (fun hc => ?_) (fun hc => ?_)
              · replace hc := of_decide_eq_true hc
                rw [if_pos hc] at h
                have hc17 := hc
                clear hc
                refine WA.pure [14, 15, 16, 20] [0, 1, 7, 8, 9, 24, 27, 28, 30, 34] (m := 8) (b' := 1179647) (L' := [(0, .slice Al0 l0.length cl0), (1, .int .i64 a1), (7, .slice Al0 l0.length cl0), (8, .int .i64 (l0.length : Int)), (9, .int .i64 y3), (24, .bool false), (27, .bool true), (28, .slice Al0 l0.length cl0), (30, .int .i64 (IntKind.i64.wrap (y3 - 1))), (34, .pointer (some ⟨b8, 0, none⟩))]) (by kernel_rfl) (NoPanic.then (NoPanic.block (NoPanic.then (NoPanic.then (NoPanic.block (NoPanic.then (NoPanic.then (NoPanic.body)))))))) Under.refl hS (by kernel_rfl) ?_
                by_cases hb18 : 0 ≤ (IntKind.i64.wrap (y3 - 1)) ∧ (IntKind.i64.wrap (y3 - 1)) < (l0.length : Int)
                case neg => rw [if_neg hb18] at h; cases h
                rw [if_pos hb18] at h
                refine WA.tellD [] (i := 17) (m := 7) (b' := 1310719) (by kernel_rfl) (NoPanic.then (NoPanic.block (NoPanic.then (NoPanic.then (NoPanic.block (NoPanic.then (NoPanic.then (NoPanic.body)))))))) Under.refl hS (by kernel_rfl) (op := .indexAddr 52 (.tmp 28) (.tmp 30)) (ty := 0) (d := some 31) (g := some (13, true)) (by kernel_rfl) (by kernel_rfl) (by kernel_rfl) (Tells.indexAddr (A := Al0) (n := l0.length) (c := cl0) (k := .i64) (j := (IntKind.i64.wrap (y3 - 1))) (by kernel_rfl) (by kernel_rfl) (Hl0.isSome hb18.1 hb18.2) hb18.1 hb18.2 sl52) ?_
                refine WA.tellD [] (i := 18) (m := 6) (b' := 1572863) (by kernel_rfl) (NoPanic.then (NoPanic.block (NoPanic.then (NoPanic.then (NoPanic.block (NoPanic.then (NoPanic.then (NoPanic.body)))))))) Under.refl hS (by kernel_rfl) (op := .fieldAddr 39 (.tmp 31) 0) (ty := 0) (d := some 32) (g := some (13, true)) (by kernel_rfl) (by kernel_rfl) (by kernel_rfl) (Tells.fieldElem (m := (IntKind.i64.wrap (y3 - 1)).toNat * 5) (A := Al0) (by kernel_rfl) (Hl0.isSome hb18.1 hb18.2) fi39_0) ?_
                refine WA.tellDE [] (i := 19) (m := 5) (b' := 2097151) (by kernel_rfl) (NoPanic.then (NoPanic.block (NoPanic.then (NoPanic.then (NoPanic.block (NoPanic.then (NoPanic.then (NoPanic.body)))))))) Under.refl hS (by kernel_rfl) (op := .load 35 (.tmp 32)) (ty := 35) (d := some 33) (g := some (13, true)) (by kernel_rfl) (by kernel_rfl) (by kernel_rfl) (Hl0.loadF (agg := true) (off := 0) hb18.1 hb18.2 z39 ag35 (fun h => by cases h) (by decide) (by kernel_rfl)) ?_
                rintro _ rfl
                refine WA.tellD [] (i := 21) (m := 4) (b' := 4194303) (by kernel_rfl) (NoPanic.then (NoPanic.block (NoPanic.then (NoPanic.then (NoPanic.block (NoPanic.then (NoPanic.then (NoPanic.body)))))))) Under.refl hS (by kernel_rfl) (op := .load 35 (.tmp 34)) (ty := 35) (d := some 35) (g := some (13, true)) (by kernel_rfl) (by kernel_rfl) (by kernel_rfl) (Tells.load_box (i := 0) (b := b8) (o := 0) (agg := true) (by rfl) ag35 (by kernel_rfl) (fun h => by cases h) (Nat.le_of_ble_eq_true rfl) (v := .agg #[.int .i64 ((l0.getD y3.toNat z39).f0), .int .i64 ((l0.getD y3.toNat z39).f1)]) (by kernel_rfl)) ?_
                rw [Option.bind_eq_some_iff] at h
                obtain ⟨t19, ht20, h⟩ := h
                refine WA.op (i := 22) (m := 3) (b' := 8388607) (by kernel_rfl) hS (by kernel_rfl) (op := .call { callee := (.value (.func 86)), args := #[(.tmp 33), (.tmp 35)], argTypes := #[35, 35] }) (ty := 4) (d := some 36) (g := some (13, true)) (by kernel_rfl) (by kernel_rfl) (by kernel_rfl) (Does.call (f := 86) (args := [.agg #[.int .i64 ((l0.getD (IntKind.i64.wrap (y3 - 1)).toNat z39).f0), .int .i64 ((l0.getD (IntKind.i64.wrap (y3 - 1)).toNat z39).f1)], .agg #[.int .i64 ((l0.getD y3.toNat z39).f0), .int .i64 ((l0.getD y3.toNat z39).f1)]]) (by kernel_rfl) (fun W hI => (record_Before_calls (⟨(l0.getD (IntKind.i64.wrap (y3 - 1)).toNat z39).f0, (l0.getD (IntKind.i64.wrap (y3 - 1)).toNat z39).f1⟩ : T35) (⟨(l0.getD y3.toNat z39).f0, (l0.getD y3.toNat z39).f1⟩ : T35)  t19 ht20 hI))) ?_
                rintro _ _ _ ⟨rfl, rfl, rfl⟩
                refine ⟨_, _, Under.refl, Under.refl, ?_⟩
                refine WA.pure [23, 24, 25] [0, 1, 7, 8, 9, 39] (m := 0) (b' := 67108863) (L' := [(0, .slice Al0 l0.length cl0), (1, .int .i64 a1), (7, .slice Al0 l0.length cl0), (8, .int .i64 (l0.length : Int)), (9, .int .i64 y3), (39, .bool (!t19))]) (by kernel_rfl) (NoPanic.then (NoPanic.block (NoPanic.then (NoPanic.then (NoPanic.block (NoPanic.then (NoPanic.then (NoPanic.body)))))))) Under.refl hS (by kernel_rfl) ?_
                refine WA.done hS (by kernel_rfl) ?_
                refine QP.pick [0, 1, 7, 8, 9, 39] ?_
                refine QP.dropAt 0 ?_
                refine QP.pick [0, 1, 7, 8, 9, 39] ?_
                exact QP.meet ⟨_, Option.some.inj h, rfl, rfl, rfl⟩
              · replace hc := of_decide_eq_false hc
                rw [if_neg hc] at h
                have hc17 := hc
                clear hc
                refine WA.pure [14, 15, 16, 17, 18, 19, 20, 21, 22, 23, 24, 25] [0, 1, 7, 8, 9, 39] (m := 0) (b' := 67108863) (L' := [(0, .slice Al0 l0.length cl0), (1, .int .i64 a1), (7, .slice Al0 l0.length cl0), (8, .int .i64 (l0.length : Int)), (9, .int .i64 y3), (39, .bool false)]) (by kernel_rfl) (NoPanic.then (NoPanic.block (NoPanic.then (NoPanic.then (NoPanic.block (NoPanic.then (NoPanic.then (NoPanic.body)))))))) Under.refl hS (by kernel_rfl) ?_
                refine WA.done hS (by kernel_rfl) ?_
                refine QP.pick [0, 1, 7, 8, 9, 39] ?_
                refine QP.dropAt 0 ?_
                refine QP.pick [0, 1, 7, 8, 9, 39] ?_
                exact QP.meet ⟨_, Option.some.inj h, rfl, rfl, rfl⟩
        · rintro _ _ _ ⟨s9, rfl, rfl, rfl, rfl⟩
          clear h
          replace h := hk10
          refine WP.cond (b := s9) (by kernel_rfl) (fun hc => ?_) (fun hc => ?_)
          · replace hc := hc
            rw [if_pos hc] at h
            have hc23 := hc
            clear hc
            refine WP.seqP [4] (L' := [(4, .bool false)]) (by kernel_rfl) ?_
            refine WP.ret ?_
            refine QP.blockR ?_
            refine QP.thenR ?_
            refine QP.thenR ?_
            refine QP.blockR ?_
            refine QP.thenR ?_
            refine QP.thenR ?_
            obtain rfl := Option.some.inj h
            obtain rfl := Option.some.inj (show some _ = some _ from hk2)
            exact QP.returned [4] [.bool false] _ (by kernel_rfl) (by kernel_rfl) (by kernel_rfl) (fun W hI => ⟨_, _, _, rfl, ⟨rfl, rfl, rfl⟩, hI⟩)
          · replace hc := (Bool.eq_false_iff.1 hc)
            rw [if_neg hc] at h
            have hc23 := hc
            clear hc
            refine WP.skip ?_
            refine QP.blockN ?_
            refine QP.next ?_
            refine WP.pick [0, 1, 7, 8, 9] ?_
            refine WP.regionP [0, 1, 7, 8, 9] (L' := [(0, .slice Al0 l0.length cl0), (1, .int .i64 a1), (7, .slice Al0 l0.length cl0), (8, .int .i64 (l0.length : Int)), (9, .int .i64 (IntKind.i64.wrap (y3 + 1)))]) (by kernel_rfl) ?_
            refine QP.pick [0, 1, 7, 8, 9] ?_
            exact QP.meet ⟨kn5, Nat.lt_succ_self _, (IntKind.i64.wrap (y3 + 1)), h, rfl, rfl, rfl⟩
      · replace hc := of_decide_eq_false hc
        rw [if_neg hc] at h
        have hc6 := hc
        clear hc
        refine WP.exit ?_
        refine QP.thenE ?_
        refine QP.thenE ?_
        refine QP.blockE ?_
        refine QP.pick [] ?_
        exact QP.meet ⟨_, Option.some.inj h, rfl, rfl, rfl⟩
  · rintro _ _ _ ⟨s1, rfl, rfl, rfl, rfl⟩
    clear h
    replace h := hk2
    refine QP.next ?_
    refine WP.pick [] ?_
    refine WP.seqP [4] (L' := [(4, .bool true)]) (by kernel_rfl) ?_
    refine WP.ret ?_
    obtain rfl := Option.some.inj h
    exact QP.returned [4] [.bool true] _ (by kernel_rfl) (by kernel_rfl) (by kernel_rfl) (fun W hI => ⟨_, _, _, rfl, ⟨rfl, rfl, rfl⟩, hI⟩)

/-! ### grapevine/talk.May: function 29 -/
def talk_May (k : Nat) (a0 : T54) (a1 : Int) : Option Bool := (if a0.f0 = 1 then (((talk_place a0.f1 a1).bind fun t5 => (if t5 = true then ((talk_place a0.f2 a1).bind fun t10 => (if t10 = true then (if ¬ a0.f1 = a0.f2 then ((vector_May k a0.f3 a1).bind fun t16 => (if t16 = true then ((vector_May k a0.f4 a1).bind fun t21 => (if t21 = true then ((vector_Below k a0.f4 a0.f3).bind fun t26 => (if t26 = true then (if (a0.f5.length : Int) ≤ 0 then ((talk_rise k a0.f5 a1).bind fun t32 => some t32) else some false) else some false)) else some false)) else some false)) else some false) else some false)) else some false)).bind fun s3 => some s3) else (if a0.f0 = 2 then (((talk_place a0.f1 a1).bind fun t39 => (if t39 = true then ((talk_place a0.f2 a1).bind fun t44 => (if t44 = true then (if ¬ a0.f1 = a0.f2 then ((vector_May k a0.f3 a1).bind fun t50 => (if t50 = true then ((vector_May k a0.f4 a1).bind fun t55 => (if t55 = true then ((vector_Below k a0.f4 a0.f3).bind fun t60 => (if t60 = true then (if (a0.f5.length : Int) ≤ 5 then ((talk_rise k a0.f5 a1).bind fun t66 => some t66) else some false) else some false)) else some false)) else some false)) else some false) else some false)) else some false)).bind fun s37 => some s37) else some false))
set_option maxHeartbeats 4000000 in
theorem talk_May_calls {B : World} {G : GMap} {Γ : List Chunk} {W : World} (HT : Tabs B G) (k : Nat) (a0 : T54) (a1 : Int) (Aa0_f3 : Option Addr) (ca0_f3 : Nat) (Ha0_f3 : Rd (kInt .i64) G Aa0_f3 ca0_f3 a0.f3) (Aa0_f4 : Option Addr) (ca0_f4 : Nat) (Ha0_f4 : Rd (kInt .i64) G Aa0_f4 ca0_f4 a0.f4) (Aa0_f5 : Option Addr) (ca0_f5 : Nat) (Ha0_f5 : Rd k39 G Aa0_f5 ca0_f5 a0.f5) (r : Bool) (h : talk_May k a0 a1 = some r) (hI : Inv B G (Γ) W) :
    Calls Tryd.prog 29 [.agg #[.int .i64 a0.f0, .int .i64 a0.f1, .int .i64 a0.f2, .slice Aa0_f3 a0.f3.length ca0_f3, .slice Aa0_f4 a0.f4.length ca0_f4, .slice Aa0_f5 a0.f5.length ca0_f5], .int .i64 a1].toArray W (Ret B (fun v G' Γ' => v = .bool r ∧ G = G' ∧ Γ = Γ')) := by
  refine calls_WP (Γ := Γ) (G := G) (B := B) Tryd.func29 rfl (by kernel_rfl) ?_ hI
  clear hI
  unfold talk_May at h
  refine WP.seqR ?_
  refine WL.op (op := .box 54 (.tmp 0)) (ty := 0) (d := some 2) (g := none) (by kernel_rfl) (by kernel_rfl) (by kernel_rfl) (Does.new (o := .cells #[.int .i64 a0.f0, .int .i64 a0.f1, .int .i64 a0.f2, .slice Aa0_f3 a0.f3.length ca0_f3, .slice Aa0_f4 a0.f4.length ca0_f4, .slice Aa0_f5 a0.f5.length ca0_f5] 54 (0, 0)) (v := fun r => .pointer (some ⟨r, 0, none⟩)) (fun r => by kernel_rfl)) ?_
  rintro _ _ _ ⟨b1, rfl, rfl, rfl⟩
  refine WL.restQ 1 [1, 2] (L' := [(1, .int .i64 a1), (2, .pointer (some ⟨b1, 0, none⟩))]) (by kernel_rfl) ?_
  refine WP.seqP [1, 2, 5] (L' := [(1, .int .i64 a1), (2, .pointer (some ⟨b1, 0, none⟩)), (5, .int .i64 0)]) (by kernel_rfl) ?_
  refine WP.seq ?_
  refine WP.seqR ?_
  refine WL.pure 0 1 [1, 2, 5, 6] (L' := [(1, .int .i64 a1), (2, .pointer (some ⟨b1, 0, none⟩)), (5, .int .i64 0), (6, .pointer (some ⟨b1, 0, none⟩))]) (by kernel_rfl) (by decide) ?_
  refine WL.tell (op := .load 3 (.tmp 6)) (ty := 3) (d := some 7) (g := none) (by kernel_rfl) (by kernel_rfl) (by kernel_rfl) (Tells.load_box (i := 0) (b := b1) (o := 0) (agg := false) (by rfl) ag3 (by kernel_rfl) (fun _ => rfl) (Nat.le_of_ble_eq_true rfl) (v := .int .i64 a0.f0) (by kernel_rfl)) ?_
  refine WL.restQ 2 [1, 2, 5, 7] (L' := [(1, .int .i64 a1), (2, .pointer (some ⟨b1, 0, none⟩)), (5, .int .i64 0), (7, .int .i64 a0.f0)]) (by kernel_rfl) ?_
  refine WP.block ?_
  refine WP.seqP [1, 2, 5, 7, 8] (L' := [(1, .int .i64 a1), (2, .pointer (some ⟨b1, 0, none⟩)), (5, .int .i64 0), (7, .int .i64 a0.f0), (8, .bool (a0.f0 == 1))]) (by kernel_rfl) ?_
  refine WP.cond (b := (a0.f0 == 1)) (by kernel_rfl) (fun hc => ?_) (fun hc => ?_)
  · replace hc := eq_of_beq hc
    rw [if_pos hc] at h
    have hc2 := hc
    clear hc
    refine WP.skip ?_
    refine QP.blockN ?_
    refine QP.next ?_
    refine WP.pick [1, 2, 5] ?_
    rw [Option.bind_eq_some_iff] at h
    obtain ⟨os3, h, hk4⟩ := h
    refine WP.cut (fun L' G' Γ' => ∃ s3 : Bool, s3 = os3 ∧ L' = [(4, .bool s3)] ∧ G = G' ∧ Γ = Γ') ?_ ?_
    · clear hk4
      refine WP.region ?_
      refine WL.pure 0 1 [1, 2, 5, 12] (L' := [(1, .int .i64 a1), (2, .pointer (some ⟨b1, 0, none⟩)), (5, .int .i64 0), (12, .pointer (some ⟨b1, 1, none⟩))]) (by kernel_rfl) (by decide) ?_
      refine WL.tell (op := .load 3 (.tmp 12)) (ty := 3) (d := some 13) (g := none) (by kernel_rfl) (by kernel_rfl) (by kernel_rfl) (Tells.load_box (i := 0) (b := b1) (o := 1) (agg := false) (by rfl) ag3 (by kernel_rfl) (fun _ => rfl) (Nat.le_of_ble_eq_true rfl) (v := .int .i64 a0.f1) (by kernel_rfl)) ?_
      refine WL.pure 2 3 [1, 2, 5, 13, 14] (L' := [(1, .int .i64 a1), (2, .pointer (some ⟨b1, 0, none⟩)), (5, .int .i64 0), (13, .int .i64 a0.f1), (14, .int .i64 a1)]) (by kernel_rfl) (by decide) ?_
      rw [Option.bind_eq_some_iff] at h
      obtain ⟨t5, ht6, h⟩ := h
      refine WL.op (op := .call { callee := (.value (.func 59)), args := #[(.tmp 13), (.tmp 14)], argTypes := #[3, 3] }) (ty := 4) (d := some 15) (g := none) (by kernel_rfl) (by kernel_rfl) (by kernel_rfl) (Does.call (f := 59) (args := [.int .i64 a0.f1, .int .i64 a1]) (by kernel_rfl) (fun W hI => (talk_place_calls a0.f1 a1  t5 ht6 hI))) ?_
      rintro _ _ _ ⟨rfl, rfl, rfl⟩
      refine WL.pure 4 5 [1, 2, 5, 16] (L' := [(1, .int .i64 a1), (2, .pointer (some ⟨b1, 0, none⟩)), (5, .int .i64 0), (16, .bool t5)]) (by kernel_rfl) (by decide) ?_
      refine WL.split 16 (b := t5) (by kernel_rfl) (fun hc => ?_) (fun hc => ?_)
      · replace hc := hc
        rw [if_pos hc] at h
        have hc9 := hc
        clear hc
        refine WL.pure 5 6 [1, 2, 5, 16, 17] (L' := [(1, .int .i64 a1), (2, .pointer (some ⟨b1, 0, none⟩)), (5, .int .i64 0), (16, .bool true), (17, .pointer (some ⟨b1, 2, none⟩))]) (by kernel_rfl) (by decide) ?_
        refine WL.tell (op := .load 3 (.tmp 17)) (ty := 3) (d := some 18) (g := some (4, true)) (by kernel_rfl) (by kernel_rfl) (by kernel_rfl) (Tells.load_box (i := 0) (b := b1) (o := 2) (agg := false) (by rfl) ag3 (by kernel_rfl) (fun _ => rfl) (Nat.le_of_ble_eq_true rfl) (v := .int .i64 a0.f2) (by kernel_rfl)) ?_
        refine WL.pure 7 8 [1, 2, 5, 16, 18, 19] (L' := [(1, .int .i64 a1), (2, .pointer (some ⟨b1, 0, none⟩)), (5, .int .i64 0), (16, .bool true), (18, .int .i64 a0.f2), (19, .int .i64 a1)]) (by kernel_rfl) (by decide) ?_
        rw [Option.bind_eq_some_iff] at h
        obtain ⟨t10, ht11, h⟩ := h
        refine WL.op (op := .call { callee := (.value (.func 59)), args := #[(.tmp 18), (.tmp 19)], argTypes := #[3, 3] }) (ty := 4) (d := some 20) (g := some (4, true)) (by kernel_rfl) (by kernel_rfl) (by kernel_rfl) (Does.call (f := 59) (args := [.int .i64 a0.f2, .int .i64 a1]) (by kernel_rfl) (fun W hI => (talk_place_calls a0.f2 a1  t10 ht11 hI))) ?_
        rintro _ _ _ ⟨rfl, rfl, rfl⟩
        refine WL.pure 9 11 [1, 2, 5, 22] (L' := [(1, .int .i64 a1), (2, .pointer (some ⟨b1, 0, none⟩)), (5, .int .i64 0), (22, .bool t10)]) (by kernel_rfl) (by decide) ?_
        refine WL.split 22 (b := t10) (by kernel_rfl) (fun hc => ?_) (fun hc => ?_)
        · replace hc := hc
          rw [if_pos hc] at h
          have hc14 := hc
          clear hc
          refine WL.pure 11 12 [1, 2, 5, 22, 23] (L' := [(1, .int .i64 a1), (2, .pointer (some ⟨b1, 0, none⟩)), (5, .int .i64 0), (22, .bool true), (23, .pointer (some ⟨b1, 1, none⟩))]) (by kernel_rfl) (by decide) ?_
          refine WL.tell (op := .load 3 (.tmp 23)) (ty := 3) (d := some 24) (g := some (10, true)) (by kernel_rfl) (by kernel_rfl) (by kernel_rfl) (Tells.load_box (i := 0) (b := b1) (o := 1) (agg := false) (by rfl) ag3 (by kernel_rfl) (fun _ => rfl) (Nat.le_of_ble_eq_true rfl) (v := .int .i64 a0.f1) (by kernel_rfl)) ?_
          refine WL.pure 13 14 [1, 2, 5, 22, 24, 25] (L' := [(1, .int .i64 a1), (2, .pointer (some ⟨b1, 0, none⟩)), (5, .int .i64 0), (22, .bool true), (24, .int .i64 a0.f1), (25, .pointer (some ⟨b1, 2, none⟩))]) (by kernel_rfl) (by decide) ?_
          refine WL.tell (op := .load 3 (.tmp 25)) (ty := 3) (d := some 26) (g := some (10, true)) (by kernel_rfl) (by kernel_rfl) (by kernel_rfl) (Tells.load_box (i := 0) (b := b1) (o := 2) (agg := false) (by rfl) ag3 (by kernel_rfl) (fun _ => rfl) (Nat.le_of_ble_eq_true rfl) (v := .int .i64 a0.f2) (by kernel_rfl)) ?_
          refine WL.pure 15 18 [1, 2, 5, 29] (L' := [(1, .int .i64 a1), (2, .pointer (some ⟨b1, 0, none⟩)), (5, .int .i64 0), (29, .bool (a0.f1 != a0.f2))]) (by kernel_rfl) (by decide) ?_
          refine WL.split 29 (b := (a0.f1 != a0.f2)) (by kernel_rfl) (fun hc => ?_) (fun hc => ?_)
          · replace hc := (bne_iff_ne.1 hc)
            rw [if_pos hc] at h
            have hc15 := hc
            clear hc
            refine WL.pure 18 19 [1, 2, 5, 29, 30] (L' := [(1, .int .i64 a1), (2, .pointer (some ⟨b1, 0, none⟩)), (5, .int .i64 0), (29, .bool true), (30, .pointer (some ⟨b1, 3, none⟩))]) (by kernel_rfl) (by decide) ?_
            refine WL.tell (op := .load 32 (.tmp 30)) (ty := 32) (d := some 31) (g := some (17, true)) (by kernel_rfl) (by kernel_rfl) (by kernel_rfl) (Tells.load_box (i := 0) (b := b1) (o := 3) (agg := false) (by rfl) ag32 (by kernel_rfl) (fun _ => rfl) (Nat.le_of_ble_eq_true rfl) (v := .slice Aa0_f3 a0.f3.length ca0_f3) (by kernel_rfl)) ?_
            refine WL.pure 20 21 [1, 2, 5, 29, 31, 32] (L' := [(1, .int .i64 a1), (2, .pointer (some ⟨b1, 0, none⟩)), (5, .int .i64 0), (29, .bool true), (31, .slice Aa0_f3 a0.f3.length ca0_f3), (32, .int .i64 a1)]) (by kernel_rfl) (by decide) ?_
            rw [Option.bind_eq_some_iff] at h
            obtain ⟨t16, ht17, h⟩ := h
            refine WL.op (op := .call { callee := (.value (.func 43)), args := #[(.tmp 31), (.tmp 32)], argTypes := #[32, 3] }) (ty := 4) (d := some 33) (g := some (17, true)) (by kernel_rfl) (by kernel_rfl) (by kernel_rfl) (Does.call (f := 43) (args := [.slice Aa0_f3 a0.f3.length ca0_f3, .int .i64 a1]) (by kernel_rfl) (fun W hI => (vector_May_calls k a0.f3 a1 Aa0_f3 ca0_f3 Ha0_f3 t16 ht17 hI))) ?_
            rintro _ _ _ ⟨rfl, rfl, rfl⟩
            refine WL.pure 22 24 [1, 2, 5, 35] (L' := [(1, .int .i64 a1), (2, .pointer (some ⟨b1, 0, none⟩)), (5, .int .i64 0), (35, .bool t16)]) (by kernel_rfl) (by decide) ?_
            refine WL.split 35 (b := t16) (by kernel_rfl) (fun hc => ?_) (fun hc => ?_)
            · replace hc := hc
              rw [if_pos hc] at h
              have hc20 := hc
              clear hc
              refine WL.pure 24 25 [1, 2, 5, 35, 36] (L' := [(1, .int .i64 a1), (2, .pointer (some ⟨b1, 0, none⟩)), (5, .int .i64 0), (35, .bool true), (36, .pointer (some ⟨b1, 4, none⟩))]) (by kernel_rfl) (by decide) ?_
              refine WL.tell (op := .load 32 (.tmp 36)) (ty := 32) (d := some 37) (g := some (23, true)) (by kernel_rfl) (by kernel_rfl) (by kernel_rfl) (Tells.load_box (i := 0) (b := b1) (o := 4) (agg := false) (by rfl) ag32 (by kernel_rfl) (fun _ => rfl) (Nat.le_of_ble_eq_true rfl) (v := .slice Aa0_f4 a0.f4.length ca0_f4) (by kernel_rfl)) ?_
              refine WL.pure 26 27 [1, 2, 5, 35, 37, 38] (L' := [(1, .int .i64 a1), (2, .pointer (some ⟨b1, 0, none⟩)), (5, .int .i64 0), (35, .bool true), (37, .slice Aa0_f4 a0.f4.length ca0_f4), (38, .int .i64 a1)]) (by kernel_rfl) (by decide) ?_
              rw [Option.bind_eq_some_iff] at h
              obtain ⟨t21, ht22, h⟩ := h
              refine WL.op (op := .call { callee := (.value (.func 43)), args := #[(.tmp 37), (.tmp 38)], argTypes := #[32, 3] }) (ty := 4) (d := some 39) (g := some (23, true)) (by kernel_rfl) (by kernel_rfl) (by kernel_rfl) (Does.call (f := 43) (args := [.slice Aa0_f4 a0.f4.length ca0_f4, .int .i64 a1]) (by kernel_rfl) (fun W hI => (vector_May_calls k a0.f4 a1 Aa0_f4 ca0_f4 Ha0_f4 t21 ht22 hI))) ?_
              rintro _ _ _ ⟨rfl, rfl, rfl⟩
              refine WL.pure 28 30 [1, 2, 5, 41] (L' := [(1, .int .i64 a1), (2, .pointer (some ⟨b1, 0, none⟩)), (5, .int .i64 0), (41, .bool t21)]) (by kernel_rfl) (by decide) ?_
              refine WL.split 41 (b := t21) (by kernel_rfl) (fun hc => ?_) (fun hc => ?_)
              · replace hc := hc
                rw [if_pos hc] at h
                have hc25 := hc
                clear hc
                refine WL.pure 30 31 [1, 2, 5, 41, 42] (L' := [(1, .int .i64 a1), (2, .pointer (some ⟨b1, 0, none⟩)), (5, .int .i64 0), (41, .bool true), (42, .pointer (some ⟨b1, 4, none⟩))]) (by kernel_rfl) (by decide) ?_
                refine WL.tell (op := .load 32 (.tmp 42)) (ty := 32) (d := some 43) (g := some (29, true)) (by kernel_rfl) (by kernel_rfl) (by kernel_rfl) (Tells.load_box (i := 0) (b := b1) (o := 4) (agg := false) (by rfl) ag32 (by kernel_rfl) (fun _ => rfl) (Nat.le_of_ble_eq_true rfl) (v := .slice Aa0_f4 a0.f4.length ca0_f4) (by kernel_rfl)) ?_
                refine WL.pure 32 33 [1, 2, 5, 41, 43, 44] (L' := [(1, .int .i64 a1), (2, .pointer (some ⟨b1, 0, none⟩)), (5, .int .i64 0), (41, .bool true), (43, .slice Aa0_f4 a0.f4.length ca0_f4), (44, .pointer (some ⟨b1, 3, none⟩))]) (by kernel_rfl) (by decide) ?_
                refine WL.tell (op := .load 32 (.tmp 44)) (ty := 32) (d := some 45) (g := some (29, true)) (by kernel_rfl) (by kernel_rfl) (by kernel_rfl) (Tells.load_box (i := 0) (b := b1) (o := 3) (agg := false) (by rfl) ag32 (by kernel_rfl) (fun _ => rfl) (Nat.le_of_ble_eq_true rfl) (v := .slice Aa0_f3 a0.f3.length ca0_f3) (by kernel_rfl)) ?_
                rw [Option.bind_eq_some_iff] at h
                obtain ⟨t26, ht27, h⟩ := h
                refine WL.op (op := .call { callee := (.value (.func 44)), args := #[(.tmp 43), (.tmp 45)], argTypes := #[32, 32] }) (ty := 4) (d := some 46) (g := some (29, true)) (by kernel_rfl) (by kernel_rfl) (by kernel_rfl) (Does.call (f := 44) (args := [.slice Aa0_f4 a0.f4.length ca0_f4, .slice Aa0_f3 a0.f3.length ca0_f3]) (by kernel_rfl) (fun W hI => (vector_Below_calls k a0.f4 a0.f3 Aa0_f4 ca0_f4 Ha0_f4 Aa0_f3 ca0_f3 Ha0_f3 t26 ht27 hI))) ?_
                rintro _ _ _ ⟨rfl, rfl, rfl⟩
                refine WL.pure 35 37 [1, 2, 5, 48] (L' := [(1, .int .i64 a1), (2, .pointer (some ⟨b1, 0, none⟩)), (5, .int .i64 0), (48, .bool t26)]) (by kernel_rfl) (by decide) ?_
                refine WL.split 48 (b := t26) (by kernel_rfl) (fun hc => ?_) (fun hc => ?_)
                · replace hc := hc
                  rw [if_pos hc] at h
                  have hc30 := hc
                  clear hc
                  refine WL.pure 37 38 [1, 2, 5, 48, 49] (L' := [(1, .int .i64 a1), (2, .pointer (some ⟨b1, 0, none⟩)), (5, .int .i64 0), (48, .bool true), (49, .pointer (some ⟨b1, 5, none⟩))]) (by kernel_rfl) (by decide) ?_
                  refine WL.tell (op := .load 52 (.tmp 49)) (ty := 52) (d := some 50) (g := some (36, true)) (by kernel_rfl) (by kernel_rfl) (by kernel_rfl) (Tells.load_box (i := 0) (b := b1) (o := 5) (agg := false) (by rfl) ag52 (by kernel_rfl) (fun _ => rfl) (Nat.le_of_ble_eq_true rfl) (v := .slice Aa0_f5 a0.f5.length ca0_f5) (by kernel_rfl)) ?_
                  refine WL.pure 39 44 [1, 2, 55] (L' := [(1, .int .i64 a1), (2, .pointer (some ⟨b1, 0, none⟩)), (55, .bool (decide ((a0.f5.length : Int) ≤ 0)))]) (by kernel_rfl) (by decide) ?_
                  refine WL.split 55 (b := decide ((a0.f5.length : Int) ≤ 0)) (by kernel_rfl) (fun hc => ?_) (fun hc => ?_)
                  · replace hc := of_decide_eq_true hc
                    rw [if_pos hc] at h
                    have hc31 := hc
                    clear hc
                    refine WL.pure 44 45 [1, 55, 56] (L' := [(1, .int .i64 a1), (55, .bool true), (56, .pointer (some ⟨b1, 5, none⟩))]) (by kernel_rfl) (by decide) ?_
                    refine WL.tell (op := .load 52 (.tmp 56)) (ty := 52) (d := some 57) (g := some (43, true)) (by kernel_rfl) (by kernel_rfl) (by kernel_rfl) (Tells.load_box (i := 0) (b := b1) (o := 5) (agg := false) (by rfl) ag52 (by kernel_rfl) (fun _ => rfl) (Nat.le_of_ble_eq_true rfl) (v := .slice Aa0_f5 a0.f5.length ca0_f5) (by kernel_rfl)) ?_
                    refine WL.pure 46 47 [55, 57, 58] (L' := [(55, .bool true), (57, .slice Aa0_f5 a0.f5.length ca0_f5), (58, .int .i64 a1)]) (by kernel_rfl) (by decide) ?_
                    rw [Option.bind_eq_some_iff] at h
                    obtain ⟨t32, ht33, h⟩ := h
                    refine WL.op (op := .call { callee := (.value (.func 60)), args := #[(.tmp 57), (.tmp 58)], argTypes := #[52, 3] }) (ty := 4) (d := some 59) (g := some (43, true)) (by kernel_rfl) (by kernel_rfl) (by kernel_rfl) (Does.call (f := 60) (args := [.slice Aa0_f5 a0.f5.length ca0_f5, .int .i64 a1]) (by kernel_rfl) (fun W hI => (talk_rise_calls HT k a0.f5 a1 Aa0_f5 ca0_f5 Ha0_f5 t32 ht33 hI))) ?_
                    rintro _ _ _ ⟨rfl, rfl, rfl⟩
                    refine WL.rest 48 [4] (L' := [(4, .bool t32)]) (by kernel_rfl) ?_
                    refine QP.dropAt 0 ?_
                    refine QP.pick [4] ?_
                    exact QP.meet ⟨_, Option.some.inj h, rfl, rfl, rfl⟩
                  · replace hc := of_decide_eq_false hc
                    rw [if_neg hc] at h
                    have hc31 := hc
                    clear hc
                    refine WL.rest 44 [4] (L' := [(4, .bool false)]) (by kernel_rfl) ?_
                    refine QP.dropAt 0 ?_
                    refine QP.pick [4] ?_
                    exact QP.meet ⟨_, Option.some.inj h, rfl, rfl, rfl⟩
                · replace hc := (Bool.eq_false_iff.1 hc)
                  rw [if_neg hc] at h
                  have hc30 := hc
                  clear hc
                  refine WL.rest 37 [4] (L' := [(4, .bool false)]) (by kernel_rfl) ?_
                  refine QP.dropAt 0 ?_
                  refine QP.pick [4] ?_
                  exact QP.meet ⟨_, Option.some.inj h, rfl, rfl, rfl⟩
              · replace hc := (Bool.eq_false_iff.1 hc)
                rw [if_neg hc] at h
                have hc25 := hc
                clear hc
                refine WL.rest 30 [4] (L' := [(4, .bool false)]) (by kernel_rfl) ?_
                refine QP.dropAt 0 ?_
                refine QP.pick [4] ?_
                exact QP.meet ⟨_, Option.some.inj h, rfl, rfl, rfl⟩
            · replace hc := (Bool.eq_false_iff.1 hc)
              rw [if_neg hc] at h
              have hc20 := hc
              clear hc
              refine WL.rest 24 [4] (L' := [(4, .bool false)]) (by kernel_rfl) ?_
              refine QP.dropAt 0 ?_
              refine QP.pick [4] ?_
              exact QP.meet ⟨_, Option.some.inj h, rfl, rfl, rfl⟩
          · replace hc := (not_not_intro (bne_eq_false_iff_eq.1 hc))
            rw [if_neg hc] at h
            have hc15 := hc
            clear hc
            refine WL.rest 18 [4] (L' := [(4, .bool false)]) (by kernel_rfl) ?_
            refine QP.dropAt 0 ?_
            refine QP.pick [4] ?_
            exact QP.meet ⟨_, Option.some.inj h, rfl, rfl, rfl⟩
        · replace hc := (Bool.eq_false_iff.1 hc)
          rw [if_neg hc] at h
          have hc14 := hc
          clear hc
          refine WL.rest 11 [4] (L' := [(4, .bool false)]) (by kernel_rfl) ?_
          refine QP.dropAt 0 ?_
          refine QP.pick [4] ?_
          exact QP.meet ⟨_, Option.some.inj h, rfl, rfl, rfl⟩
      · replace hc := (Bool.eq_false_iff.1 hc)
        rw [if_neg hc] at h
        have hc9 := hc
        clear hc
        refine WL.rest 5 [4] (L' := [(4, .bool false)]) (by kernel_rfl) ?_
        refine QP.dropAt 0 ?_
        refine QP.pick [4] ?_
        exact QP.meet ⟨_, Option.some.inj h, rfl, rfl, rfl⟩
    · rintro _ _ _ ⟨s3, rfl, rfl, rfl, rfl⟩
      clear h
      replace h := hk4
      refine WP.ret ?_
      obtain rfl := Option.some.inj h
      exact QP.returned [4] [.bool s3] _ (by kernel_rfl) (by kernel_rfl) (by kernel_rfl) (fun W hI => ⟨_, _, _, rfl, ⟨rfl, rfl, rfl⟩, hI⟩)
  · replace hc := ne_of_beq_false hc
    rw [if_neg hc] at h
    have hc2 := hc
    clear hc
    refine WP.seqP [1, 2, 10] (L' := [(1, .int .i64 a1), (2, .pointer (some ⟨b1, 0, none⟩)), (10, .bool (a0.f0 == 2))]) (by kernel_rfl) ?_
    refine WP.cond (b := (a0.f0 == 2)) (by kernel_rfl) (fun hc => ?_) (fun hc => ?_)
    · replace hc := eq_of_beq hc
      rw [if_pos hc] at h
      have hc36 := hc
      clear hc
      refine WP.regionP [1, 2, 5] (L' := [(1, .int .i64 a1), (2, .pointer (some ⟨b1, 0, none⟩)), (5, .int .i64 5)]) (by kernel_rfl) ?_
      refine QP.blockN ?_
      refine QP.next ?_
      refine WP.pick [1, 2, 5] ?_
      rw [Option.bind_eq_some_iff] at h
      obtain ⟨os37, h, hk38⟩ := h
      refine WP.cut (fun L' G' Γ' => ∃ s37 : Bool, s37 = os37 ∧ L' = [(4, .bool s37)] ∧ G = G' ∧ Γ = Γ') ?_ ?_
      · clear hk38
        refine WP.region ?_
        refine WL.pure 0 1 [1, 2, 5, 12] (L' := [(1, .int .i64 a1), (2, .pointer (some ⟨b1, 0, none⟩)), (5, .int .i64 5), (12, .pointer (some ⟨b1, 1, none⟩))]) (by kernel_rfl) (by decide) ?_
        refine WL.tell (op := .load 3 (.tmp 12)) (ty := 3) (d := some 13) (g := none) (by kernel_rfl) (by kernel_rfl) (by kernel_rfl) (Tells.load_box (i := 0) (b := b1) (o := 1) (agg := false) (by rfl) ag3 (by kernel_rfl) (fun _ => rfl) (Nat.le_of_ble_eq_true rfl) (v := .int .i64 a0.f1) (by kernel_rfl)) ?_
        refine WL.pure 2 3 [1, 2, 5, 13, 14] (L' := [(1, .int .i64 a1), (2, .pointer (some ⟨b1, 0, none⟩)), (5, .int .i64 5), (13, .int .i64 a0.f1), (14, .int .i64 a1)]) (by kernel_rfl) (by decide) ?_
        rw [Option.bind_eq_some_iff] at h
        obtain ⟨t39, ht40, h⟩ := h
        refine WL.op (op := .call { callee := (.value (.func 59)), args := #[(.tmp 13), (.tmp 14)], argTypes := #[3, 3] }) (ty := 4) (d := some 15) (g := none) (by kernel_rfl) (by kernel_rfl) (by kernel_rfl) (Does.call (f := 59) (args := [.int .i64 a0.f1, .int .i64 a1]) (by kernel_rfl) (fun W hI => (talk_place_calls a0.f1 a1  t39 ht40 hI))) ?_
        rintro _ _ _ ⟨rfl, rfl, rfl⟩
        refine WL.pure 4 5 [1, 2, 5, 16] (L' := [(1, .int .i64 a1), (2, .pointer (some ⟨b1, 0, none⟩)), (5, .int .i64 5), (16, .bool t39)]) (by kernel_rfl) (by decide) ?_
        refine WL.split 16 (b := t39) (by kernel_rfl) (fun hc => ?_) (fun hc => ?_)
        · replace hc := hc
          rw [if_pos hc] at h
          have hc43 := hc
          clear hc
          refine WL.pure 5 6 [1, 2, 5, 16, 17] (L' := [(1, .int .i64 a1), (2, .pointer (some ⟨b1, 0, none⟩)), (5, .int .i64 5), (16, .bool true), (17, .pointer (some ⟨b1, 2, none⟩))]) (by kernel_rfl) (by decide) ?_
          refine WL.tell (op := .load 3 (.tmp 17)) (ty := 3) (d := some 18) (g := some (4, true)) (by kernel_rfl) (by kernel_rfl) (by kernel_rfl) (Tells.load_box (i := 0) (b := b1) (o := 2) (agg := false) (by rfl) ag3 (by kernel_rfl) (fun _ => rfl) (Nat.le_of_ble_eq_true rfl) (v := .int .i64 a0.f2) (by kernel_rfl)) ?_
          refine WL.pure 7 8 [1, 2, 5, 16, 18, 19] (L' := [(1, .int .i64 a1), (2, .pointer (some ⟨b1, 0, none⟩)), (5, .int .i64 5), (16, .bool true), (18, .int .i64 a0.f2), (19, .int .i64 a1)]) (by kernel_rfl) (by decide) ?_
          rw [Option.bind_eq_some_iff] at h
          obtain ⟨t44, ht45, h⟩ := h
          refine WL.op (op := .call { callee := (.value (.func 59)), args := #[(.tmp 18), (.tmp 19)], argTypes := #[3, 3] }) (ty := 4) (d := some 20) (g := some (4, true)) (by kernel_rfl) (by kernel_rfl) (by kernel_rfl) (Does.call (f := 59) (args := [.int .i64 a0.f2, .int .i64 a1]) (by kernel_rfl) (fun W hI => (talk_place_calls a0.f2 a1  t44 ht45 hI))) ?_
          rintro _ _ _ ⟨rfl, rfl, rfl⟩
          refine WL.pure 9 11 [1, 2, 5, 22] (L' := [(1, .int .i64 a1), (2, .pointer (some ⟨b1, 0, none⟩)), (5, .int .i64 5), (22, .bool t44)]) (by kernel_rfl) (by decide) ?_
          refine WL.split 22 (b := t44) (by kernel_rfl) (fun hc => ?_) (fun hc => ?_)
          · replace hc := hc
            rw [if_pos hc] at h
            have hc48 := hc
            clear hc
            refine WL.pure 11 12 [1, 2, 5, 22, 23] (L' := [(1, .int .i64 a1), (2, .pointer (some ⟨b1, 0, none⟩)), (5, .int .i64 5), (22, .bool true), (23, .pointer (some ⟨b1, 1, none⟩))]) (by kernel_rfl) (by decide) ?_
            refine WL.tell (op := .load 3 (.tmp 23)) (ty := 3) (d := some 24) (g := some (10, true)) (by kernel_rfl) (by kernel_rfl) (by kernel_rfl) (Tells.load_box (i := 0) (b := b1) (o := 1) (agg := false) (by rfl) ag3 (by kernel_rfl) (fun _ => rfl) (Nat.le_of_ble_eq_true rfl) (v := .int .i64 a0.f1) (by kernel_rfl)) ?_
            refine WL.pure 13 14 [1, 2, 5, 22, 24, 25] (L' := [(1, .int .i64 a1), (2, .pointer (some ⟨b1, 0, none⟩)), (5, .int .i64 5), (22, .bool true), (24, .int .i64 a0.f1), (25, .pointer (some ⟨b1, 2, none⟩))]) (by kernel_rfl) (by decide) ?_
            refine WL.tell (op := .load 3 (.tmp 25)) (ty := 3) (d := some 26) (g := some (10, true)) (by kernel_rfl) (by kernel_rfl) (by kernel_rfl) (Tells.load_box (i := 0) (b := b1) (o := 2) (agg := false) (by rfl) ag3 (by kernel_rfl) (fun _ => rfl) (Nat.le_of_ble_eq_true rfl) (v := .int .i64 a0.f2) (by kernel_rfl)) ?_
            refine WL.pure 15 18 [1, 2, 5, 29] (L' := [(1, .int .i64 a1), (2, .pointer (some ⟨b1, 0, none⟩)), (5, .int .i64 5), (29, .bool (a0.f1 != a0.f2))]) (by kernel_rfl) (by decide) ?_
            refine WL.split 29 (b := (a0.f1 != a0.f2)) (by kernel_rfl) (fun hc => ?_) (fun hc => ?_)
            · replace hc := (bne_iff_ne.1 hc)
              rw [if_pos hc] at h
              have hc49 := hc
              clear hc
              refine WL.pure 18 19 [1, 2, 5, 29, 30] (L' := [(1, .int .i64 a1), (2, .pointer (some ⟨b1, 0, none⟩)), (5, .int .i64 5), (29, .bool true), (30, .pointer (some ⟨b1, 3, none⟩))]) (by kernel_rfl) (by decide) ?_
              refine WL.tell (op := .load 32 (.tmp 30)) (ty := 32) (d := some 31) (g := some (17, true)) (by kernel_rfl) (by kernel_rfl) (by kernel_rfl) (Tells.load_box (i := 0) (b := b1) (o := 3) (agg := false) (by rfl) ag32 (by kernel_rfl) (fun _ => rfl) (Nat.le_of_ble_eq_true rfl) (v := .slice Aa0_f3 a0.f3.length ca0_f3) (by kernel_rfl)) ?_
              refine WL.pure 20 21 [1, 2, 5, 29, 31, 32] (L' := [(1, .int .i64 a1), (2, .pointer (some ⟨b1, 0, none⟩)), (5, .int .i64 5), (29, .bool true), (31, .slice Aa0_f3 a0.f3.length ca0_f3), (32, .int .i64 a1)]) (by kernel_rfl) (by decide) ?_
              rw [Option.bind_eq_some_iff] at h
              obtain ⟨t50, ht51, h⟩ := h
              refine WL.op (op := .call { callee := (.value (.func 43)), args := #[(.tmp 31), (.tmp 32)], argTypes := #[32, 3] }) (ty := 4) (d := some 33) (g := some (17, true)) (by kernel_rfl) (by kernel_rfl) (by kernel_rfl) (Does.call (f := 43) (args := [.slice Aa0_f3 a0.f3.length ca0_f3, .int .i64 a1]) (by kernel_rfl) (fun W hI => (vector_May_calls k a0.f3 a1 Aa0_f3 ca0_f3 Ha0_f3 t50 ht51 hI))) ?_
              rintro _ _ _ ⟨rfl, rfl, rfl⟩
              refine WL.pure 22 24 [1, 2, 5, 35] (L' := [(1, .int .i64 a1), (2, .pointer (some ⟨b1, 0, none⟩)), (5, .int .i64 5), (35, .bool t50)]) (by kernel_rfl) (by decide) ?_
              refine WL.split 35 (b := t50) (by kernel_rfl) (fun hc => ?_) (fun hc => ?_)
              · replace hc := hc
                rw [if_pos hc] at h
                have hc54 := hc
                clear hc
                refine WL.pure 24 25 [1, 2, 5, 35, 36] (L' := [(1, .int .i64 a1), (2, .pointer (some ⟨b1, 0, none⟩)), (5, .int .i64 5), (35, .bool true), (36, .pointer (some ⟨b1, 4, none⟩))]) (by kernel_rfl) (by decide) ?_
                refine WL.tell (op := .load 32 (.tmp 36)) (ty := 32) (d := some 37) (g := some (23, true)) (by kernel_rfl) (by kernel_rfl) (by kernel_rfl) (Tells.load_box (i := 0) (b := b1) (o := 4) (agg := false) (by rfl) ag32 (by kernel_rfl) (fun _ => rfl) (Nat.le_of_ble_eq_true rfl) (v := .slice Aa0_f4 a0.f4.length ca0_f4) (by kernel_rfl)) ?_
                refine WL.pure 26 27 [1, 2, 5, 35, 37, 38] (L' := [(1, .int .i64 a1), (2, .pointer (some ⟨b1, 0, none⟩)), (5, .int .i64 5), (35, .bool true), (37, .slice Aa0_f4 a0.f4.length ca0_f4), (38, .int .i64 a1)]) (by kernel_rfl) (by decide) ?_
                rw [Option.bind_eq_some_iff] at h
                obtain ⟨t55, ht56, h⟩ := h
                refine WL.op (op := .call { callee := (.value (.func 43)), args := #[(.tmp 37), (.tmp 38)], argTypes := #[32, 3] }) (ty := 4) (d := some 39) (g := some (23, true)) (by kernel_rfl) (by kernel_rfl) (by kernel_rfl) (Does.call (f := 43) (args := [.slice Aa0_f4 a0.f4.length ca0_f4, .int .i64 a1]) (by kernel_rfl) (fun W hI => (vector_May_calls k a0.f4 a1 Aa0_f4 ca0_f4 Ha0_f4 t55 ht56 hI))) ?_
                rintro _ _ _ ⟨rfl, rfl, rfl⟩
                refine WL.pure 28 30 [1, 2, 5, 41] (L' := [(1, .int .i64 a1), (2, .pointer (some ⟨b1, 0, none⟩)), (5, .int .i64 5), (41, .bool t55)]) (by kernel_rfl) (by decide) ?_
                refine WL.split 41 (b := t55) (by kernel_rfl) (fun hc => ?_) (fun hc => ?_)
                · replace hc := hc
                  rw [if_pos hc] at h
                  have hc59 := hc
                  clear hc
                  refine WL.pure 30 31 [1, 2, 5, 41, 42] (L' := [(1, .int .i64 a1), (2, .pointer (some ⟨b1, 0, none⟩)), (5, .int .i64 5), (41, .bool true), (42, .pointer (some ⟨b1, 4, none⟩))]) (by kernel_rfl) (by decide) ?_
                  refine WL.tell (op := .load 32 (.tmp 42)) (ty := 32) (d := some 43) (g := some (29, true)) (by kernel_rfl) (by kernel_rfl) (by kernel_rfl) (Tells.load_box (i := 0) (b := b1) (o := 4) (agg := false) (by rfl) ag32 (by kernel_rfl) (fun _ => rfl) (Nat.le_of_ble_eq_true rfl) (v := .slice Aa0_f4 a0.f4.length ca0_f4) (by kernel_rfl)) ?_
                  refine WL.pure 32 33 [1, 2, 5, 41, 43, 44] (L' := [(1, .int .i64 a1), (2, .pointer (some ⟨b1, 0, none⟩)), (5, .int .i64 5), (41, .bool true), (43, .slice Aa0_f4 a0.f4.length ca0_f4), (44, .pointer (some ⟨b1, 3, none⟩))]) (by kernel_rfl) (by decide) ?_
                  refine WL.tell (op := .load 32 (.tmp 44)) (ty := 32) (d := some 45) (g := some (29, true)) (by kernel_rfl) (by kernel_rfl) (by kernel_rfl) (Tells.load_box (i := 0) (b := b1) (o := 3) (agg := false) (by rfl) ag32 (by kernel_rfl) (fun _ => rfl) (Nat.le_of_ble_eq_true rfl) (v := .slice Aa0_f3 a0.f3.length ca0_f3) (by kernel_rfl)) ?_
                  rw [Option.bind_eq_some_iff] at h
                  obtain ⟨t60, ht61, h⟩ := h
                  refine WL.op (op := .call { callee := (.value (.func 44)), args := #[(.tmp 43), (.tmp 45)], argTypes := #[32, 32] }) (ty := 4) (d := some 46) (g := some (29, true)) (by kernel_rfl) (by kernel_rfl) (by kernel_rfl) (Does.call (f := 44) (args := [.slice Aa0_f4 a0.f4.length ca0_f4, .slice Aa0_f3 a0.f3.length ca0_f3]) (by kernel_rfl) (fun W hI => (vector_Below_calls k a0.f4 a0.f3 Aa0_f4 ca0_f4 Ha0_f4 Aa0_f3 ca0_f3 Ha0_f3 t60 ht61 hI))) ?_
                  rintro _ _ _ ⟨rfl, rfl, rfl⟩
                  refine WL.pure 35 37 [1, 2, 5, 48] (L' := [(1, .int .i64 a1), (2, .pointer (some ⟨b1, 0, none⟩)), (5, .int .i64 5), (48, .bool t60)]) (by kernel_rfl) (by decide) ?_
                  refine WL.split 48 (b := t60) (by kernel_rfl) (fun hc => ?_) (fun hc => ?_)
                  · replace hc := hc
                    rw [if_pos hc] at h
                    have hc64 := hc
                    clear hc
                    refine WL.pure 37 38 [1, 2, 5, 48, 49] (L' := [(1, .int .i64 a1), (2, .pointer (some ⟨b1, 0, none⟩)), (5, .int .i64 5), (48, .bool true), (49, .pointer (some ⟨b1, 5, none⟩))]) (by kernel_rfl) (by decide) ?_
                    refine WL.tell (op := .load 52 (.tmp 49)) (ty := 52) (d := some 50) (g := some (36, true)) (by kernel_rfl) (by kernel_rfl) (by kernel_rfl) (Tells.load_box (i := 0) (b := b1) (o := 5) (agg := false) (by rfl) ag52 (by kernel_rfl) (fun _ => rfl) (Nat.le_of_ble_eq_true rfl) (v := .slice Aa0_f5 a0.f5.length ca0_f5) (by kernel_rfl)) ?_
                    refine WL.pure 39 44 [1, 2, 55] (L' := [(1, .int .i64 a1), (2, .pointer (some ⟨b1, 0, none⟩)), (55, .bool (decide ((a0.f5.length : Int) ≤ 5)))]) (by kernel_rfl) (by decide) ?_
                    refine WL.split 55 (b := decide ((a0.f5.length : Int) ≤ 5)) (by kernel_rfl) (fun hc => ?_) (fun hc => ?_)
                    · replace hc := of_decide_eq_true hc
                      rw [if_pos hc] at h
                      have hc65 := hc
                      clear hc
                      refine WL.pure 44 45 [1, 55, 56] (L' := [(1, .int .i64 a1), (55, .bool true), (56, .pointer (some ⟨b1, 5, none⟩))]) (by kernel_rfl) (by decide) ?_
                      refine WL.tell (op := .load 52 (.tmp 56)) (ty := 52) (d := some 57) (g := some (43, true)) (by kernel_rfl) (by kernel_rfl) (by kernel_rfl) (Tells.load_box (i := 0) (b := b1) (o := 5) (agg := false) (by rfl) ag52 (by kernel_rfl) (fun _ => rfl) (Nat.le_of_ble_eq_true rfl) (v := .slice Aa0_f5 a0.f5.length ca0_f5) (by kernel_rfl)) ?_
                      refine WL.pure 46 47 [55, 57, 58] (L' := [(55, .bool true), (57, .slice Aa0_f5 a0.f5.length ca0_f5), (58, .int .i64 a1)]) (by kernel_rfl) (by decide) ?_
                      rw [Option.bind_eq_some_iff] at h
                      obtain ⟨t66, ht67, h⟩ := h
                      refine WL.op (op := .call { callee := (.value (.func 60)), args := #[(.tmp 57), (.tmp 58)], argTypes := #[52, 3] }) (ty := 4) (d := some 59) (g := some (43, true)) (by kernel_rfl) (by kernel_rfl) (by kernel_rfl) (Does.call (f := 60) (args := [.slice Aa0_f5 a0.f5.length ca0_f5, .int .i64 a1]) (by kernel_rfl) (fun W hI => (talk_rise_calls HT k a0.f5 a1 Aa0_f5 ca0_f5 Ha0_f5 t66 ht67 hI))) ?_
                      rintro _ _ _ ⟨rfl, rfl, rfl⟩
                      refine WL.rest 48 [4] (L' := [(4, .bool t66)]) (by kernel_rfl) ?_
                      refine QP.dropAt 0 ?_
                      refine QP.pick [4] ?_
                      exact QP.meet ⟨_, Option.some.inj h, rfl, rfl, rfl⟩
                    · replace hc := of_decide_eq_false hc
                      rw [if_neg hc] at h
                      have hc65 := hc
                      clear hc
                      refine WL.rest 44 [4] (L' := [(4, .bool false)]) (by kernel_rfl) ?_
                      refine QP.dropAt 0 ?_
                      refine QP.pick [4] ?_
                      exact QP.meet ⟨_, Option.some.inj h, rfl, rfl, rfl⟩
                  · replace hc := (Bool.eq_false_iff.1 hc)
                    rw [if_neg hc] at h
                    have hc64 := hc
                    clear hc
                    refine WL.rest 37 [4] (L' := [(4, .bool false)]) (by kernel_rfl) ?_
                    refine QP.dropAt 0 ?_
                    refine QP.pick [4] ?_
                    exact QP.meet ⟨_, Option.some.inj h, rfl, rfl, rfl⟩
                · replace hc := (Bool.eq_false_iff.1 hc)
                  rw [if_neg hc] at h
                  have hc59 := hc
                  clear hc
                  refine WL.rest 30 [4] (L' := [(4, .bool false)]) (by kernel_rfl) ?_
                  refine QP.dropAt 0 ?_
                  refine QP.pick [4] ?_
                  exact QP.meet ⟨_, Option.some.inj h, rfl, rfl, rfl⟩
              · replace hc := (Bool.eq_false_iff.1 hc)
                rw [if_neg hc] at h
                have hc54 := hc
                clear hc
                refine WL.rest 24 [4] (L' := [(4, .bool false)]) (by kernel_rfl) ?_
                refine QP.dropAt 0 ?_
                refine QP.pick [4] ?_
                exact QP.meet ⟨_, Option.some.inj h, rfl, rfl, rfl⟩
            · replace hc := (not_not_intro (bne_eq_false_iff_eq.1 hc))
              rw [if_neg hc] at h
              have hc49 := hc
              clear hc
              refine WL.rest 18 [4] (L' := [(4, .bool false)]) (by kernel_rfl) ?_
              refine QP.dropAt 0 ?_
              refine QP.pick [4] ?_
              exact QP.meet ⟨_, Option.some.inj h, rfl, rfl, rfl⟩
          · replace hc := (Bool.eq_false_iff.1 hc)
            rw [if_neg hc] at h
            have hc48 := hc
            clear hc
            refine WL.rest 11 [4] (L' := [(4, .bool false)]) (by kernel_rfl) ?_
            refine QP.dropAt 0 ?_
            refine QP.pick [4] ?_
            exact QP.meet ⟨_, Option.some.inj h, rfl, rfl, rfl⟩
        · replace hc := (Bool.eq_false_iff.1 hc)
          rw [if_neg hc] at h
          have hc43 := hc
          clear hc
          refine WL.rest 5 [4] (L' := [(4, .bool false)]) (by kernel_rfl) ?_
          refine QP.dropAt 0 ?_
          refine QP.pick [4] ?_
          exact QP.meet ⟨_, Option.some.inj h, rfl, rfl, rfl⟩
      · rintro _ _ _ ⟨s37, rfl, rfl, rfl, rfl⟩
        clear h
        replace h := hk38
        refine WP.ret ?_
        obtain rfl := Option.some.inj h
        exact QP.returned [4] [.bool s37] _ (by kernel_rfl) (by kernel_rfl) (by kernel_rfl) (fun W hI => ⟨_, _, _, rfl, ⟨rfl, rfl, rfl⟩, hI⟩)
    · replace hc := ne_of_beq_false hc
      rw [if_neg hc] at h
      have hc36 := hc
      clear hc
      refine WP.seqP [4] (L' := [(4, .bool false)]) (by kernel_rfl) ?_
      refine WP.dropAt 0 ?_
      refine WP.ret ?_
      refine QP.blockR ?_
      refine QP.thenR ?_
      obtain rfl := Option.some.inj h
      exact QP.returned [4] [.bool false] _ (by kernel_rfl) (by kernel_rfl) (by kernel_rfl) (fun W hI => ⟨_, _, _, rfl, ⟨rfl, rfl, rfl⟩, hI⟩)

/-! ### slices.Grow[[]int,int]: function 84 -/
def slices_Grow_int_int (a1 : Int) : Option (List Int) := (if a1 < 0 then none else (if (IntKind.i64.wrap (a1 - 0)) > 0 then (if 0 ≤ (IntKind.i64.wrap (a1 - 0)) ∧ (IntKind.i64.wrap (a1 - 0)) ≤ 1073741824 then (if 0 ≤ (0 : Int) ∧ (0 : Int) ≤ (0 : Int) ∧ (0 : Int) ≤ ((List.replicate (IntKind.i64.wrap (a1 - 0)).toNat (0 : Int)).length : Int) then some ((List.replicate (IntKind.i64.wrap (a1 - 0)).toNat (0 : Int)).take (0 : Int).toNat) else none) else none) else some ([] : List Int)))
set_option maxHeartbeats 4000000 in
theorem slices_Grow_int_int_calls {B : World} {G : GMap} {Γ : List Chunk} {W : World} (a1 : Int) (r : List Int) (h : slices_Grow_int_int a1 = some r) (hI : Inv B G (Γ) W) :
    Calls Tryd.prog 84 [.slice none 0 0, .int .i64 a1].toArray W (Ret B (fun v G' Γ' => ∃ (AR : Option Addr), ∃ (cR : Nat), ∃ (CR : Chunk), v = .slice AR r.length cR ∧ Ow (kInt .i64) G' AR cR r CR ∧ G = G' ∧ CR :: Γ = Γ')) := by
  refine calls_WP (Γ := Γ) (G := G) (B := B) Tryd.func84 rfl (by kernel_rfl) ?_ hI
  clear hI
  unfold slices_Grow_int_int at h
  refine WP.seqP [0, 1] (L' := [(0, .slice none 0 0), (1, .int .i64 a1)]) (by kernel_rfl) ?_
  refine WP.seq ?_
  refine WP.seqP [0, 1, 6] (L' := [(0, .slice none 0 0), (1, .int .i64 a1), (6, .bool (decide (a1 < 0)))]) (by kernel_rfl) ?_
  refine WP.cond (b := decide (a1 < 0)) (by kernel_rfl) (fun hc => ?_) (fun hc => ?_)
  · replace hc := of_decide_eq_true hc
    rw [if_pos hc] at h
    have hc1 := hc
    clear hc
    refine WP.region ?_
    cases h
  · replace hc := of_decide_eq_false hc
    rw [if_neg hc] at h
    have hc1 := hc
    clear hc
    refine WP.skip ?_
    refine QP.next ?_
    refine WP.pick [0, 1] ?_
    refine WP.seq ?_
    refine WP.seqP [0, 1] (L' := [(0, .slice none 0 0), (1, .int .i64 (IntKind.i64.wrap (a1 - 0)))]) (by kernel_rfl) ?_
    refine WP.seqP [0, 1, 16] (L' := [(0, .slice none 0 0), (1, .int .i64 (IntKind.i64.wrap (a1 - 0))), (16, .bool (decide ((IntKind.i64.wrap (a1 - 0)) > 0)))]) (by kernel_rfl) ?_
    refine WP.cond (b := decide ((IntKind.i64.wrap (a1 - 0)) > 0)) (by kernel_rfl) (fun hc => ?_) (fun hc => ?_)
    · replace hc := of_decide_eq_true hc
      rw [if_pos hc] at h
      have hc2 := hc
      clear hc
      refine WP.region ?_
      refine WL.pure 0 3 [0, 1, 17, 19] (L' := [(0, .slice none 0 0), (1, .int .i64 (IntKind.i64.wrap (a1 - 0))), (17, .slice none 0 0), (19, .int .i64 0)]) (by kernel_rfl) (by decide) ?_
      refine WL.tell (op := .slice 32 (.tmp 17) none (some (.tmp 19)) none) (ty := 32) (d := some 20) (g := none) (by kernel_rfl) (by kernel_rfl) (by kernel_rfl) (TellsW.tells (sliceNil (by kernel_rfl) rfl ⟨.i64, by kernel_rfl⟩ sl32)) ?_
      refine WL.pure 4 5 [0, 20, 21] (L' := [(0, .slice none 0 0), (20, .slice none 0 0), (21, .int .i64 (IntKind.i64.wrap (a1 - 0)))]) (by kernel_rfl) (by decide) ?_
      by_cases hb3 : 0 ≤ (IntKind.i64.wrap (a1 - 0)) ∧ (IntKind.i64.wrap (a1 - 0)) ≤ 1073741824
      case neg => rw [if_neg hb3] at h; cases h
      rw [if_pos hb3] at h
      refine WL.op (op := .call { callee := (.builtin .append), args := #[(.tmp 20), (.tmp 21)], argTypes := #[32, 3] }) (ty := 32) (d := some 22) (g := none) (by kernel_rfl) (by kernel_rfl) (by kernel_rfl) (Does.zeros (kd := (kInt .i64)) (k := .i64) (n := (IntKind.i64.wrap (a1 - 0))) (z := 0) (zv := .int .i64 0) (by kernel_rfl) (by kernel_rfl) hb3.1 hb3.2 sl32 (by decide) (by decide) i63 (by kernel_rfl) (fun _ => (by exact rfl))) ?_
      rintro _ _ _ ⟨rfl, AM4, cM4, CM4, rfl, HM4, rfl⟩
      refine WL.pure 6 8 [0, 22, 24] (L' := [(0, .slice none 0 0), (22, .slice AM4 (List.replicate (IntKind.i64.wrap (a1 - 0)).toNat (0 : Int)).length cM4), (24, .int .i64 0)]) (by kernel_rfl) (by decide) ?_
      by_cases hb5 : 0 ≤ (0 : Int) ∧ (0 : Int) ≤ (0 : Int) ∧ (0 : Int) ≤ ((List.replicate (IntKind.i64.wrap (a1 - 0)).toNat (0 : Int)).length : Int)
      case neg => rw [if_neg hb5] at h; cases h
      rw [if_pos hb5] at h
      refine WL.tellW (op := .slice 32 (.tmp 22) none (some (.tmp 24)) none) (ty := 32) (d := some 25) (g := none) (by kernel_rfl) (by kernel_rfl) (by kernel_rfl) (Ow.sliceT HM4 (l := 0) (h := 0) (by kernel_rfl) rfl ⟨.i64, by kernel_rfl⟩ rfl hb5.2.1 hb5.2.2 sl32) ?_
      have Ho6 := HM4.cut (0 : Int).toNat
      refine WL.rest 9 [0] (L' := [(0, .slice AM4 ((List.replicate (IntKind.i64.wrap (a1 - 0)).toNat (0 : Int)).take (0 : Int).toNat).length cM4)]) (by kernel_rfl) ?_
      refine QP.next ?_
      refine WP.pick [0] ?_
      refine WP.seqP [4] (L' := [(4, .slice AM4 ((List.replicate (IntKind.i64.wrap (a1 - 0)).toNat (0 : Int)).take (0 : Int).toNat).length cM4)]) (by kernel_rfl) ?_
      refine WP.ret ?_
      obtain rfl := Option.some.inj h
      exact QP.returned [4] [.slice AM4 ((List.replicate (IntKind.i64.wrap (a1 - 0)).toNat (0 : Int)).take (0 : Int).toNat).length cM4] _ (by kernel_rfl) (by kernel_rfl) (by kernel_rfl) (fun W hI => ⟨_, _, _, rfl, ⟨AM4, cM4, CM4, rfl, Ho6, rfl, rfl⟩, hI⟩)
    · replace hc := of_decide_eq_false hc
      rw [if_neg hc] at h
      have hc2 := hc
      clear hc
      refine WP.skip ?_
      refine QP.next ?_
      refine WP.pick [0] ?_
      refine WP.seqP [4] (L' := [(4, .slice none 0 0)]) (by kernel_rfl) ?_
      refine WP.ret ?_
      obtain rfl := Option.some.inj h
      refine QP.addNil ?_
      exact QP.returned [4] [.slice none ([] : List Int).length 0] _ (by kernel_rfl) (by kernel_rfl) (by kernel_rfl) (fun W hI => ⟨_, _, _, rfl, ⟨none, 0, [], rfl, (Ow.nil (kInt .i64) _), rfl, rfl⟩, hI⟩)

/-! ### slices.Concat[[]int,int]: function 55 -/
def slices_Concat_int_int_l0 (l0 : List (List Int)) : Nat → Int → Int → Option Int
  | 0, _, _ => none
  | k + 1, y3, y4 => (if y4 < (l0.length : Int) then (if 0 ≤ y4 ∧ y4 < (l0.length : Int) then ((some (IntKind.i64.wrap (y3 + ((l0.getD y4.toNat []).length : Int)))).bind fun v10 => (if v10 < 0 then none else slices_Concat_int_int_l0 l0 k v10 (IntKind.i64.wrap (y4 + 1)))) else none) else some y3)
def slices_Concat_int_int_l1 (l0 : List (List Int)) : Nat → (List Int) → Int → Option (List Int)
  | 0, _, _ => none
  | k + 1, y19, y20 => (if y20 < (l0.length : Int) then (if 0 ≤ y20 ∧ y20 < (l0.length : Int) then (if y19.length + (l0.getD y20.toNat []).length ≤ 1073741824 then slices_Concat_int_int_l1 l0 k (y19 ++ (l0.getD y20.toNat [])) (IntKind.i64.wrap (y20 + 1)) else none) else none) else some y19)
def slices_Concat_int_int (k : Nat) (l0 : List (List Int)) : Option (List Int) := ((slices_Concat_int_int_l0 l0 k 0 0).bind fun s1 => ((slices_Grow_int_int s1).bind fun t13 => ((slices_Concat_int_int_l1 l0 k t13 0).bind fun s17 => some s17)))
set_option maxHeartbeats 4000000 in
theorem slices_Concat_int_int_calls {B : World} {G : GMap} {Γ : List Chunk} {W : World} (k : Nat) (l0 : List (List Int)) (Al0 : Option Addr) (cl0 : Nat) (Hl0 : Rd (kSlice (kInt .i64)) G Al0 cl0 l0) (r : List Int) (h : slices_Concat_int_int k l0 = some r) (hI : Inv B G (Γ) W) :
    Calls Tryd.prog 55 [.slice Al0 l0.length cl0].toArray W (Ret B (fun v G' Γ' => ∃ (AR : Option Addr), ∃ (cR : Nat), ∃ (CR : Chunk), v = .slice AR r.length cR ∧ Ow (kInt .i64) G' AR cR r CR ∧ G = G' ∧ CR :: Γ = Γ')) := by
  refine calls_WP (Γ := Γ) (G := G) (B := B) Tryd.func55 rfl (by kernel_rfl) ?_ hI
  clear hI
  unfold slices_Concat_int_int at h
  refine WP.seqP [0] (L' := [(0, .slice Al0 l0.length cl0)]) (by kernel_rfl) ?_
  refine WP.seqP [0, 3] (L' := [(0, .slice Al0 l0.length cl0), (3, .int .i64 0)]) (by kernel_rfl) ?_
  refine WP.seq ?_
  refine WP.seqP [0, 3, 9, 10, 11] (L' := [(0, .slice Al0 l0.length cl0), (3, .int .i64 0), (9, .slice Al0 l0.length cl0), (10, .int .i64 (l0.length : Int)), (11, .int .i64 0)]) (by kernel_rfl) ?_
  rw [Option.bind_eq_some_iff] at h
  obtain ⟨os1, h, hk2⟩ := h
  refine WP.cutQ (fun L' G' Γ' => ∃ s1 : Int, s1 = os1 ∧ L' = [(0, .slice Al0 l0.length cl0), (3, .int .i64 s1)] ∧ G = G' ∧ Γ = Γ') ?_ ?_
  · clear hk2
    refine WP.block ?_
    refine WP.pick [0, 3, 9, 10, 11] ?_
    refine WP.loopF (fun kn5 L' G' Γ' => ∃ (y3 : Int), ∃ (y4 : Int), slices_Concat_int_int_l0 l0 kn5 y3 y4 = some os1 ∧ L' = [(0, .slice Al0 l0.length cl0), (3, .int .i64 y3), (9, .slice Al0 l0.length cl0), (10, .int .i64 (l0.length : Int)), (11, .int .i64 y4)] ∧ G = G' ∧ Γ = Γ') ?_ k ⟨0, 0, h, rfl, rfl, rfl⟩
    clear h
    rintro kn6 _ _ _ ⟨y3, y4, h, rfl, rfl, rfl⟩
    cases kn6 with
    | zero => exact absurd h (by simp [slices_Concat_int_int_l0])
    | succ kn6 =>
      simp only [slices_Concat_int_int_l0] at h
      refine WP.seqP [0, 3, 9, 10, 11, 12] (L' := [(0, .slice Al0 l0.length cl0), (3, .int .i64 y3), (9, .slice Al0 l0.length cl0), (10, .int .i64 (l0.length : Int)), (11, .int .i64 y4), (12, .bool (decide (y4 < (l0.length : Int))))]) (by kernel_rfl) ?_
      refine WP.seq ?_
      refine WP.cond (b := decide (y4 < (l0.length : Int))) (by kernel_rfl) (fun hc => ?_) (fun hc => ?_)
      · replace hc := of_decide_eq_true hc
        rw [if_pos hc] at h
        have hc7 := hc
        clear hc
        refine WP.skip ?_
        refine QP.next ?_
        refine WP.pick [0, 3, 9, 10, 11] ?_
        refine WP.seq ?_
        refine WP.block ?_
        refine WP.seqR ?_
        by_cases hb8 : 0 ≤ y4 ∧ y4 < (l0.length : Int)
        case neg => rw [if_neg hb8] at h; cases h
        rw [if_pos hb8] at h
        refine WL.tell (op := .indexAddr 117 (.tmp 9) (.tmp 11)) (ty := 0) (d := some 13) (g := none) (by kernel_rfl) (by kernel_rfl) (by kernel_rfl) (Tells.indexAddr (A := Al0) (n := l0.length) (c := cl0) (k := .i64) (j := y4) (by kernel_rfl) (by kernel_rfl) (Hl0.isSome hb8.1 hb8.2) hb8.1 hb8.2 sl117) ?_
        refine WL.tellE (op := .load 32 (.tmp 13)) (ty := 32) (d := some 14) (g := none) (by kernel_rfl) (by kernel_rfl) (by kernel_rfl) (Hl0.load (agg := false) hb8.1 hb8.2 [] ag32 (fun _ => rfl) (by kernel_rfl)) ?_
        rintro _ ⟨Ae9, ce9, rfl, He9⟩
        refine WL.restQ 2 [0, 3, 5, 9, 10, 11] (L' := [(0, .slice Al0 l0.length cl0), (3, .int .i64 y3), (5, .slice Ae9 (l0.getD y4.toNat []).length ce9), (9, .slice Al0 l0.length cl0), (10, .int .i64 (l0.length : Int)), (11, .int .i64 y4)]) (by kernel_rfl) ?_
        refine WP.seqP [0, 3, 9, 10, 11] (L' := [(0, .slice Al0 l0.length cl0), (3, .int .i64 (IntKind.i64.wrap (y3 + ((l0.getD y4.toNat []).length : Int)))), (9, .slice Al0 l0.length cl0), (10, .int .i64 (l0.length : Int)), (11, .int .i64 y4)]) (by kernel_rfl) ?_
        obtain ⟨v10, hv11, h⟩ := Option.bind_eq_some_iff.1 h
        replace hv11 := Option.some.inj hv11
        refine WP.reput 3 (v := .int .i64 (IntKind.i64.wrap (y3 + ((l0.getD y4.toNat []).length : Int)))) (v' := .int .i64 v10) (by kernel_rfl) (by subst hv11; rfl) ?_
        refine WP.pick [0, 3, 9, 10, 11] ?_
        refine WP.seqP [0, 3, 9, 10, 11, 20] (L' := [(0, .slice Al0 l0.length cl0), (3, .int .i64 v10), (9, .slice Al0 l0.length cl0), (10, .int .i64 (l0.length : Int)), (11, .int .i64 y4), (20, .bool (decide (v10 < 0)))]) (by kernel_rfl) ?_
        refine WP.cond (b := decide (v10 < 0)) (by kernel_rfl) (fun hc => ?_) (fun hc => ?_)
        · replace hc := of_decide_eq_true hc
          rw [if_pos hc] at h
          have hc12 := hc
          clear hc
          refine WP.region ?_
          cases h
        · replace hc := of_decide_eq_false hc
          rw [if_neg hc] at h
          have hc12 := hc
          clear hc
          refine WP.skip ?_
          refine QP.blockN ?_
          refine QP.next ?_
          refine WP.pick [0, 3, 9, 10, 11] ?_
          refine WP.regionP [0, 3, 9, 10, 11] (L' := [(0, .slice Al0 l0.length cl0), (3, .int .i64 v10), (9, .slice Al0 l0.length cl0), (10, .int .i64 (l0.length : Int)), (11, .int .i64 (IntKind.i64.wrap (y4 + 1)))]) (by kernel_rfl) ?_
          refine QP.pick [0, 3, 9, 10, 11] ?_
          exact QP.meet ⟨kn6, Nat.lt_succ_self _, v10, (IntKind.i64.wrap (y4 + 1)), h, rfl, rfl, rfl⟩
      · replace hc := of_decide_eq_false hc
        rw [if_neg hc] at h
        have hc7 := hc
        clear hc
        refine WP.exit ?_
        refine QP.thenE ?_
        refine QP.thenE ?_
        refine QP.blockE ?_
        refine QP.pick [0, 3] ?_
        exact QP.meet ⟨_, Option.some.inj h, rfl, rfl, rfl⟩
  · rintro _ _ _ ⟨s1, rfl, rfl, rfl, rfl⟩
    clear h
    replace h := hk2
    refine QP.next ?_
    refine WP.pick [0, 3] ?_
    refine WP.seqR ?_
    refine WL.pure 0 1 [0, 23] (L' := [(0, .slice Al0 l0.length cl0), (23, .int .i64 s1)]) (by kernel_rfl) (by decide) ?_
    rw [Option.bind_eq_some_iff] at h
    obtain ⟨t13, ht14, h⟩ := h
    refine WL.op (op := .call { callee := (.value (.func 84)), args := #[(.const (.slice none 0 0)), (.tmp 23)], argTypes := #[32, 3] }) (ty := 32) (d := some 24) (g := none) (by kernel_rfl) (by kernel_rfl) (by kernel_rfl) (Does.call (f := 84) (args := [.slice none 0 0, .int .i64 s1]) (by kernel_rfl) (fun W hI => (slices_Grow_int_int_calls s1  t13 ht14 hI))) ?_
    rintro _ _ _ ⟨AR15, cR15, CR15, rfl, HR15, rfl, rfl⟩
    refine WL.restQ 2 [0, 6] (L' := [(0, .slice Al0 l0.length cl0), (6, .slice AR15 t13.length cR15)]) (by kernel_rfl) ?_
    refine WP.seq ?_
    refine WP.seqP [6, 25, 26, 27] (L' := [(6, .slice AR15 t13.length cR15), (25, .slice Al0 l0.length cl0), (26, .int .i64 (l0.length : Int)), (27, .int .i64 0)]) (by kernel_rfl) ?_
    rw [Option.bind_eq_some_iff] at h
    obtain ⟨os17, h, hk18⟩ := h
    refine WP.cutQ (fun L' G' Γ' => ∃ s17 : (List Int), s17 = os17 ∧ ∃ (As17 : Option Addr), ∃ (cs17 : Nat), ∃ (Cs17 : Chunk), L' = [(6, .slice As17 s17.length cs17)] ∧ G = G' ∧ Cs17 :: Γ = Γ' ∧ Ow (kInt .i64) G As17 cs17 s17 Cs17) ?_ ?_
    · clear hk18
      refine WP.block ?_
      refine WP.pick [6, 25, 26, 27] ?_
      refine WP.loopF (fun kn21 L' G' Γ' => ∃ (y19 : List Int), ∃ (y20 : Int), slices_Concat_int_int_l1 l0 kn21 y19 y20 = some os17 ∧ ∃ (Ay19 : Option Addr), ∃ (cy19 : Nat), ∃ (Cy19 : Chunk), L' = [(6, .slice Ay19 y19.length cy19), (25, .slice Al0 l0.length cl0), (26, .int .i64 (l0.length : Int)), (27, .int .i64 y20)] ∧ G = G' ∧ Cy19 :: Γ = Γ' ∧ Ow (kInt .i64) G Ay19 cy19 y19 Cy19) ?_ k ⟨t13, 0, h, AR15, cR15, CR15, rfl, rfl, rfl, HR15⟩
      clear h
      rintro kn22 _ _ _ ⟨y19, y20, h, Ay19, cy19, Cy19, rfl, rfl, rfl, Hy19⟩
      cases kn22 with
      | zero => exact absurd h (by simp [slices_Concat_int_int_l1])
      | succ kn22 =>
        simp only [slices_Concat_int_int_l1] at h
        refine WP.seqP [6, 25, 26, 27, 28] (L' := [(6, .slice Ay19 y19.length cy19), (25, .slice Al0 l0.length cl0), (26, .int .i64 (l0.length : Int)), (27, .int .i64 y20), (28, .bool (decide (y20 < (l0.length : Int))))]) (by kernel_rfl) ?_
        refine WP.seq ?_
        refine WP.cond (b := decide (y20 < (l0.length : Int))) (by kernel_rfl) (fun hc => ?_) (fun hc => ?_)
        · replace hc := of_decide_eq_true hc
          rw [if_pos hc] at h
          have hc23 := hc
          clear hc
          refine WP.skip ?_
          refine QP.next ?_
          refine WP.pick [6, 25, 26, 27] ?_
          refine WP.seq ?_
          refine WP.block ?_
          refine WP.seqR ?_
          by_cases hb24 : 0 ≤ y20 ∧ y20 < (l0.length : Int)
          case neg => rw [if_neg hb24] at h; cases h
          rw [if_pos hb24] at h
          refine WL.tell (op := .indexAddr 117 (.tmp 25) (.tmp 27)) (ty := 0) (d := some 29) (g := none) (by kernel_rfl) (by kernel_rfl) (by kernel_rfl) (Tells.indexAddr (A := Al0) (n := l0.length) (c := cl0) (k := .i64) (j := y20) (by kernel_rfl) (by kernel_rfl) (Hl0.isSome hb24.1 hb24.2) hb24.1 hb24.2 sl117) ?_
          refine WL.tellE (op := .load 32 (.tmp 29)) (ty := 32) (d := some 30) (g := none) (by kernel_rfl) (by kernel_rfl) (by kernel_rfl) (Hl0.load (agg := false) hb24.1 hb24.2 [] ag32 (fun _ => rfl) (by kernel_rfl)) ?_
          rintro _ ⟨Ae25, ce25, rfl, He25⟩
          refine WL.restQ 2 [6, 8, 25, 26, 27] (L' := [(6, .slice Ay19 y19.length cy19), (8, .slice Ae25 (l0.getD y20.toNat []).length ce25), (25, .slice Al0 l0.length cl0), (26, .int .i64 (l0.length : Int)), (27, .int .i64 y20)]) (by kernel_rfl) ?_
          refine WP.region ?_
          refine WL.pure 0 2 [6, 25, 26, 27, 31, 32] (L' := [(6, .slice Ay19 y19.length cy19), (25, .slice Al0 l0.length cl0), (26, .int .i64 (l0.length : Int)), (27, .int .i64 y20), (31, .slice Ay19 y19.length cy19), (32, .slice Ae25 (l0.getD y20.toNat []).length ce25)]) (by kernel_rfl) (by decide) ?_
          by_cases hb26 : y19.length + (l0.getD y20.toNat []).length ≤ 1073741824
          case neg => rw [if_neg hb26] at h; cases h
          rw [if_pos hb26] at h
          refine WL.op (op := .call { callee := (.builtin .append), args := #[(.tmp 31), (.tmp 32)], argTypes := #[32, 32] }) (ty := 32) (d := some 33) (g := none) (by kernel_rfl) (by kernel_rfl) (by kernel_rfl) (Ow.append (ys := (l0.getD y20.toNat [])) (v := .slice Ae25 (l0.getD y20.toNat []).length ce25) Hy19 (i := 0) rfl (by kernel_rfl) (by kernel_rfl) He25.src sl32 ze3 nt32 (by decide) hb26) ?_
          rintro _ _ _ ⟨rfl, AN27, cN27, CN27, rfl, HN27, rfl⟩
          refine WL.rest 3 [6, 25, 26, 27] (L' := [(6, .slice AN27 (y19 ++ (l0.getD y20.toNat [])).length cN27), (25, .slice Al0 l0.length cl0), (26, .int .i64 (l0.length : Int)), (27, .int .i64 y20)]) (by kernel_rfl) ?_
          refine QP.blockN ?_
          refine QP.next ?_
          refine WP.pick [6, 25, 26, 27] ?_
          refine WP.regionP [6, 25, 26, 27] (L' := [(6, .slice AN27 (y19 ++ (l0.getD y20.toNat [])).length cN27), (25, .slice Al0 l0.length cl0), (26, .int .i64 (l0.length : Int)), (27, .int .i64 (IntKind.i64.wrap (y20 + 1)))]) (by kernel_rfl) ?_
          refine QP.pick [6, 25, 26, 27] ?_
          exact QP.meet ⟨kn22, Nat.lt_succ_self _, (y19 ++ (l0.getD y20.toNat [])), (IntKind.i64.wrap (y20 + 1)), h, AN27, cN27, CN27, rfl, rfl, rfl, HN27⟩
        · replace hc := of_decide_eq_false hc
          rw [if_neg hc] at h
          have hc23 := hc
          clear hc
          refine WP.exit ?_
          refine QP.thenE ?_
          refine QP.thenE ?_
          refine QP.blockE ?_
          refine QP.pick [6] ?_
          exact QP.meet ⟨_, Option.some.inj h, Ay19, cy19, Cy19, rfl, rfl, rfl, Hy19⟩
    · rintro _ _ _ ⟨s17, rfl, As17, cs17, Cs17, rfl, rfl, rfl, Hs17⟩
      clear h
      replace h := hk18
      refine QP.next ?_
      refine WP.pick [6] ?_
      refine WP.seqP [2] (L' := [(2, .slice As17 s17.length cs17)]) (by kernel_rfl) ?_
      refine WP.ret ?_
      obtain rfl := Option.some.inj h
      exact QP.returned [2] [.slice As17 s17.length cs17] _ (by kernel_rfl) (by kernel_rfl) (by kernel_rfl) (fun W hI => ⟨_, _, _, rfl, ⟨As17, cs17, Cs17, rfl, Hs17, rfl, rfl⟩, hI⟩)

/-! ### grapevine/talk.Lay: function 26 -/
def talk_Lay_l0 (t16 : List Int) : Nat → (List Int) → Int → Option (List Int)
  | 0, _, _ => none
  | k + 1, y23, y24 => (if y24 < (t16.length : Int) then (if 0 ≤ y24 ∧ y24 < (t16.length : Int) then (if y23.length + ([IntKind.u8.wrap (shrK .i64 (t16.getD y24.toNat 0) 8), IntKind.u8.wrap (t16.getD y24.toNat 0)] : List Int).length ≤ 1073741824 then talk_Lay_l0 t16 k (y23 ++ ([IntKind.u8.wrap (shrK .i64 (t16.getD y24.toNat 0) 8), IntKind.u8.wrap (t16.getD y24.toNat 0)] : List Int)) (IntKind.i64.wrap (y24 + 1)) else none) else none) else some y23)
def talk_Lay_l1 (a0 : T54) : Nat → (List Int) → Int → Option (List Int)
  | 0, _, _ => none
  | k + 1, y44, y45 => (if y45 < (a0.f5.length : Int) then (if 0 ≤ y45 ∧ y45 < (a0.f5.length : Int) then ((record_Lay k (⟨(a0.f5.getD y45.toNat z39).f0, (a0.f5.getD y45.toNat z39).f1, (a0.f5.getD y45.toNat z39).f2, (a0.f5.getD y45.toNat z39).f3, (a0.f5.getD y45.toNat z39).f4⟩ : T39)).bind fun t51 => (if y44.length + t51.1.length ≤ 1073741824 then talk_Lay_l1 a0 k (y44 ++ t51.1) (IntKind.i64.wrap (y45 + 1)) else none)) else none) else some y44)
def talk_Lay (k : Nat) (a0 : T54) (a1 : Int) : Option ((List Int) × Int) := ((talk_May k a0 a1).bind fun t2 => (if (!t2) = true then some (([] : List Int), 2) else ((some ([IntKind.u8.wrap a0.f1, IntKind.u8.wrap a0.f2, IntKind.u8.wrap a1] : List Int)).bind fun v10 => ((slices_Concat_int_int k ([a0.f3, a0.f4] : List (List Int))).bind fun t16 => ((talk_Lay_l0 t16 k v10 0).bind fun s21 => (if s21.length + ([IntKind.u8.wrap (a0.f5.length : Int)] : List Int).length ≤ 1073741824 then ((some (s21 ++ ([IntKind.u8.wrap (a0.f5.length : Int)] : List Int))).bind fun v39 => ((talk_Lay_l1 a0 k v39 0).bind fun s42 => ((frame_Lay k a0.f0 s42).bind fun t57 => some (t57.1, t57.2)))) else none))))))
set_option maxHeartbeats 4000000 in
theorem talk_Lay_calls {B : World} {G : GMap} {Γ : List Chunk} {W : World} (HT : Tabs B G) (k : Nat) (a0 : T54) (a1 : Int) (Aa0_f3 : Option Addr) (ca0_f3 : Nat) (Ha0_f3 : Rd (kInt .i64) G Aa0_f3 ca0_f3 a0.f3) (Aa0_f4 : Option Addr) (ca0_f4 : Nat) (Ha0_f4 : Rd (kInt .i64) G Aa0_f4 ca0_f4 a0.f4) (Aa0_f5 : Option Addr) (ca0_f5 : Nat) (Ha0_f5 : Rd k39 G Aa0_f5 ca0_f5 a0.f5) (r : (List Int) × Int) (h : talk_Lay k a0 a1 = some r) (hI : Inv B G (Γ) W) :
    Calls Tryd.prog 26 [.agg #[.int .i64 a0.f0, .int .i64 a0.f1, .int .i64 a0.f2, .slice Aa0_f3 a0.f3.length ca0_f3, .slice Aa0_f4 a0.f4.length ca0_f4, .slice Aa0_f5 a0.f5.length ca0_f5], .int .i64 a1].toArray W (Ret B (fun v G' Γ' => ∃ (AR0 : Option Addr), ∃ (cR0 : Nat), ∃ (CR0 : Chunk), v = .tuple #[.slice AR0 r.1.length cR0, .int .i64 r.2] ∧ Ow (kInt .u8) G' AR0 cR0 r.1 CR0 ∧ G = G' ∧ CR0 :: Γ = Γ')) := by
  refine calls_WP (Γ := Γ) (G := G) (B := B) Tryd.func26 rfl (by kernel_rfl) ?_ hI
  clear hI
  unfold talk_Lay at h
  refine WP.seqR ?_
  refine WL.op (op := .box 54 (.tmp 0)) (ty := 0) (d := some 2) (g := none) (by kernel_rfl) (by kernel_rfl) (by kernel_rfl) (Does.new (o := .cells #[.int .i64 a0.f0, .int .i64 a0.f1, .int .i64 a0.f2, .slice Aa0_f3 a0.f3.length ca0_f3, .slice Aa0_f4 a0.f4.length ca0_f4, .slice Aa0_f5 a0.f5.length ca0_f5] 54 (0, 0)) (v := fun r => .pointer (some ⟨r, 0, none⟩)) (fun r => by kernel_rfl)) ?_
  rintro _ _ _ ⟨b1, rfl, rfl, rfl⟩
  refine WL.restQ 1 [1, 2] (L' := [(1, .int .i64 a1), (2, .pointer (some ⟨b1, 0, none⟩))]) (by kernel_rfl) ?_
  refine WP.seq ?_
  refine WP.seqR ?_
  refine WL.tell (op := .load 54 (.tmp 2)) (ty := 54) (d := some 13) (g := none) (by kernel_rfl) (by kernel_rfl) (by kernel_rfl) (Tells.load_box (i := 0) (b := b1) (o := 0) (agg := true) (by rfl) ag54 (by kernel_rfl) (fun h => by cases h) (Nat.le_of_ble_eq_true rfl) (v := .agg #[.int .i64 a0.f0, .int .i64 a0.f1, .int .i64 a0.f2, .slice Aa0_f3 a0.f3.length ca0_f3, .slice Aa0_f4 a0.f4.length ca0_f4, .slice Aa0_f5 a0.f5.length ca0_f5]) (by kernel_rfl)) ?_
  refine WL.pure 1 2 [1, 2, 13, 14] (L' := [(1, .int .i64 a1), (2, .pointer (some ⟨b1, 0, none⟩)), (13, .agg #[.int .i64 a0.f0, .int .i64 a0.f1, .int .i64 a0.f2, .slice Aa0_f3 a0.f3.length ca0_f3, .slice Aa0_f4 a0.f4.length ca0_f4, .slice Aa0_f5 a0.f5.length ca0_f5]), (14, .int .i64 a1)]) (by kernel_rfl) (by decide) ?_
  rw [Option.bind_eq_some_iff] at h
  obtain ⟨t2, ht3, h⟩ := h
  refine WL.op (op := .call { callee := (.value (.func 29)), args := #[(.tmp 13), (.tmp 14)], argTypes := #[54, 3] }) (ty := 4) (d := some 15) (g := none) (by kernel_rfl) (by kernel_rfl) (by kernel_rfl) (Does.call (f := 29) (args := [.agg #[.int .i64 a0.f0, .int .i64 a0.f1, .int .i64 a0.f2, .slice Aa0_f3 a0.f3.length ca0_f3, .slice Aa0_f4 a0.f4.length ca0_f4, .slice Aa0_f5 a0.f5.length ca0_f5], .int .i64 a1]) (by kernel_rfl) (fun W hI => (talk_May_calls HT k a0 a1 Aa0_f3 ca0_f3 Ha0_f3 Aa0_f4 ca0_f4 Ha0_f4 Aa0_f5 ca0_f5 Ha0_f5 t2 ht3 hI))) ?_
  rintro _ _ _ ⟨rfl, rfl, rfl⟩
  refine WL.restQ 3 [1, 2, 16] (L' := [(1, .int .i64 a1), (2, .pointer (some ⟨b1, 0, none⟩)), (16, .bool (!t2))]) (by kernel_rfl) ?_
  refine WP.cond (b := (!t2)) (by kernel_rfl) (fun hc => ?_) (fun hc => ?_)
  · replace hc := hc
    rw [if_pos hc] at h
    have hc6 := hc
    clear hc
    refine WP.seqP [4, 5] (L' := [(4, .slice none 0 0), (5, .int .i64 2)]) (by kernel_rfl) ?_
    refine WP.dropAt 0 ?_
    refine WP.ret ?_
    refine QP.thenR ?_
    obtain rfl := Option.some.inj h
    refine QP.addNil ?_
    exact QP.returned [4, 5] [.slice none ([] : List Int).length 0, .int .i64 2] _ (by kernel_rfl) (by kernel_rfl) (by kernel_rfl) (fun W hI => ⟨_, _, _, rfl, ⟨none, 0, [], rfl, (Ow.nil (kInt .u8) _), rfl, rfl⟩, hI⟩)
  · replace hc := (Bool.eq_false_iff.1 hc)
    rw [if_neg hc] at h
    have hc6 := hc
    clear hc
    refine WP.skip ?_
    refine QP.next ?_
    refine WP.pick [1, 2] ?_
    refine WP.seqR ?_
    refine WL.pure 0 1 [1, 2, 17] (L' := [(1, .int .i64 a1), (2, .pointer (some ⟨b1, 0, none⟩)), (17, .pointer (some ⟨b1, 1, none⟩))]) (by kernel_rfl) (by decide) ?_
    refine WL.tell (op := .load 3 (.tmp 17)) (ty := 3) (d := some 18) (g := none) (by kernel_rfl) (by kernel_rfl) (by kernel_rfl) (Tells.load_box (i := 0) (b := b1) (o := 1) (agg := false) (by rfl) ag3 (by kernel_rfl) (fun _ => rfl) (Nat.le_of_ble_eq_true rfl) (v := .int .i64 a0.f1) (by kernel_rfl)) ?_
    refine WL.pure 2 4 [1, 2, 19, 20] (L' := [(1, .int .i64 a1), (2, .pointer (some ⟨b1, 0, none⟩)), (19, .int .u8 (IntKind.u8.wrap a0.f1)), (20, .pointer (some ⟨b1, 2, none⟩))]) (by kernel_rfl) (by decide) ?_
    refine WL.tell (op := .load 3 (.tmp 20)) (ty := 3) (d := some 21) (g := none) (by kernel_rfl) (by kernel_rfl) (by kernel_rfl) (Tells.load_box (i := 0) (b := b1) (o := 2) (agg := false) (by rfl) ag3 (by kernel_rfl) (fun _ => rfl) (Nat.le_of_ble_eq_true rfl) (v := .int .i64 a0.f2) (by kernel_rfl)) ?_
    refine WL.pure 5 8 [2, 19, 22, 24] (L' := [(2, .pointer (some ⟨b1, 0, none⟩)), (19, .int .u8 (IntKind.u8.wrap a0.f1)), (22, .int .u8 (IntKind.u8.wrap a0.f2)), (24, .int .u8 (IntKind.u8.wrap a1))]) (by kernel_rfl) (by decide) ?_
    refine WL.op (op := .buildSlice 22 3 #[(0, (.tmp 19)), (1, (.tmp 22)), (2, (.tmp 24))]) (ty := 22) (d := some 25) (g := none) (by kernel_rfl) (by kernel_rfl) (by kernel_rfl) (Does.new (o := .cells #[.int .u8 (IntKind.u8.wrap a0.f1), .int .u8 (IntKind.u8.wrap a0.f2), .int .u8 (IntKind.u8.wrap a1)] 5 (0, 0)) (v := fun r => .slice (some ⟨r, 0, none⟩) 3 3) (fun r => by kernel_rfl)) ?_
    rintro _ _ _ ⟨b7, rfl, rfl, rfl⟩
    have Ho9 : Ow (kInt .u8) G (some ⟨b7, 0, none⟩) 3 ([IntKind.u8.wrap a0.f1, IntKind.u8.wrap a0.f2, IntKind.u8.wrap a1] : List Int) [(b7, .cells #[.int .u8 (IntKind.u8.wrap a0.f1), .int .u8 (IntKind.u8.wrap a0.f2), .int .u8 (IntKind.u8.wrap a1)] 5 (0, 0))] := Ow.lit (kd := (kInt .u8)) (G := G) (b := b7) (T := 5) (xs := ([IntKind.u8.wrap a0.f1, IntKind.u8.wrap a0.f2, IntKind.u8.wrap a1] : List Int)) (cs := [.int .u8 (IntKind.u8.wrap a0.f1), .int .u8 (IntKind.u8.wrap a0.f2), .int .u8 (IntKind.u8.wrap a1)]) (.cons (x := (IntKind.u8.wrap a0.f1)) (cs := [.int .u8 (IntKind.u8.wrap a0.f1)]) (by exact rfl) (.cons (x := (IntKind.u8.wrap a0.f2)) (cs := [.int .u8 (IntKind.u8.wrap a0.f2)]) (by exact rfl) (.cons (x := (IntKind.u8.wrap a1)) (cs := [.int .u8 (IntKind.u8.wrap a1)]) (by exact rfl) .nil)))
    refine WL.restQ 9 [2, 6] (L' := [(2, .pointer (some ⟨b1, 0, none⟩)), (6, .slice (some ⟨b7, 0, none⟩) ([IntKind.u8.wrap a0.f1, IntKind.u8.wrap a0.f2, IntKind.u8.wrap a1] : List Int).length 3)]) (by kernel_rfl) ?_
    obtain ⟨v10, hv11, h⟩ := Option.bind_eq_some_iff.1 h
    replace hv11 := Option.some.inj hv11
    have Hn12 := Ho9
    rw [hv11] at Hn12
    refine WP.reput 6 (v := .slice (some ⟨b7, 0, none⟩) ([IntKind.u8.wrap a0.f1, IntKind.u8.wrap a0.f2, IntKind.u8.wrap a1] : List Int).length 3) (v' := .slice (some ⟨b7, 0, none⟩) v10.length 3) (by kernel_rfl) (by subst hv11; rfl) ?_
    refine WP.pick [2, 6] ?_
    refine WP.seq ?_
    refine WP.seqR ?_
    refine WL.pure 0 1 [2, 6, 26] (L' := [(2, .pointer (some ⟨b1, 0, none⟩)), (6, .slice (some ⟨b7, 0, none⟩) v10.length 3), (26, .pointer (some ⟨b1, 3, none⟩))]) (by kernel_rfl) (by decide) ?_
    refine WL.tell (op := .load 32 (.tmp 26)) (ty := 32) (d := some 27) (g := none) (by kernel_rfl) (by kernel_rfl) (by kernel_rfl) (Tells.load_box (i := 1) (b := b1) (o := 3) (agg := false) (by rfl) ag32 (by kernel_rfl) (fun _ => rfl) (Nat.le_of_ble_eq_true rfl) (v := .slice Aa0_f3 a0.f3.length ca0_f3) (by kernel_rfl)) ?_
    refine WL.pure 2 3 [2, 6, 27, 28] (L' := [(2, .pointer (some ⟨b1, 0, none⟩)), (6, .slice (some ⟨b7, 0, none⟩) v10.length 3), (27, .slice Aa0_f3 a0.f3.length ca0_f3), (28, .pointer (some ⟨b1, 4, none⟩))]) (by kernel_rfl) (by decide) ?_
    refine WL.tell (op := .load 32 (.tmp 28)) (ty := 32) (d := some 29) (g := none) (by kernel_rfl) (by kernel_rfl) (by kernel_rfl) (Tells.load_box (i := 1) (b := b1) (o := 4) (agg := false) (by rfl) ag32 (by kernel_rfl) (fun _ => rfl) (Nat.le_of_ble_eq_true rfl) (v := .slice Aa0_f4 a0.f4.length ca0_f4) (by kernel_rfl)) ?_
    refine WL.op (op := .buildSlice 117 2 #[(0, (.tmp 27)), (1, (.tmp 29))]) (ty := 117) (d := some 30) (g := none) (by kernel_rfl) (by kernel_rfl) (by kernel_rfl) (Does.new (o := .cells #[.slice Aa0_f3 a0.f3.length ca0_f3, .slice Aa0_f4 a0.f4.length ca0_f4] 32 (0, 0)) (v := fun r => .slice (some ⟨r, 0, none⟩) 2 2) (fun r => by kernel_rfl)) ?_
    rintro _ _ _ ⟨b13, rfl, rfl, rfl⟩
    have Ho15 : Ow (kSlice (kInt .i64)) G (some ⟨b13, 0, none⟩) 2 ([a0.f3, a0.f4] : List (List Int)) [(b13, .cells #[.slice Aa0_f3 a0.f3.length ca0_f3, .slice Aa0_f4 a0.f4.length ca0_f4] 32 (0, 0))] := Ow.lit (kd := (kSlice (kInt .i64))) (G := G) (b := b13) (T := 32) (xs := ([a0.f3, a0.f4] : List (List Int))) (cs := [.slice Aa0_f3 a0.f3.length ca0_f3, .slice Aa0_f4 a0.f4.length ca0_f4]) (.cons (x := a0.f3) (cs := [.slice Aa0_f3 a0.f3.length ca0_f3]) ⟨Aa0_f3, ca0_f3, rfl, Ha0_f3⟩ (.cons (x := a0.f4) (cs := [.slice Aa0_f4 a0.f4.length ca0_f4]) ⟨Aa0_f4, ca0_f4, rfl, Ha0_f4⟩ .nil))
    rw [Option.bind_eq_some_iff] at h
    obtain ⟨t16, ht17, h⟩ := h
    refine WL.op (op := .call { callee := (.value (.func 55)), args := #[(.tmp 30)], argTypes := #[117] }) (ty := 32) (d := some 31) (g := none) (by kernel_rfl) (by kernel_rfl) (by kernel_rfl) (Does.call (Φ := fun v' G' Γ' => ∃ (AR18 : Option Addr), ∃ (cR18 : Nat), ∃ (CR18 : Chunk), v' = .slice AR18 t16.length cR18 ∧ Ow (kInt .i64) G AR18 cR18 t16 CR18 ∧ G = G' ∧ CR18 :: [(b13, .cells #[.slice Aa0_f3 a0.f3.length ca0_f3, .slice Aa0_f4 a0.f4.length ca0_f4] 32 (0, 0))] :: [(b7, .cells #[.int .u8 (IntKind.u8.wrap a0.f1), .int .u8 (IntKind.u8.wrap a0.f2), .int .u8 (IntKind.u8.wrap a1)] 5 (0, 0))] :: [(b1, .cells #[.int .i64 a0.f0, .int .i64 a0.f1, .int .i64 a0.f2, .slice Aa0_f3 a0.f3.length ca0_f3, .slice Aa0_f4 a0.f4.length ca0_f4, .slice Aa0_f5 a0.f5.length ca0_f5] 54 (0, 0))] :: Γ = Γ') (f := 55) (args := [.slice (some ⟨b13, 0, none⟩) ([a0.f3, a0.f4] : List (List Int)).length 2]) (by kernel_rfl) (fun W hI => (Calls.lendN (Φ := fun v' N => ∃ (AR18 : Option Addr), ∃ (cR18 : Nat), ∃ (CR18 : Chunk), v' = .slice AR18 t16.length cR18 ∧ Ow (kInt .i64) G AR18 cR18 t16 CR18 ∧ N = [CR18]) (H := []) (i := 0) rfl hI (fun _ e l20 nl20 hI => by subst e; exact (((slices_Concat_int_int_calls k ([a0.f3, a0.f4] : List (List Int)) (some ⟨b13, 0, none⟩) 2 (Ho15.rdN l20 nl20) t16 ht17 hI)).mono fun _ _ hr => by obtain ⟨_, _, _, rfl, hd, hI⟩ := hr; obtain ⟨AR18, cR18, CR18, rfl, HR18, rfl, rfl⟩ := hd; exact ⟨_, _, _, rfl, ⟨[CR18], ⟨AR18, cR18, CR18, rfl, (HR18.flat (kInt_flat _)), rfl⟩, rfl, rfl⟩, hI⟩))).mono fun _ _ hr => by obtain ⟨_, _, _, rfl, ⟨_, hd, rfl, rfl⟩, hI⟩ := hr; obtain ⟨AR18, cR18, CR18, rfl, HR18, rfl⟩ := hd; exact ⟨_, _, _, rfl, ⟨AR18, cR18, CR18, rfl, HR18, rfl, rfl⟩, hI⟩)) ?_
    rintro _ _ _ ⟨AR18, cR18, CR18, rfl, HR18, rfl, rfl⟩
    refine WL.restQ 6 [2, 6, 31, 32, 33] (L' := [(2, .pointer (some ⟨b1, 0, none⟩)), (6, .slice (some ⟨b7, 0, none⟩) v10.length 3), (31, .slice AR18 t16.length cR18), (32, .int .i64 (t16.length : Int)), (33, .int .i64 0)]) (by kernel_rfl) ?_
    refine WP.dropAt 1 ?_
    rw [Option.bind_eq_some_iff] at h
    obtain ⟨os21, h, hk22⟩ := h
    refine WP.cutQ (fun L' G' Γ' => ∃ s21 : (List Int), s21 = os21 ∧ ∃ (As21 : Option Addr), ∃ (cs21 : Nat), ∃ (Cs21 : Chunk), L' = [(2, .pointer (some ⟨b1, 0, none⟩)), (6, .slice As21 s21.length cs21)] ∧ G = G' ∧ Cs21 :: [(b1, .cells #[.int .i64 a0.f0, .int .i64 a0.f1, .int .i64 a0.f2, .slice Aa0_f3 a0.f3.length ca0_f3, .slice Aa0_f4 a0.f4.length ca0_f4, .slice Aa0_f5 a0.f5.length ca0_f5] 54 (0, 0))] :: Γ = Γ' ∧ Ow (kInt .u8) G As21 cs21 s21 Cs21) ?_ ?_
    · clear hk22
      refine WP.block ?_
      refine WP.pick [2, 6, 31, 32, 33] ?_
      refine WP.loopF (fun kn25 L' G' Γ' => ∃ (y23 : List Int), ∃ (y24 : Int), talk_Lay_l0 t16 kn25 y23 y24 = some os21 ∧ ∃ (Ay23 : Option Addr), ∃ (cy23 : Nat), ∃ (Cy23 : Chunk), L' = [(2, .pointer (some ⟨b1, 0, none⟩)), (6, .slice Ay23 y23.length cy23), (31, .slice AR18 t16.length cR18), (32, .int .i64 (t16.length : Int)), (33, .int .i64 y24)] ∧ G = G' ∧ CR18 :: Cy23 :: [(b1, .cells #[.int .i64 a0.f0, .int .i64 a0.f1, .int .i64 a0.f2, .slice Aa0_f3 a0.f3.length ca0_f3, .slice Aa0_f4 a0.f4.length ca0_f4, .slice Aa0_f5 a0.f5.length ca0_f5] 54 (0, 0))] :: Γ = Γ' ∧ Ow (kInt .u8) G Ay23 cy23 y23 Cy23) ?_ k ⟨v10, 0, h, (some ⟨b7, 0, none⟩), 3, [(b7, .cells #[.int .u8 (IntKind.u8.wrap a0.f1), .int .u8 (IntKind.u8.wrap a0.f2), .int .u8 (IntKind.u8.wrap a1)] 5 (0, 0))], rfl, rfl, rfl, Hn12⟩
      clear h
      rintro kn26 _ _ _ ⟨y23, y24, h, Ay23, cy23, Cy23, rfl, rfl, rfl, Hy23⟩
      cases kn26 with
      | zero => exact absurd h (by simp [talk_Lay_l0])
      | succ kn26 =>
        simp only [talk_Lay_l0] at h
        refine WP.seqP [2, 6, 31, 32, 33, 34] (L' := [(2, .pointer (some ⟨b1, 0, none⟩)), (6, .slice Ay23 y23.length cy23), (31, .slice AR18 t16.length cR18), (32, .int .i64 (t16.length : Int)), (33, .int .i64 y24), (34, .bool (decide (y24 < (t16.length : Int))))]) (by kernel_rfl) ?_
        refine WP.seq ?_
        refine WP.cond (b := decide (y24 < (t16.length : Int))) (by kernel_rfl) (fun hc => ?_) (fun hc => ?_)
        · replace hc := of_decide_eq_true hc
          rw [if_pos hc] at h
          have hc27 := hc
          clear hc
          refine WP.skip ?_
          refine QP.next ?_
          refine WP.pick [2, 6, 31, 32, 33] ?_
          refine WP.seq ?_
          refine WP.block ?_
          refine WP.seqR ?_
          by_cases hb28 : 0 ≤ y24 ∧ y24 < (t16.length : Int)
          case neg => rw [if_neg hb28] at h; cases h
          rw [if_pos hb28] at h
          refine WL.tell (op := .indexAddr 32 (.tmp 31) (.tmp 33)) (ty := 0) (d := some 35) (g := none) (by kernel_rfl) (by kernel_rfl) (by kernel_rfl) (Tells.indexAddr (A := AR18) (n := t16.length) (c := cR18) (k := .i64) (j := y24) (by kernel_rfl) (by kernel_rfl) (HR18.isSome hb28.1 hb28.2) hb28.1 hb28.2 sl32) ?_
          refine WL.tellE (op := .load 3 (.tmp 35)) (ty := 3) (d := some 36) (g := none) (by kernel_rfl) (by kernel_rfl) (by kernel_rfl) (HR18.load (i := 0) rfl (agg := false) hb28.1 hb28.2 0 ag3 (fun _ => rfl) (by kernel_rfl)) ?_
          rintro _ rfl
          refine WL.restQ 2 [2, 6, 8, 31, 32, 33] (L' := [(2, .pointer (some ⟨b1, 0, none⟩)), (6, .slice Ay23 y23.length cy23), (8, .int .i64 (t16.getD y24.toNat 0)), (31, .slice AR18 t16.length cR18), (32, .int .i64 (t16.length : Int)), (33, .int .i64 y24)]) (by kernel_rfl) ?_
          refine WP.region ?_
          refine WL.pure 0 6 [2, 6, 31, 32, 33, 37, 40, 42] (L' := [(2, .pointer (some ⟨b1, 0, none⟩)), (6, .slice Ay23 y23.length cy23), (31, .slice AR18 t16.length cR18), (32, .int .i64 (t16.length : Int)), (33, .int .i64 y24), (37, .slice Ay23 y23.length cy23), (40, .int .u8 (IntKind.u8.wrap (shrK .i64 (t16.getD y24.toNat 0) 8))), (42, .int .u8 (IntKind.u8.wrap (t16.getD y24.toNat 0)))]) (by kernel_rfl) (by decide) ?_
          refine WL.op (op := .buildSlice 22 2 #[(0, (.tmp 40)), (1, (.tmp 42))]) (ty := 22) (d := some 43) (g := none) (by kernel_rfl) (by kernel_rfl) (by kernel_rfl) (Does.new (o := .cells #[.int .u8 (IntKind.u8.wrap (shrK .i64 (t16.getD y24.toNat 0) 8)), .int .u8 (IntKind.u8.wrap (t16.getD y24.toNat 0))] 5 (0, 0)) (v := fun r => .slice (some ⟨r, 0, none⟩) 2 2) (fun r => by kernel_rfl)) ?_
          rintro _ _ _ ⟨b29, rfl, rfl, rfl⟩
          have Ho31 : Ow (kInt .u8) G (some ⟨b29, 0, none⟩) 2 ([IntKind.u8.wrap (shrK .i64 (t16.getD y24.toNat 0) 8), IntKind.u8.wrap (t16.getD y24.toNat 0)] : List Int) [(b29, .cells #[.int .u8 (IntKind.u8.wrap (shrK .i64 (t16.getD y24.toNat 0) 8)), .int .u8 (IntKind.u8.wrap (t16.getD y24.toNat 0))] 5 (0, 0))] := Ow.lit (kd := (kInt .u8)) (G := G) (b := b29) (T := 5) (xs := ([IntKind.u8.wrap (shrK .i64 (t16.getD y24.toNat 0) 8), IntKind.u8.wrap (t16.getD y24.toNat 0)] : List Int)) (cs := [.int .u8 (IntKind.u8.wrap (shrK .i64 (t16.getD y24.toNat 0) 8)), .int .u8 (IntKind.u8.wrap (t16.getD y24.toNat 0))]) (.cons (x := (IntKind.u8.wrap (shrK .i64 (t16.getD y24.toNat 0) 8))) (cs := [.int .u8 (IntKind.u8.wrap (shrK .i64 (t16.getD y24.toNat 0) 8))]) (by exact rfl) (.cons (x := (IntKind.u8.wrap (t16.getD y24.toNat 0))) (cs := [.int .u8 (IntKind.u8.wrap (t16.getD y24.toNat 0))]) (by exact rfl) .nil))
          by_cases hb32 : y23.length + ([IntKind.u8.wrap (shrK .i64 (t16.getD y24.toNat 0) 8), IntKind.u8.wrap (t16.getD y24.toNat 0)] : List Int).length ≤ 1073741824
          case neg => rw [if_neg hb32] at h; cases h
          rw [if_pos hb32] at h
          refine WL.op (op := .call { callee := (.builtin .append), args := #[(.tmp 37), (.tmp 43)], argTypes := #[22, 22] }) (ty := 22) (d := some 44) (g := none) (by kernel_rfl) (by kernel_rfl) (by kernel_rfl) (Ow.append (ys := ([IntKind.u8.wrap (shrK .i64 (t16.getD y24.toNat 0) 8), IntKind.u8.wrap (t16.getD y24.toNat 0)] : List Int)) (v := .slice (some ⟨b29, 0, none⟩) ([IntKind.u8.wrap (shrK .i64 (t16.getD y24.toNat 0) 8), IntKind.u8.wrap (t16.getD y24.toNat 0)] : List Int).length 2) Hy23 (i := 2) rfl (by kernel_rfl) (by kernel_rfl) (Ho31.src (i := 0) rfl) sl22 ze5 nt22 (by decide) hb32) ?_
          rintro _ _ _ ⟨rfl, AN33, cN33, CN33, rfl, HN33, rfl⟩
          refine WL.rest 8 [2, 6, 31, 32, 33] (L' := [(2, .pointer (some ⟨b1, 0, none⟩)), (6, .slice AN33 (y23 ++ ([IntKind.u8.wrap (shrK .i64 (t16.getD y24.toNat 0) 8), IntKind.u8.wrap (t16.getD y24.toNat 0)] : List Int)).length cN33), (31, .slice AR18 t16.length cR18), (32, .int .i64 (t16.length : Int)), (33, .int .i64 y24)]) (by kernel_rfl) ?_
          refine QP.blockN ?_
          refine QP.next ?_
          refine WP.pick [2, 6, 31, 32, 33] ?_
          refine WP.regionP [2, 6, 31, 32, 33] (L' := [(2, .pointer (some ⟨b1, 0, none⟩)), (6, .slice AN33 (y23 ++ ([IntKind.u8.wrap (shrK .i64 (t16.getD y24.toNat 0) 8), IntKind.u8.wrap (t16.getD y24.toNat 0)] : List Int)).length cN33), (31, .slice AR18 t16.length cR18), (32, .int .i64 (t16.length : Int)), (33, .int .i64 (IntKind.i64.wrap (y24 + 1)))]) (by kernel_rfl) ?_
          refine QP.dropAt 0 ?_
          refine QP.front (i := 2) rfl ?_
          refine QP.front (i := 2) rfl ?_
          refine QP.front (i := 2) rfl ?_
          refine QP.pick [2, 6, 31, 32, 33] ?_
          exact QP.meet ⟨kn26, Nat.lt_succ_self _, (y23 ++ ([IntKind.u8.wrap (shrK .i64 (t16.getD y24.toNat 0) 8), IntKind.u8.wrap (t16.getD y24.toNat 0)] : List Int)), (IntKind.i64.wrap (y24 + 1)), h, AN33, cN33, CN33, rfl, rfl, rfl, HN33⟩
        · replace hc := of_decide_eq_false hc
          rw [if_neg hc] at h
          have hc27 := hc
          clear hc
          refine WP.exit ?_
          refine QP.thenE ?_
          refine QP.thenE ?_
          refine QP.blockE ?_
          refine QP.dropAt 0 ?_
          refine QP.pick [2, 6] ?_
          exact QP.meet ⟨_, Option.some.inj h, Ay23, cy23, Cy23, rfl, rfl, rfl, Hy23⟩
    · rintro _ _ _ ⟨s21, rfl, As21, cs21, Cs21, rfl, rfl, rfl, Hs21⟩
      clear h
      replace h := hk22
      refine QP.next ?_
      refine WP.pick [2, 6] ?_
      refine WP.seqR ?_
      refine WL.pure 0 2 [2, 6, 46, 47] (L' := [(2, .pointer (some ⟨b1, 0, none⟩)), (6, .slice As21 s21.length cs21), (46, .slice As21 s21.length cs21), (47, .pointer (some ⟨b1, 5, none⟩))]) (by kernel_rfl) (by decide) ?_
      refine WL.tell (op := .load 52 (.tmp 47)) (ty := 52) (d := some 48) (g := none) (by kernel_rfl) (by kernel_rfl) (by kernel_rfl) (Tells.load_box (i := 1) (b := b1) (o := 5) (agg := false) (by rfl) ag52 (by kernel_rfl) (fun _ => rfl) (Nat.le_of_ble_eq_true rfl) (v := .slice Aa0_f5 a0.f5.length ca0_f5) (by kernel_rfl)) ?_
      refine WL.pure 3 5 [2, 6, 46, 50] (L' := [(2, .pointer (some ⟨b1, 0, none⟩)), (6, .slice As21 s21.length cs21), (46, .slice As21 s21.length cs21), (50, .int .u8 (IntKind.u8.wrap (a0.f5.length : Int)))]) (by kernel_rfl) (by decide) ?_
      refine WL.op (op := .buildSlice 22 1 #[(0, (.tmp 50))]) (ty := 22) (d := some 51) (g := none) (by kernel_rfl) (by kernel_rfl) (by kernel_rfl) (Does.new (o := .cells #[.int .u8 (IntKind.u8.wrap (a0.f5.length : Int))] 5 (0, 0)) (v := fun r => .slice (some ⟨r, 0, none⟩) 1 1) (fun r => by kernel_rfl)) ?_
      rintro _ _ _ ⟨b34, rfl, rfl, rfl⟩
      have Ho36 : Ow (kInt .u8) G (some ⟨b34, 0, none⟩) 1 ([IntKind.u8.wrap (a0.f5.length : Int)] : List Int) [(b34, .cells #[.int .u8 (IntKind.u8.wrap (a0.f5.length : Int))] 5 (0, 0))] := Ow.lit (kd := (kInt .u8)) (G := G) (b := b34) (T := 5) (xs := ([IntKind.u8.wrap (a0.f5.length : Int)] : List Int)) (cs := [.int .u8 (IntKind.u8.wrap (a0.f5.length : Int))]) (.cons (x := (IntKind.u8.wrap (a0.f5.length : Int))) (cs := [.int .u8 (IntKind.u8.wrap (a0.f5.length : Int))]) (by exact rfl) .nil)
      by_cases hb37 : s21.length + ([IntKind.u8.wrap (a0.f5.length : Int)] : List Int).length ≤ 1073741824
      case neg => rw [if_neg hb37] at h; cases h
      rw [if_pos hb37] at h
      refine WL.op (op := .call { callee := (.builtin .append), args := #[(.tmp 46), (.tmp 51)], argTypes := #[22, 22] }) (ty := 22) (d := some 52) (g := none) (by kernel_rfl) (by kernel_rfl) (by kernel_rfl) (Ow.append (ys := ([IntKind.u8.wrap (a0.f5.length : Int)] : List Int)) (v := .slice (some ⟨b34, 0, none⟩) ([IntKind.u8.wrap (a0.f5.length : Int)] : List Int).length 1) Hs21 (i := 1) rfl (by kernel_rfl) (by kernel_rfl) (Ho36.src (i := 0) rfl) sl22 ze5 nt22 (by decide) hb37) ?_
      rintro _ _ _ ⟨rfl, AN38, cN38, CN38, rfl, HN38, rfl⟩
      refine WL.restQ 7 [2, 6] (L' := [(2, .pointer (some ⟨b1, 0, none⟩)), (6, .slice AN38 (s21 ++ ([IntKind.u8.wrap (a0.f5.length : Int)] : List Int)).length cN38)]) (by kernel_rfl) ?_
      obtain ⟨v39, hv40, h⟩ := Option.bind_eq_some_iff.1 h
      replace hv40 := Option.some.inj hv40
      have Hn41 := HN38
      rw [hv40] at Hn41
      refine WP.reput 6 (v := .slice AN38 (s21 ++ ([IntKind.u8.wrap (a0.f5.length : Int)] : List Int)).length cN38) (v' := .slice AN38 v39.length cN38) (by kernel_rfl) (by subst hv40; rfl) ?_
      refine WP.pick [2, 6] ?_
      refine WP.dropAt 0 ?_
      refine WP.seq ?_
      refine WP.seqR ?_
      refine WL.pure 0 1 [2, 6, 53] (L' := [(2, .pointer (some ⟨b1, 0, none⟩)), (6, .slice AN38 v39.length cN38), (53, .pointer (some ⟨b1, 5, none⟩))]) (by kernel_rfl) (by decide) ?_
      refine WL.tell (op := .load 52 (.tmp 53)) (ty := 52) (d := some 54) (g := none) (by kernel_rfl) (by kernel_rfl) (by kernel_rfl) (Tells.load_box (i := 1) (b := b1) (o := 5) (agg := false) (by rfl) ag52 (by kernel_rfl) (fun _ => rfl) (Nat.le_of_ble_eq_true rfl) (v := .slice Aa0_f5 a0.f5.length ca0_f5) (by kernel_rfl)) ?_
      refine WL.restQ 2 [2, 6, 54, 55, 56] (L' := [(2, .pointer (some ⟨b1, 0, none⟩)), (6, .slice AN38 v39.length cN38), (54, .slice Aa0_f5 a0.f5.length ca0_f5), (55, .int .i64 (a0.f5.length : Int)), (56, .int .i64 0)]) (by kernel_rfl) ?_
      rw [Option.bind_eq_some_iff] at h
      obtain ⟨os42, h, hk43⟩ := h
      refine WP.cutQ (fun L' G' Γ' => ∃ s42 : (List Int), s42 = os42 ∧ ∃ (As42 : Option Addr), ∃ (cs42 : Nat), ∃ (Cs42 : Chunk), L' = [(2, .pointer (some ⟨b1, 0, none⟩)), (6, .slice As42 s42.length cs42)] ∧ G = G' ∧ Cs42 :: [(b1, .cells #[.int .i64 a0.f0, .int .i64 a0.f1, .int .i64 a0.f2, .slice Aa0_f3 a0.f3.length ca0_f3, .slice Aa0_f4 a0.f4.length ca0_f4, .slice Aa0_f5 a0.f5.length ca0_f5] 54 (0, 0))] :: Γ = Γ' ∧ Ow (kInt .u8) G As42 cs42 s42 Cs42) ?_ ?_
      · clear hk43
        refine WP.block ?_
        refine WP.pick [2, 6, 54, 55, 56] ?_
        refine WP.loopF (fun kn46 L' G' Γ' => ∃ (y44 : List Int), ∃ (y45 : Int), talk_Lay_l1 a0 kn46 y44 y45 = some os42 ∧ ∃ (Ay44 : Option Addr), ∃ (cy44 : Nat), ∃ (Cy44 : Chunk), L' = [(2, .pointer (some ⟨b1, 0, none⟩)), (6, .slice Ay44 y44.length cy44), (54, .slice Aa0_f5 a0.f5.length ca0_f5), (55, .int .i64 (a0.f5.length : Int)), (56, .int .i64 y45)] ∧ G = G' ∧ Cy44 :: [(b1, .cells #[.int .i64 a0.f0, .int .i64 a0.f1, .int .i64 a0.f2, .slice Aa0_f3 a0.f3.length ca0_f3, .slice Aa0_f4 a0.f4.length ca0_f4, .slice Aa0_f5 a0.f5.length ca0_f5] 54 (0, 0))] :: Γ = Γ' ∧ Ow (kInt .u8) G Ay44 cy44 y44 Cy44) ?_ k ⟨v39, 0, h, AN38, cN38, CN38, rfl, rfl, rfl, Hn41⟩
        clear h
        rintro kn47 _ _ _ ⟨y44, y45, h, Ay44, cy44, Cy44, rfl, rfl, rfl, Hy44⟩
        cases kn47 with
        | zero => exact absurd h (by simp [talk_Lay_l1])
        | succ kn47 =>
          simp only [talk_Lay_l1] at h
          refine WP.seqP [2, 6, 54, 55, 56, 57] (L' := [(2, .pointer (some ⟨b1, 0, none⟩)), (6, .slice Ay44 y44.length cy44), (54, .slice Aa0_f5 a0.f5.length ca0_f5), (55, .int .i64 (a0.f5.length : Int)), (56, .int .i64 y45), (57, .bool (decide (y45 < (a0.f5.length : Int))))]) (by kernel_rfl) ?_
          refine WP.seq ?_
          refine WP.cond (b := decide (y45 < (a0.f5.length : Int))) (by kernel_rfl) (fun hc => ?_) (fun hc => ?_)
          · replace hc := of_decide_eq_true hc
            rw [if_pos hc] at h
            have hc48 := hc
            clear hc
            refine WP.skip ?_
            refine QP.next ?_
            refine WP.pick [2, 6, 54, 55, 56] ?_
            refine WP.seq ?_
            refine WP.block ?_
            refine WP.seqR ?_
            by_cases hb49 : 0 ≤ y45 ∧ y45 < (a0.f5.length : Int)
            case neg => rw [if_neg hb49] at h; cases h
            rw [if_pos hb49] at h
            refine WL.tell (op := .indexAddr 52 (.tmp 54) (.tmp 56)) (ty := 0) (d := some 58) (g := none) (by kernel_rfl) (by kernel_rfl) (by kernel_rfl) (Tells.indexAddr (A := Aa0_f5) (n := a0.f5.length) (c := ca0_f5) (k := .i64) (j := y45) (by kernel_rfl) (by kernel_rfl) (Ha0_f5.isSome hb49.1 hb49.2) hb49.1 hb49.2 sl52) ?_
            refine WL.tellE (op := .load 39 (.tmp 58)) (ty := 39) (d := some 59) (g := none) (by kernel_rfl) (by kernel_rfl) (by kernel_rfl) (Ha0_f5.load (agg := true) hb49.1 hb49.2 z39 ag39 (fun h => by cases h) (by kernel_rfl)) ?_
            rintro _ rfl
            refine WL.op (op := .alloc 39) (ty := 0) (d := some 10) (g := none) (by kernel_rfl) (by kernel_rfl) (by kernel_rfl) (Does.new (o := .cells #[.int .i64 0, .int .i64 0, .int .i64 0, .int .i64 0, .string (⟨#[]⟩ : ByteArray)] 39 (0, 0)) (v := fun r => .pointer (some ⟨r, 0, none⟩)) (fun r => by kernel_rfl)) ?_
            rintro _ _ _ ⟨b50, rfl, rfl, rfl⟩
            refine WL.op (op := .store 39 (.tmp 10) (.tmp 59)) (ty := 0) (d := none) (g := none) (by kernel_rfl) (by kernel_rfl) (by kernel_rfl) (Does.store_box (i := 0) (b := b50) (o := 0) (v := .agg #[.int .i64 ((a0.f5.getD y45.toNat z39).f0), .int .i64 ((a0.f5.getD y45.toNat z39).f1), .int .i64 ((a0.f5.getD y45.toNat z39).f2), .int .i64 ((a0.f5.getD y45.toNat z39).f3), .string ((a0.f5.getD y45.toNat z39).f4)]) (by rfl) sz39 (by kernel_rfl) (by kernel_rfl) (by kernel_rfl) (Free.zero _) (Nat.le_of_ble_eq_true rfl) (cells' := #[.int .i64 ((a0.f5.getD y45.toNat z39).f0), .int .i64 ((a0.f5.getD y45.toNat z39).f1), .int .i64 ((a0.f5.getD y45.toNat z39).f2), .int .i64 ((a0.f5.getD y45.toNat z39).f3), .string ((a0.f5.getD y45.toNat z39).f4)]) (by kernel_rfl)) ?_
            rintro _ _ _ ⟨rfl, rfl, rfl⟩
            refine WL.restQ 4 [2, 6, 10, 54, 55, 56] (L' := [(2, .pointer (some ⟨b1, 0, none⟩)), (6, .slice Ay44 y44.length cy44), (10, .pointer (some ⟨b50, 0, none⟩)), (54, .slice Aa0_f5 a0.f5.length ca0_f5), (55, .int .i64 (a0.f5.length : Int)), (56, .int .i64 y45)]) (by kernel_rfl) ?_
            refine WP.seqR ?_
            refine WL.tell (op := .load 39 (.tmp 10)) (ty := 39) (d := some 61) (g := none) (by kernel_rfl) (by kernel_rfl) (by kernel_rfl) (Tells.load_box (i := 0) (b := b50) (o := 0) (agg := true) (by rfl) ag39 (by kernel_rfl) (fun h => by cases h) (Nat.le_of_ble_eq_true rfl) (v := .agg #[.int .i64 ((a0.f5.getD y45.toNat z39).f0), .int .i64 ((a0.f5.getD y45.toNat z39).f1), .int .i64 ((a0.f5.getD y45.toNat z39).f2), .int .i64 ((a0.f5.getD y45.toNat z39).f3), .string ((a0.f5.getD y45.toNat z39).f4)]) (by kernel_rfl)) ?_
            rw [Option.bind_eq_some_iff] at h
            obtain ⟨t51, ht52, h⟩ := h
            refine WL.op (op := .call { callee := (.value (.func 47)), args := #[(.tmp 61)], argTypes := #[39] }) (ty := 44) (d := some 62) (g := none) (by kernel_rfl) (by kernel_rfl) (by kernel_rfl) (Does.call (f := 47) (args := [.agg #[.int .i64 ((a0.f5.getD y45.toNat z39).f0), .int .i64 ((a0.f5.getD y45.toNat z39).f1), .int .i64 ((a0.f5.getD y45.toNat z39).f2), .int .i64 ((a0.f5.getD y45.toNat z39).f3), .string ((a0.f5.getD y45.toNat z39).f4)]]) (by kernel_rfl) (fun W hI => (record_Lay_calls HT kn47 (⟨(a0.f5.getD y45.toNat z39).f0, (a0.f5.getD y45.toNat z39).f1, (a0.f5.getD y45.toNat z39).f2, (a0.f5.getD y45.toNat z39).f3, (a0.f5.getD y45.toNat z39).f4⟩ : T39)  t51 ht52 hI))) ?_
            rintro _ _ _ ⟨AR530, cR530, CR530, rfl, HR530, rfl, rfl⟩
            refine WL.restQ 2 [2, 6, 11, 54, 55, 56] (L' := [(2, .pointer (some ⟨b1, 0, none⟩)), (6, .slice Ay44 y44.length cy44), (11, .slice AR530 t51.1.length cR530), (54, .slice Aa0_f5 a0.f5.length ca0_f5), (55, .int .i64 (a0.f5.length : Int)), (56, .int .i64 y45)]) (by kernel_rfl) ?_
            refine WP.dropAt 1 ?_
            refine WP.region ?_
            refine WL.pure 0 2 [2, 6, 54, 55, 56, 65, 66] (L' := [(2, .pointer (some ⟨b1, 0, none⟩)), (6, .slice Ay44 y44.length cy44), (54, .slice Aa0_f5 a0.f5.length ca0_f5), (55, .int .i64 (a0.f5.length : Int)), (56, .int .i64 y45), (65, .slice Ay44 y44.length cy44), (66, .slice AR530 t51.1.length cR530)]) (by kernel_rfl) (by decide) ?_
            by_cases hb55 : y44.length + t51.1.length ≤ 1073741824
            case neg => rw [if_neg hb55] at h; cases h
            rw [if_pos hb55] at h
            refine WL.op (op := .call { callee := (.builtin .append), args := #[(.tmp 65), (.tmp 66)], argTypes := #[22, 22] }) (ty := 22) (d := some 67) (g := none) (by kernel_rfl) (by kernel_rfl) (by kernel_rfl) (Ow.append (ys := t51.1) (v := .slice AR530 t51.1.length cR530) Hy44 (i := 1) rfl (by kernel_rfl) (by kernel_rfl) (HR530.src (i := 0) rfl) sl22 ze5 nt22 (by decide) hb55) ?_
            rintro _ _ _ ⟨rfl, AN56, cN56, CN56, rfl, HN56, rfl⟩
            refine WL.rest 3 [2, 6, 54, 55, 56] (L' := [(2, .pointer (some ⟨b1, 0, none⟩)), (6, .slice AN56 (y44 ++ t51.1).length cN56), (54, .slice Aa0_f5 a0.f5.length ca0_f5), (55, .int .i64 (a0.f5.length : Int)), (56, .int .i64 y45)]) (by kernel_rfl) ?_
            refine QP.blockN ?_
            refine QP.next ?_
            refine WP.pick [2, 6, 54, 55, 56] ?_
            refine WP.regionP [2, 6, 54, 55, 56] (L' := [(2, .pointer (some ⟨b1, 0, none⟩)), (6, .slice AN56 (y44 ++ t51.1).length cN56), (54, .slice Aa0_f5 a0.f5.length ca0_f5), (55, .int .i64 (a0.f5.length : Int)), (56, .int .i64 (IntKind.i64.wrap (y45 + 1)))]) (by kernel_rfl) ?_
            refine QP.dropAt 0 ?_
            refine QP.front (i := 1) rfl ?_
            refine QP.front (i := 1) rfl ?_
            refine QP.pick [2, 6, 54, 55, 56] ?_
            exact QP.meet ⟨kn47, Nat.lt_succ_self _, (y44 ++ t51.1), (IntKind.i64.wrap (y45 + 1)), h, AN56, cN56, CN56, rfl, rfl, rfl, HN56⟩
          · replace hc := of_decide_eq_false hc
            rw [if_neg hc] at h
            have hc48 := hc
            clear hc
            refine WP.exit ?_
            refine QP.thenE ?_
            refine QP.thenE ?_
            refine QP.blockE ?_
            refine QP.pick [2, 6] ?_
            exact QP.meet ⟨_, Option.some.inj h, Ay44, cy44, Cy44, rfl, rfl, rfl, Hy44⟩
      · rintro _ _ _ ⟨s42, rfl, As42, cs42, Cs42, rfl, rfl, rfl, Hs42⟩
        clear h
        replace h := hk43
        refine QP.next ?_
        refine WP.pick [2, 6] ?_
        refine WP.seqR ?_
        refine WL.pure 0 1 [6, 69] (L' := [(6, .slice As42 s42.length cs42), (69, .pointer (some ⟨b1, 0, none⟩))]) (by kernel_rfl) (by decide) ?_
        refine WL.tell (op := .load 3 (.tmp 69)) (ty := 3) (d := some 70) (g := none) (by kernel_rfl) (by kernel_rfl) (by kernel_rfl) (Tells.load_box (i := 1) (b := b1) (o := 0) (agg := false) (by rfl) ag3 (by kernel_rfl) (fun _ => rfl) (Nat.le_of_ble_eq_true rfl) (v := .int .i64 a0.f0) (by kernel_rfl)) ?_
        refine WL.pure 2 3 [70, 71] (L' := [(70, .int .i64 a0.f0), (71, .slice As42 s42.length cs42)]) (by kernel_rfl) (by decide) ?_
        rw [Option.bind_eq_some_iff] at h
        obtain ⟨t57, ht58, h⟩ := h
        refine WL.op (op := .call { callee := (.value (.func 48)), args := #[(.tmp 70), (.tmp 71)], argTypes := #[3, 22] }) (ty := 44) (d := some 72) (g := none) (by kernel_rfl) (by kernel_rfl) (by kernel_rfl) (Does.call (Φ := fun v' G' Γ' => ∃ (AR590 : Option Addr), ∃ (cR590 : Nat), ∃ (CR590 : Chunk), v' = .tuple #[.slice AR590 t57.1.length cR590, .int .i64 t57.2] ∧ Ow (kInt .u8) G AR590 cR590 t57.1 CR590 ∧ G = G' ∧ CR590 :: Cs42 :: [(b1, .cells #[.int .i64 a0.f0, .int .i64 a0.f1, .int .i64 a0.f2, .slice Aa0_f3 a0.f3.length ca0_f3, .slice Aa0_f4 a0.f4.length ca0_f4, .slice Aa0_f5 a0.f5.length ca0_f5] 54 (0, 0))] :: Γ = Γ') (f := 48) (args := [.int .i64 a0.f0, .slice As42 s42.length cs42]) (by kernel_rfl) (fun W hI => (Calls.lendN (Φ := fun v' N => ∃ (AR590 : Option Addr), ∃ (cR590 : Nat), ∃ (CR590 : Chunk), v' = .tuple #[.slice AR590 t57.1.length cR590, .int .i64 t57.2] ∧ Ow (kInt .u8) G AR590 cR590 t57.1 CR590 ∧ N = [CR590]) (H := []) (i := 0) rfl hI (fun _ e l61 nl61 hI => by subst e; exact (((frame_Lay_calls k a0.f0 s42 As42 cs42 (Hs42.rdN l61 nl61) t57 ht58 hI)).mono fun _ _ hr => by obtain ⟨_, _, _, rfl, hd, hI⟩ := hr; obtain ⟨AR590, cR590, CR590, rfl, HR590, rfl, rfl⟩ := hd; exact ⟨_, _, _, rfl, ⟨[CR590], ⟨AR590, cR590, CR590, rfl, (HR590.flat (kInt_flat _)), rfl⟩, rfl, rfl⟩, hI⟩))).mono fun _ _ hr => by obtain ⟨_, _, _, rfl, ⟨_, hd, rfl, rfl⟩, hI⟩ := hr; obtain ⟨AR590, cR590, CR590, rfl, HR590, rfl⟩ := hd; exact ⟨_, _, _, rfl, ⟨AR590, cR590, CR590, rfl, HR590, rfl, rfl⟩, hI⟩)) ?_
        rintro _ _ _ ⟨AR590, cR590, CR590, rfl, HR590, rfl, rfl⟩
        refine WL.restQ 4 [4, 5] (L' := [(4, .slice AR590 t57.1.length cR590), (5, .int .i64 t57.2)]) (by kernel_rfl) ?_
        refine WP.dropAt 2 ?_
        refine WP.dropAt 1 ?_
        refine WP.ret ?_
        obtain rfl := Option.some.inj h
        exact QP.returned [4, 5] [.slice AR590 t57.1.length cR590, .int .i64 t57.2] _ (by kernel_rfl) (by kernel_rfl) (by kernel_rfl) (fun W hI => ⟨_, _, _, rfl, ⟨AR590, cR590, CR590, rfl, HR590, rfl, rfl⟩, hI⟩)

/-! ### (*grapevine/talk.letter).number: function 66 -/
def talk_letter_number_l0 (a1 : Int) : Nat → Int → Int → T101 → Option (Int × T101)
  | 0, _, _, _ => none
  | k + 1, y3, y4, y5 => (if y4 < a1 then (if y5.f1 < (y5.f0.length : Int) then (if 0 ≤ y5.f1 ∧ y5.f1 < (y5.f0.length : Int) then talk_letter_number_l0 a1 k (IntKind.i64.wrap ((IntKind.i64.wrap (y3 * 256)) + (IntKind.i64.wrap (y5.f0.getD y5.f1.toNat 0)))) (IntKind.i64.wrap (y4 + 1)) (⟨y5.f0, IntKind.i64.wrap (y5.f1 + 1), y5.f2, y5.f3, y5.f4, y5.f5, y5.f6, y5.f7⟩ : T101) else none) else talk_letter_number_l0 a1 k (IntKind.i64.wrap (y3 * 256)) (IntKind.i64.wrap (y4 + 1)) (⟨y5.f0, IntKind.i64.wrap (y5.f1 + 1), y5.f2, y5.f3, y5.f4, y5.f5, y5.f6, y5.f7⟩ : T101)) else some (y3, y5))
def talk_letter_number (k : Nat) (a0 : T101) (a1 : Int) : Option (Int × T101) := ((talk_letter_number_l0 a1 k 0 0 a0).bind fun s1 => some (s1.1, s1.2))
set_option maxHeartbeats 4000000 in
theorem talk_letter_number_calls {B : World} {G : GMap} {Γ : List Chunk} {W : World} (k : Nat) (a0 : T101) (a1 : Int) (b0 : Nat) (Aa0_f0 : Option Addr) (ca0_f0 : Nat) (Ca0_f0 : Chunk) (Ha0_f0 : Ow (kInt .u8) G Aa0_f0 ca0_f0 a0.f0 Ca0_f0) (Aa0_f5 : Option Addr) (ca0_f5 : Nat) (Ca0_f5 : Chunk) (Ha0_f5 : Ow (kInt .i64) G Aa0_f5 ca0_f5 a0.f5 Ca0_f5) (Aa0_f6 : Option Addr) (ca0_f6 : Nat) (Ca0_f6 : Chunk) (Ha0_f6 : Ow (kInt .i64) G Aa0_f6 ca0_f6 a0.f6 Ca0_f6) (Aa0_f7 : Option Addr) (ca0_f7 : Nat) (Ca0_f7 : Chunk) (Ha0_f7 : Ow k39 G Aa0_f7 ca0_f7 a0.f7 Ca0_f7) (r : Int × T101) (h : talk_letter_number k a0 a1 = some r) (hI : Inv B G ([(b0, .cells #[.slice Aa0_f0 a0.f0.length ca0_f0, .int .i64 a0.f1, .int .i64 a0.f2, .int .i64 a0.f3, .int .i64 a0.f4, .slice Aa0_f5 a0.f5.length ca0_f5, .slice Aa0_f6 a0.f6.length ca0_f6, .slice Aa0_f7 a0.f7.length ca0_f7] 101 (0, 0))] :: Ca0_f0 :: Ca0_f5 :: Ca0_f6 :: Ca0_f7 :: Γ) W) :
    Calls Tryd.prog 66 [.pointer (some ⟨b0, 0, none⟩), .int .i64 a1].toArray W (Ret B (fun v G' Γ' => ∃ (ARp0_0 : Option Addr), ∃ (cRp0_0 : Nat), ∃ (CRp0_0 : Chunk), ∃ (ARp0_1 : Option Addr), ∃ (cRp0_1 : Nat), ∃ (CRp0_1 : Chunk), ∃ (ARp0_2 : Option Addr), ∃ (cRp0_2 : Nat), ∃ (CRp0_2 : Chunk), ∃ (ARp0_3 : Option Addr), ∃ (cRp0_3 : Nat), ∃ (CRp0_3 : Chunk), v = .int .i64 r.1 ∧ Ow (kInt .u8) G' ARp0_0 cRp0_0 r.2.f0 CRp0_0 ∧ Ow (kInt .i64) G' ARp0_1 cRp0_1 r.2.f5 CRp0_1 ∧ Ow (kInt .i64) G' ARp0_2 cRp0_2 r.2.f6 CRp0_2 ∧ Ow k39 G' ARp0_3 cRp0_3 r.2.f7 CRp0_3 ∧ G = G' ∧ [(b0, .cells #[.slice ARp0_0 r.2.f0.length cRp0_0, .int .i64 r.2.f1, .int .i64 r.2.f2, .int .i64 r.2.f3, .int .i64 r.2.f4, .slice ARp0_1 r.2.f5.length cRp0_1, .slice ARp0_2 r.2.f6.length cRp0_2, .slice ARp0_3 r.2.f7.length cRp0_3] 101 (0, 0))] :: CRp0_0 :: CRp0_1 :: CRp0_2 :: CRp0_3 :: Γ = Γ')) := by
  refine calls_WP (Γ := [(b0, .cells #[.slice Aa0_f0 a0.f0.length ca0_f0, .int .i64 a0.f1, .int .i64 a0.f2, .int .i64 a0.f3, .int .i64 a0.f4, .slice Aa0_f5 a0.f5.length ca0_f5, .slice Aa0_f6 a0.f6.length ca0_f6, .slice Aa0_f7 a0.f7.length ca0_f7] 101 (0, 0))] :: Ca0_f0 :: Ca0_f5 :: Ca0_f6 :: Ca0_f7 :: Γ) (G := G) (B := B) Tryd.func66 rfl (by kernel_rfl) ?_ hI
  clear hI
  unfold talk_letter_number at h
  refine WP.seqP [0, 1] (L' := [(0, .pointer (some ⟨b0, 0, none⟩)), (1, .int .i64 a1)]) (by kernel_rfl) ?_
  refine WP.seqP [0, 1, 5] (L' := [(0, .pointer (some ⟨b0, 0, none⟩)), (1, .int .i64 a1), (5, .int .i64 0)]) (by kernel_rfl) ?_
  refine WP.seq ?_
  refine WP.seqP [0, 5, 6, 7] (L' := [(0, .pointer (some ⟨b0, 0, none⟩)), (5, .int .i64 0), (6, .int .i64 a1), (7, .int .i64 0)]) (by kernel_rfl) ?_
  rw [Option.bind_eq_some_iff] at h
  obtain ⟨os1, h, hk2⟩ := h
  refine WP.cutQ (fun L' G' Γ' => ∃ s1 : Int × T101, s1 = os1 ∧ ∃ (As1_2_f0 : Option Addr), ∃ (cs1_2_f0 : Nat), ∃ (Cs1_2_f0 : Chunk), ∃ (As1_2_f5 : Option Addr), ∃ (cs1_2_f5 : Nat), ∃ (Cs1_2_f5 : Chunk), ∃ (As1_2_f6 : Option Addr), ∃ (cs1_2_f6 : Nat), ∃ (Cs1_2_f6 : Chunk), ∃ (As1_2_f7 : Option Addr), ∃ (cs1_2_f7 : Nat), ∃ (Cs1_2_f7 : Chunk), L' = [(5, .int .i64 s1.1)] ∧ G = G' ∧ [(b0, .cells #[.slice As1_2_f0 s1.2.f0.length cs1_2_f0, .int .i64 s1.2.f1, .int .i64 s1.2.f2, .int .i64 s1.2.f3, .int .i64 s1.2.f4, .slice As1_2_f5 s1.2.f5.length cs1_2_f5, .slice As1_2_f6 s1.2.f6.length cs1_2_f6, .slice As1_2_f7 s1.2.f7.length cs1_2_f7] 101 (0, 0))] :: Cs1_2_f0 :: Cs1_2_f5 :: Cs1_2_f6 :: Cs1_2_f7 :: Γ = Γ' ∧ Ow (kInt .u8) G As1_2_f0 cs1_2_f0 s1.2.f0 Cs1_2_f0 ∧ Ow (kInt .i64) G As1_2_f5 cs1_2_f5 s1.2.f5 Cs1_2_f5 ∧ Ow (kInt .i64) G As1_2_f6 cs1_2_f6 s1.2.f6 Cs1_2_f6 ∧ Ow k39 G As1_2_f7 cs1_2_f7 s1.2.f7 Cs1_2_f7) ?_ ?_
  · clear hk2
    refine WP.block ?_
    refine WP.pick [0, 5, 6, 7] ?_
    refine WP.loopF (fun kn6 L' G' Γ' => ∃ (y3 : Int), ∃ (y4 : Int), ∃ (y5 : T101), talk_letter_number_l0 a1 kn6 y3 y4 y5 = some os1 ∧ ∃ (Ay5_f0 : Option Addr), ∃ (cy5_f0 : Nat), ∃ (Cy5_f0 : Chunk), ∃ (Ay5_f5 : Option Addr), ∃ (cy5_f5 : Nat), ∃ (Cy5_f5 : Chunk), ∃ (Ay5_f6 : Option Addr), ∃ (cy5_f6 : Nat), ∃ (Cy5_f6 : Chunk), ∃ (Ay5_f7 : Option Addr), ∃ (cy5_f7 : Nat), ∃ (Cy5_f7 : Chunk), L' = [(0, .pointer (some ⟨b0, 0, none⟩)), (5, .int .i64 y3), (6, .int .i64 a1), (7, .int .i64 y4)] ∧ G = G' ∧ [(b0, .cells #[.slice Ay5_f0 y5.f0.length cy5_f0, .int .i64 y5.f1, .int .i64 y5.f2, .int .i64 y5.f3, .int .i64 y5.f4, .slice Ay5_f5 y5.f5.length cy5_f5, .slice Ay5_f6 y5.f6.length cy5_f6, .slice Ay5_f7 y5.f7.length cy5_f7] 101 (0, 0))] :: Cy5_f0 :: Cy5_f5 :: Cy5_f6 :: Cy5_f7 :: Γ = Γ' ∧ Ow (kInt .u8) G Ay5_f0 cy5_f0 y5.f0 Cy5_f0 ∧ Ow (kInt .i64) G Ay5_f5 cy5_f5 y5.f5 Cy5_f5 ∧ Ow (kInt .i64) G Ay5_f6 cy5_f6 y5.f6 Cy5_f6 ∧ Ow k39 G Ay5_f7 cy5_f7 y5.f7 Cy5_f7) ?_ k ⟨0, 0, a0, h, Aa0_f0, ca0_f0, Ca0_f0, Aa0_f5, ca0_f5, Ca0_f5, Aa0_f6, ca0_f6, Ca0_f6, Aa0_f7, ca0_f7, Ca0_f7, rfl, rfl, rfl, Ha0_f0, Ha0_f5, Ha0_f6, Ha0_f7⟩
    clear h
    rintro kn7 _ _ _ ⟨y3, y4, y5, h, Ay5_f0, cy5_f0, Cy5_f0, Ay5_f5, cy5_f5, Cy5_f5, Ay5_f6, cy5_f6, Cy5_f6, Ay5_f7, cy5_f7, Cy5_f7, rfl, rfl, rfl, Hy5_f0, Hy5_f5, Hy5_f6, Hy5_f7⟩
    cases kn7 with
    | zero => exact absurd h (by simp [talk_letter_number_l0])
    | succ kn7 =>
      simp only [talk_letter_number_l0] at h
      refine WP.seqP [0, 5, 6, 7, 8] (L' := [(0, .pointer (some ⟨b0, 0, none⟩)), (5, .int .i64 y3), (6, .int .i64 a1), (7, .int .i64 y4), (8, .bool (decide (y4 < a1)))]) (by kernel_rfl) ?_
      refine WP.seq ?_
      refine WP.cond (b := decide (y4 < a1)) (by kernel_rfl) (fun hc => ?_) (fun hc => ?_)
      · replace hc := of_decide_eq_true hc
        rw [if_pos hc] at h
        have hc8 := hc
        clear hc
        refine WP.skip ?_
        refine QP.next ?_
        refine WP.pick [0, 5, 6, 7] ?_
        refine WP.seq ?_
        refine WP.block ?_
        refine WP.seqP [0, 5, 6, 7] (L' := [(0, .pointer (some ⟨b0, 0, none⟩)), (5, .int .i64 (IntKind.i64.wrap (y3 * 256))), (6, .int .i64 a1), (7, .int .i64 y4)]) (by kernel_rfl) ?_
        refine WP.seq ?_
        refine WP.seq ?_
        refine WP.any (N := 10) (S := [⟨some 11, [0], []⟩, ⟨some 12, [11], [0]⟩, ⟨some 13, [12], [1]⟩, ⟨some 14, [13], [2]⟩, ⟨some 15, [0], []⟩, ⟨some 16, [15], [4]⟩, ⟨some 17, [16], [5]⟩, ⟨some 18, [17], [6]⟩, ⟨some 19, [18], [7]⟩, ⟨some 20, [14, 19], [3, 8]⟩]) (kw := 10) (G0 := G) (Γ0 := [(b0, .cells #[.slice Ay5_f0 y5.f0.length cy5_f0, .int .i64 y5.f1, .int .i64 y5.f2, .int .i64 y5.f3, .int .i64 y5.f4, .slice Ay5_f5 y5.f5.length cy5_f5, .slice Ay5_f6 y5.f6.length cy5_f6, .slice Ay5_f7 y5.f7.length cy5_f7] 101 (0, 0))] :: Cy5_f0 :: Cy5_f5 :: Cy5_f6 :: Cy5_f7 :: Γ) mo (by kernel_rfl) (fun hS => ?_)
        refine WA.pure [0, 1, 2, 4, 5, 6] [0, 5, 6, 7, 13, 17] (m := 4) (b' := 119) (L' := [(0, .pointer (some ⟨b0, 0, none⟩)), (5, .int .i64 (IntKind.i64.wrap (y3 * 256))), (6, .int .i64 a1), (7, .int .i64 y4), (13, .pointer (some ⟨b0, 1, none⟩)), (17, .pointer (some ⟨b0, 0, none⟩))]) (by kernel_rfl) (NoPanic.then (NoPanic.then (NoPanic.block (NoPanic.then (NoPanic.then (NoPanic.block (NoPanic.then (NoPanic.then (NoPanic.body))))))))) Under.refl hS (by kernel_rfl) ?_
        refine WA.tellD [] (i := 3) (m := 3) (b' := 127) (by kernel_rfl) (NoPanic.then (NoPanic.then (NoPanic.block (NoPanic.then (NoPanic.then (NoPanic.block (NoPanic.then (NoPanic.then (NoPanic.body))))))))) Under.refl hS (by kernel_rfl) (op := .load 3 (.tmp 13)) (ty := 3) (d := some 14) (g := none) (by kernel_rfl) (by kernel_rfl) (by kernel_rfl) (Tells.load_box (i := 0) (b := b0) (o := 1) (agg := false) (by rfl) ag3 (by kernel_rfl) (fun _ => rfl) (Nat.le_of_ble_eq_true rfl) (v := .int .i64 y5.f1) (by kernel_rfl)) ?_
        refine WA.tellD [] (i := 7) (m := 2) (b' := 255) (by kernel_rfl) (NoPanic.then (NoPanic.then (NoPanic.block (NoPanic.then (NoPanic.then (NoPanic.block (NoPanic.then (NoPanic.then (NoPanic.body))))))))) Under.refl hS (by kernel_rfl) (op := .load 22 (.tmp 17)) (ty := 22) (d := some 18) (g := none) (by kernel_rfl) (by kernel_rfl) (by kernel_rfl) (Tells.load_box (i := 0) (b := b0) (o := 0) (agg := false) (by rfl) ag22 (by kernel_rfl) (fun _ => rfl) (Nat.le_of_ble_eq_true rfl) (v := .slice Ay5_f0 y5.f0.length cy5_f0) (by kernel_rfl)) ?_
        refine WA.pure [8, 9] [0, 5, 6, 7, 20] (m := 0) (b' := 1023) (L' := [(0, .pointer (some ⟨b0, 0, none⟩)), (5, .int .i64 (IntKind.i64.wrap (y3 * 256))), (6, .int .i64 a1), (7, .int .i64 y4), (20, .bool (decide (y5.f1 < (y5.f0.length : Int))))]) (by kernel_rfl) (NoPanic.then (NoPanic.then (NoPanic.block (NoPanic.then (NoPanic.then (NoPanic.block (NoPanic.then (NoPanic.then (NoPanic.body))))))))) Under.refl hS (by kernel_rfl) ?_
        refine WA.done hS (by kernel_rfl) ?_
        refine QP.pick [0, 5, 6, 7, 20] ?_
        refine QP.next ?_
        refine WP.cond (b := decide (y5.f1 < (y5.f0.length : Int))) (by kernel_rfl) (fun hc => ?_) (fun hc => ?_)
        · replace hc := of_decide_eq_true hc
          rw [if_pos hc] at h
          have hc9 := hc
          clear hc
          skip
          refine WP.any (N := 14) (S := [⟨some 21, [5], []⟩, ⟨some 22, [0], []⟩, ⟨some 23, [22], [1]⟩, ⟨some 24, [23], [2]⟩, ⟨some 25, [24], [3]⟩, ⟨some 26, [0], []⟩, ⟨some 27, [26], [5]⟩, ⟨some 28, [27], [6]⟩, ⟨some 29, [28], [7]⟩, ⟨some 30, [25, 29], [4, 8]⟩, ⟨some 31, [30], [9]⟩, ⟨some 32, [31], [10]⟩, ⟨some 33, [21, 32], [0, 11]⟩, ⟨some 5, [33], [0, 1, 2, 3, 4, 5, 6, 7, 8, 9, 10, 11, 12]⟩]) (kw := 14) (G0 := G) (Γ0 := [(b0, .cells #[.slice Ay5_f0 y5.f0.length cy5_f0, .int .i64 y5.f1, .int .i64 y5.f2, .int .i64 y5.f3, .int .i64 y5.f4, .slice Ay5_f5 y5.f5.length cy5_f5, .slice Ay5_f6 y5.f6.length cy5_f6, .slice Ay5_f7 y5.f7.length cy5_f7] 101 (0, 0))] :: Cy5_f0 :: Cy5_f5 :: Cy5_f6 :: Cy5_f7 :: Γ) mo (by kernel_rfl) (fun hS => ?_)
          refine WA.pure [0, 1, 2, 3, 5, 6, 7] [0, 5, 6, 7, 21, 24, 28] (m := 7) (b' := 239) (L' := [(0, .pointer (some ⟨b0, 0, none⟩)), (5, .int .i64 (IntKind.i64.wrap (y3 * 256))), (6, .int .i64 a1), (7, .int .i64 y4), (21, .int .i64 (IntKind.i64.wrap (y3 * 256))), (24, .pointer (some ⟨b0, 0, none⟩)), (28, .pointer (some ⟨b0, 1, none⟩))]) (by kernel_rfl) (NoPanic.then (NoPanic.block (NoPanic.then (NoPanic.then (NoPanic.block (NoPanic.then (NoPanic.then (NoPanic.body)))))))) Under.refl hS (by kernel_rfl) ?_
          refine WA.tellD [] (i := 4) (m := 6) (b' := 255) (by kernel_rfl) (NoPanic.then (NoPanic.block (NoPanic.then (NoPanic.then (NoPanic.block (NoPanic.then (NoPanic.then (NoPanic.body)))))))) Under.refl hS (by kernel_rfl) (op := .load 22 (.tmp 24)) (ty := 22) (d := some 25) (g := none) (by kernel_rfl) (by kernel_rfl) (by kernel_rfl) (Tells.load_box (i := 0) (b := b0) (o := 0) (agg := false) (by rfl) ag22 (by kernel_rfl) (fun _ => rfl) (Nat.le_of_ble_eq_true rfl) (v := .slice Ay5_f0 y5.f0.length cy5_f0) (by kernel_rfl)) ?_
          refine WA.tellD [] (i := 8) (m := 5) (b' := 511) (by kernel_rfl) (NoPanic.then (NoPanic.block (NoPanic.then (NoPanic.then (NoPanic.block (NoPanic.then (NoPanic.then (NoPanic.body)))))))) Under.refl hS (by kernel_rfl) (op := .load 3 (.tmp 28)) (ty := 3) (d := some 29) (g := none) (by kernel_rfl) (by kernel_rfl) (by kernel_rfl) (Tells.load_box (i := 0) (b := b0) (o := 1) (agg := false) (by rfl) ag3 (by kernel_rfl) (fun _ => rfl) (Nat.le_of_ble_eq_true rfl) (v := .int .i64 y5.f1) (by kernel_rfl)) ?_
          by_cases hb10 : 0 ≤ y5.f1 ∧ y5.f1 < (y5.f0.length : Int)
          case neg => rw [if_neg hb10] at h; cases h
          rw [if_pos hb10] at h
          refine WA.tellD [] (i := 9) (m := 4) (b' := 1023) (by kernel_rfl) (NoPanic.then (NoPanic.block (NoPanic.then (NoPanic.then (NoPanic.block (NoPanic.then (NoPanic.then (NoPanic.body)))))))) Under.refl hS (by kernel_rfl) (op := .indexAddr 22 (.tmp 25) (.tmp 29)) (ty := 0) (d := some 30) (g := none) (by kernel_rfl) (by kernel_rfl) (by kernel_rfl) (Tells.indexAddr (A := Ay5_f0) (n := y5.f0.length) (c := cy5_f0) (k := .i64) (j := y5.f1) (by kernel_rfl) (by kernel_rfl) (Hy5_f0.isSome hb10.1 hb10.2) hb10.1 hb10.2 sl22) ?_
          refine WA.tellDE [] (i := 10) (m := 3) (b' := 2047) (by kernel_rfl) (NoPanic.then (NoPanic.block (NoPanic.then (NoPanic.then (NoPanic.block (NoPanic.then (NoPanic.then (NoPanic.body)))))))) Under.refl hS (by kernel_rfl) (op := .load 5 (.tmp 30)) (ty := 5) (d := some 31) (g := none) (by kernel_rfl) (by kernel_rfl) (by kernel_rfl) (Hy5_f0.load (i := 1) rfl (agg := false) hb10.1 hb10.2 0 ag5 (fun _ => rfl) (by kernel_rfl)) ?_
          rintro _ rfl
          refine WA.pure [11, 12, 13] [0, 5, 6, 7] (m := 0) (b' := 16383) (L' := [(0, .pointer (some ⟨b0, 0, none⟩)), (5, .int .i64 (IntKind.i64.wrap ((IntKind.i64.wrap (y3 * 256)) + (IntKind.i64.wrap (y5.f0.getD y5.f1.toNat 0))))), (6, .int .i64 a1), (7, .int .i64 y4)]) (by kernel_rfl) (NoPanic.then (NoPanic.block (NoPanic.then (NoPanic.then (NoPanic.block (NoPanic.then (NoPanic.then (NoPanic.body)))))))) Under.refl hS (by kernel_rfl) ?_
          refine WA.done hS (by kernel_rfl) ?_
          refine QP.pick [0, 5, 6, 7] ?_
          refine QP.next ?_
          refine WP.pick [0, 5, 6, 7] ?_
          refine WP.region ?_
          refine WL.pure 0 3 [0, 5, 6, 7, 34, 36] (L' := [(0, .pointer (some ⟨b0, 0, none⟩)), (5, .int .i64 (IntKind.i64.wrap ((IntKind.i64.wrap (y3 * 256)) + (IntKind.i64.wrap (y5.f0.getD y5.f1.toNat 0))))), (6, .int .i64 a1), (7, .int .i64 y4), (34, .pointer (some ⟨b0, 0, none⟩)), (36, .pointer (some ⟨b0, 1, none⟩))]) (by kernel_rfl) (by decide) ?_
          refine WL.tell (op := .load 3 (.tmp 36)) (ty := 3) (d := some 37) (g := none) (by kernel_rfl) (by kernel_rfl) (by kernel_rfl) (Tells.load_box (i := 0) (b := b0) (o := 1) (agg := false) (by rfl) ag3 (by kernel_rfl) (fun _ => rfl) (Nat.le_of_ble_eq_true rfl) (v := .int .i64 y5.f1) (by kernel_rfl)) ?_
          refine WL.pure 4 7 [0, 5, 6, 7, 38, 40] (L' := [(0, .pointer (some ⟨b0, 0, none⟩)), (5, .int .i64 (IntKind.i64.wrap ((IntKind.i64.wrap (y3 * 256)) + (IntKind.i64.wrap (y5.f0.getD y5.f1.toNat 0))))), (6, .int .i64 a1), (7, .int .i64 y4), (38, .int .i64 (IntKind.i64.wrap (y5.f1 + 1))), (40, .pointer (some ⟨b0, 1, none⟩))]) (by kernel_rfl) (by decide) ?_
          refine WL.op (op := .store 3 (.tmp 40) (.tmp 38)) (ty := 0) (d := none) (g := none) (by kernel_rfl) (by kernel_rfl) (by kernel_rfl) (Does.store_box (i := 0) (b := b0) (o := 1) (v := .int .i64 (IntKind.i64.wrap (y5.f1 + 1))) (by rfl) sz3 (by kernel_rfl) (by kernel_rfl) (by kernel_rfl) (Free.zero _) (Nat.le_of_ble_eq_true rfl) (cells' := #[.slice Ay5_f0 y5.f0.length cy5_f0, .int .i64 (IntKind.i64.wrap (y5.f1 + 1)), .int .i64 y5.f2, .int .i64 y5.f3, .int .i64 y5.f4, .slice Ay5_f5 y5.f5.length cy5_f5, .slice Ay5_f6 y5.f6.length cy5_f6, .slice Ay5_f7 y5.f7.length cy5_f7]) (by kernel_rfl)) ?_
          rintro _ _ _ ⟨rfl, rfl, rfl⟩
          refine WL.rest 8 [0, 5, 6, 7] (L' := [(0, .pointer (some ⟨b0, 0, none⟩)), (5, .int .i64 (IntKind.i64.wrap ((IntKind.i64.wrap (y3 * 256)) + (IntKind.i64.wrap (y5.f0.getD y5.f1.toNat 0))))), (6, .int .i64 a1), (7, .int .i64 y4)]) (by kernel_rfl) ?_
          refine QP.blockN ?_
          refine QP.next ?_
          refine WP.pick [0, 5, 6, 7] ?_
          refine WP.regionP [0, 5, 6, 7] (L' := [(0, .pointer (some ⟨b0, 0, none⟩)), (5, .int .i64 (IntKind.i64.wrap ((IntKind.i64.wrap (y3 * 256)) + (IntKind.i64.wrap (y5.f0.getD y5.f1.toNat 0))))), (6, .int .i64 a1), (7, .int .i64 (IntKind.i64.wrap (y4 + 1)))]) (by kernel_rfl) ?_
          refine QP.front (i := 4) rfl ?_
          refine QP.front (i := 4) rfl ?_
          refine QP.front (i := 4) rfl ?_
          refine QP.front (i := 4) rfl ?_
          refine QP.front (i := 4) rfl ?_
          refine QP.pick [0, 5, 6, 7] ?_
          exact QP.meet ⟨kn7, Nat.lt_succ_self _, (IntKind.i64.wrap ((IntKind.i64.wrap (y3 * 256)) + (IntKind.i64.wrap (y5.f0.getD y5.f1.toNat 0)))), (IntKind.i64.wrap (y4 + 1)), (⟨y5.f0, IntKind.i64.wrap (y5.f1 + 1), y5.f2, y5.f3, y5.f4, y5.f5, y5.f6, y5.f7⟩ : T101), h, Ay5_f0, cy5_f0, Cy5_f0, Ay5_f5, cy5_f5, Cy5_f5, Ay5_f6, cy5_f6, Cy5_f6, Ay5_f7, cy5_f7, Cy5_f7, rfl, rfl, rfl, Hy5_f0, Hy5_f5, Hy5_f6, Hy5_f7⟩
        · replace hc := of_decide_eq_false hc
          rw [if_neg hc] at h
          have hc9 := hc
          clear hc
          refine WP.skip ?_
          refine QP.next ?_
          refine WP.pick [0, 5, 6, 7] ?_
          refine WP.region ?_
          refine WL.pure 0 3 [0, 5, 6, 7, 34, 36] (L' := [(0, .pointer (some ⟨b0, 0, none⟩)), (5, .int .i64 (IntKind.i64.wrap (y3 * 256))), (6, .int .i64 a1), (7, .int .i64 y4), (34, .pointer (some ⟨b0, 0, none⟩)), (36, .pointer (some ⟨b0, 1, none⟩))]) (by kernel_rfl) (by decide) ?_
          refine WL.tell (op := .load 3 (.tmp 36)) (ty := 3) (d := some 37) (g := none) (by kernel_rfl) (by kernel_rfl) (by kernel_rfl) (Tells.load_box (i := 0) (b := b0) (o := 1) (agg := false) (by rfl) ag3 (by kernel_rfl) (fun _ => rfl) (Nat.le_of_ble_eq_true rfl) (v := .int .i64 y5.f1) (by kernel_rfl)) ?_
          refine WL.pure 4 7 [0, 5, 6, 7, 38, 40] (L' := [(0, .pointer (some ⟨b0, 0, none⟩)), (5, .int .i64 (IntKind.i64.wrap (y3 * 256))), (6, .int .i64 a1), (7, .int .i64 y4), (38, .int .i64 (IntKind.i64.wrap (y5.f1 + 1))), (40, .pointer (some ⟨b0, 1, none⟩))]) (by kernel_rfl) (by decide) ?_
          refine WL.op (op := .store 3 (.tmp 40) (.tmp 38)) (ty := 0) (d := none) (g := none) (by kernel_rfl) (by kernel_rfl) (by kernel_rfl) (Does.store_box (i := 0) (b := b0) (o := 1) (v := .int .i64 (IntKind.i64.wrap (y5.f1 + 1))) (by rfl) sz3 (by kernel_rfl) (by kernel_rfl) (by kernel_rfl) (Free.zero _) (Nat.le_of_ble_eq_true rfl) (cells' := #[.slice Ay5_f0 y5.f0.length cy5_f0, .int .i64 (IntKind.i64.wrap (y5.f1 + 1)), .int .i64 y5.f2, .int .i64 y5.f3, .int .i64 y5.f4, .slice Ay5_f5 y5.f5.length cy5_f5, .slice Ay5_f6 y5.f6.length cy5_f6, .slice Ay5_f7 y5.f7.length cy5_f7]) (by kernel_rfl)) ?_
          rintro _ _ _ ⟨rfl, rfl, rfl⟩
          refine WL.rest 8 [0, 5, 6, 7] (L' := [(0, .pointer (some ⟨b0, 0, none⟩)), (5, .int .i64 (IntKind.i64.wrap (y3 * 256))), (6, .int .i64 a1), (7, .int .i64 y4)]) (by kernel_rfl) ?_
          refine QP.blockN ?_
          refine QP.next ?_
          refine WP.pick [0, 5, 6, 7] ?_
          refine WP.regionP [0, 5, 6, 7] (L' := [(0, .pointer (some ⟨b0, 0, none⟩)), (5, .int .i64 (IntKind.i64.wrap (y3 * 256))), (6, .int .i64 a1), (7, .int .i64 (IntKind.i64.wrap (y4 + 1)))]) (by kernel_rfl) ?_
          refine QP.front (i := 4) rfl ?_
          refine QP.front (i := 4) rfl ?_
          refine QP.front (i := 4) rfl ?_
          refine QP.front (i := 4) rfl ?_
          refine QP.front (i := 4) rfl ?_
          refine QP.pick [0, 5, 6, 7] ?_
          exact QP.meet ⟨kn7, Nat.lt_succ_self _, (IntKind.i64.wrap (y3 * 256)), (IntKind.i64.wrap (y4 + 1)), (⟨y5.f0, IntKind.i64.wrap (y5.f1 + 1), y5.f2, y5.f3, y5.f4, y5.f5, y5.f6, y5.f7⟩ : T101), h, Ay5_f0, cy5_f0, Cy5_f0, Ay5_f5, cy5_f5, Cy5_f5, Ay5_f6, cy5_f6, Cy5_f6, Ay5_f7, cy5_f7, Cy5_f7, rfl, rfl, rfl, Hy5_f0, Hy5_f5, Hy5_f6, Hy5_f7⟩
      · replace hc := of_decide_eq_false hc
        rw [if_neg hc] at h
        have hc8 := hc
        clear hc
        refine WP.exit ?_
        refine QP.thenE ?_
        refine QP.thenE ?_
        refine QP.blockE ?_
        refine QP.pick [5] ?_
        exact QP.meet ⟨_, Option.some.inj h, Ay5_f0, cy5_f0, Cy5_f0, Ay5_f5, cy5_f5, Cy5_f5, Ay5_f6, cy5_f6, Cy5_f6, Ay5_f7, cy5_f7, Cy5_f7, rfl, rfl, rfl, Hy5_f0, Hy5_f5, Hy5_f6, Hy5_f7⟩
  · rintro _ _ _ ⟨s1, rfl, As1_2_f0, cs1_2_f0, Cs1_2_f0, As1_2_f5, cs1_2_f5, Cs1_2_f5, As1_2_f6, cs1_2_f6, Cs1_2_f6, As1_2_f7, cs1_2_f7, Cs1_2_f7, rfl, rfl, rfl, Hs1_2_f0, Hs1_2_f5, Hs1_2_f6, Hs1_2_f7⟩
    clear h
    replace h := hk2
    refine QP.next ?_
    refine WP.pick [5] ?_
    refine WP.seqP [4] (L' := [(4, .int .i64 s1.1)]) (by kernel_rfl) ?_
    refine WP.ret ?_
    obtain rfl := Option.some.inj h
    exact QP.returned [4] [.int .i64 s1.1] _ (by kernel_rfl) (by kernel_rfl) (by kernel_rfl) (fun W hI => ⟨_, _, _, rfl, ⟨As1_2_f0, cs1_2_f0, Cs1_2_f0, As1_2_f5, cs1_2_f5, Cs1_2_f5, As1_2_f6, cs1_2_f6, Cs1_2_f6, As1_2_f7, cs1_2_f7, Cs1_2_f7, rfl, Hs1_2_f0, Hs1_2_f5, Hs1_2_f6, Hs1_2_f7, rfl, rfl⟩, hI⟩)

/-! ### (*grapevine/talk.letter).vector: function 67 -/
def talk_letter_vector_l0 (a1 : Int) : Nat → (List Int) → Int → T101 → Option ((List Int) × T101)
  | 0, _, _, _ => none
  | k + 1, y3, y4, y5 => (if y4 < a1 then ((talk_letter_number k y5 2).bind fun t9 => (if y3.length + ([t9.1] : List Int).length ≤ 1073741824 then talk_letter_vector_l0 a1 k (y3 ++ ([t9.1] : List Int)) (IntKind.i64.wrap (y4 + 1)) t9.2 else none)) else some (y3, y5))
def talk_letter_vector (k : Nat) (a0 : T101) (a1 : Int) : Option ((List Int) × T101) := ((talk_letter_vector_l0 a1 k ([] : List Int) 0 a0).bind fun s1 => some (s1.1, s1.2))
set_option maxHeartbeats 4000000 in
theorem talk_letter_vector_calls {B : World} {G : GMap} {Γ : List Chunk} {W : World} (k : Nat) (a0 : T101) (a1 : Int) (b0 : Nat) (Aa0_f0 : Option Addr) (ca0_f0 : Nat) (Ca0_f0 : Chunk) (Ha0_f0 : Ow (kInt .u8) G Aa0_f0 ca0_f0 a0.f0 Ca0_f0) (Aa0_f5 : Option Addr) (ca0_f5 : Nat) (Ca0_f5 : Chunk) (Ha0_f5 : Ow (kInt .i64) G Aa0_f5 ca0_f5 a0.f5 Ca0_f5) (Aa0_f6 : Option Addr) (ca0_f6 : Nat) (Ca0_f6 : Chunk) (Ha0_f6 : Ow (kInt .i64) G Aa0_f6 ca0_f6 a0.f6 Ca0_f6) (Aa0_f7 : Option Addr) (ca0_f7 : Nat) (Ca0_f7 : Chunk) (Ha0_f7 : Ow k39 G Aa0_f7 ca0_f7 a0.f7 Ca0_f7) (r : (List Int) × T101) (h : talk_letter_vector k a0 a1 = some r) (hI : Inv B G ([(b0, .cells #[.slice Aa0_f0 a0.f0.length ca0_f0, .int .i64 a0.f1, .int .i64 a0.f2, .int .i64 a0.f3, .int .i64 a0.f4, .slice Aa0_f5 a0.f5.length ca0_f5, .slice Aa0_f6 a0.f6.length ca0_f6, .slice Aa0_f7 a0.f7.length ca0_f7] 101 (0, 0))] :: Ca0_f0 :: Ca0_f5 :: Ca0_f6 :: Ca0_f7 :: Γ) W) :
    Calls Tryd.prog 67 [.pointer (some ⟨b0, 0, none⟩), .int .i64 a1].toArray W (Ret B (fun v G' Γ' => ∃ (AR : Option Addr), ∃ (cR : Nat), ∃ (CR : Chunk), ∃ (ARp0_0 : Option Addr), ∃ (cRp0_0 : Nat), ∃ (CRp0_0 : Chunk), ∃ (ARp0_1 : Option Addr), ∃ (cRp0_1 : Nat), ∃ (CRp0_1 : Chunk), ∃ (ARp0_2 : Option Addr), ∃ (cRp0_2 : Nat), ∃ (CRp0_2 : Chunk), ∃ (ARp0_3 : Option Addr), ∃ (cRp0_3 : Nat), ∃ (CRp0_3 : Chunk), v = .slice AR r.1.length cR ∧ Ow (kInt .i64) G' AR cR r.1 CR ∧ Ow (kInt .u8) G' ARp0_0 cRp0_0 r.2.f0 CRp0_0 ∧ Ow (kInt .i64) G' ARp0_1 cRp0_1 r.2.f5 CRp0_1 ∧ Ow (kInt .i64) G' ARp0_2 cRp0_2 r.2.f6 CRp0_2 ∧ Ow k39 G' ARp0_3 cRp0_3 r.2.f7 CRp0_3 ∧ G = G' ∧ CR :: [(b0, .cells #[.slice ARp0_0 r.2.f0.length cRp0_0, .int .i64 r.2.f1, .int .i64 r.2.f2, .int .i64 r.2.f3, .int .i64 r.2.f4, .slice ARp0_1 r.2.f5.length cRp0_1, .slice ARp0_2 r.2.f6.length cRp0_2, .slice ARp0_3 r.2.f7.length cRp0_3] 101 (0, 0))] :: CRp0_0 :: CRp0_1 :: CRp0_2 :: CRp0_3 :: Γ = Γ')) := by
  refine calls_WP (Γ := [(b0, .cells #[.slice Aa0_f0 a0.f0.length ca0_f0, .int .i64 a0.f1, .int .i64 a0.f2, .int .i64 a0.f3, .int .i64 a0.f4, .slice Aa0_f5 a0.f5.length ca0_f5, .slice Aa0_f6 a0.f6.length ca0_f6, .slice Aa0_f7 a0.f7.length ca0_f7] 101 (0, 0))] :: Ca0_f0 :: Ca0_f5 :: Ca0_f6 :: Ca0_f7 :: Γ) (G := G) (B := B) Tryd.func67 rfl (by kernel_rfl) ?_ hI
  clear hI
  unfold talk_letter_vector at h
  refine WP.seqP [0, 1] (L' := [(0, .pointer (some ⟨b0, 0, none⟩)), (1, .int .i64 a1)]) (by kernel_rfl) ?_
  refine WP.seqP [0, 1, 5] (L' := [(0, .pointer (some ⟨b0, 0, none⟩)), (1, .int .i64 a1), (5, .slice none 0 0)]) (by kernel_rfl) ?_
  refine WP.seq ?_
  refine WP.seqP [0, 5, 6, 7] (L' := [(0, .pointer (some ⟨b0, 0, none⟩)), (5, .slice none 0 0), (6, .int .i64 a1), (7, .int .i64 0)]) (by kernel_rfl) ?_
  rw [Option.bind_eq_some_iff] at h
  obtain ⟨os1, h, hk2⟩ := h
  refine WP.cutQ (fun L' G' Γ' => ∃ s1 : (List Int) × T101, s1 = os1 ∧ ∃ (As1_1 : Option Addr), ∃ (cs1_1 : Nat), ∃ (Cs1_1 : Chunk), ∃ (As1_2_f0 : Option Addr), ∃ (cs1_2_f0 : Nat), ∃ (Cs1_2_f0 : Chunk), ∃ (As1_2_f5 : Option Addr), ∃ (cs1_2_f5 : Nat), ∃ (Cs1_2_f5 : Chunk), ∃ (As1_2_f6 : Option Addr), ∃ (cs1_2_f6 : Nat), ∃ (Cs1_2_f6 : Chunk), ∃ (As1_2_f7 : Option Addr), ∃ (cs1_2_f7 : Nat), ∃ (Cs1_2_f7 : Chunk), L' = [(5, .slice As1_1 s1.1.length cs1_1)] ∧ G = G' ∧ Cs1_1 :: [(b0, .cells #[.slice As1_2_f0 s1.2.f0.length cs1_2_f0, .int .i64 s1.2.f1, .int .i64 s1.2.f2, .int .i64 s1.2.f3, .int .i64 s1.2.f4, .slice As1_2_f5 s1.2.f5.length cs1_2_f5, .slice As1_2_f6 s1.2.f6.length cs1_2_f6, .slice As1_2_f7 s1.2.f7.length cs1_2_f7] 101 (0, 0))] :: Cs1_2_f0 :: Cs1_2_f5 :: Cs1_2_f6 :: Cs1_2_f7 :: Γ = Γ' ∧ Ow (kInt .i64) G As1_1 cs1_1 s1.1 Cs1_1 ∧ Ow (kInt .u8) G As1_2_f0 cs1_2_f0 s1.2.f0 Cs1_2_f0 ∧ Ow (kInt .i64) G As1_2_f5 cs1_2_f5 s1.2.f5 Cs1_2_f5 ∧ Ow (kInt .i64) G As1_2_f6 cs1_2_f6 s1.2.f6 Cs1_2_f6 ∧ Ow k39 G As1_2_f7 cs1_2_f7 s1.2.f7 Cs1_2_f7) ?_ ?_
  · clear hk2
    refine WP.block ?_
    refine WP.addNil ?_
    refine WP.pick [0, 5, 6, 7] ?_
    refine WP.loopF (fun kn6 L' G' Γ' => ∃ (y3 : List Int), ∃ (y4 : Int), ∃ (y5 : T101), talk_letter_vector_l0 a1 kn6 y3 y4 y5 = some os1 ∧ ∃ (Ay3 : Option Addr), ∃ (cy3 : Nat), ∃ (Cy3 : Chunk), ∃ (Ay5_f0 : Option Addr), ∃ (cy5_f0 : Nat), ∃ (Cy5_f0 : Chunk), ∃ (Ay5_f5 : Option Addr), ∃ (cy5_f5 : Nat), ∃ (Cy5_f5 : Chunk), ∃ (Ay5_f6 : Option Addr), ∃ (cy5_f6 : Nat), ∃ (Cy5_f6 : Chunk), ∃ (Ay5_f7 : Option Addr), ∃ (cy5_f7 : Nat), ∃ (Cy5_f7 : Chunk), L' = [(0, .pointer (some ⟨b0, 0, none⟩)), (5, .slice Ay3 y3.length cy3), (6, .int .i64 a1), (7, .int .i64 y4)] ∧ G = G' ∧ Cy3 :: [(b0, .cells #[.slice Ay5_f0 y5.f0.length cy5_f0, .int .i64 y5.f1, .int .i64 y5.f2, .int .i64 y5.f3, .int .i64 y5.f4, .slice Ay5_f5 y5.f5.length cy5_f5, .slice Ay5_f6 y5.f6.length cy5_f6, .slice Ay5_f7 y5.f7.length cy5_f7] 101 (0, 0))] :: Cy5_f0 :: Cy5_f5 :: Cy5_f6 :: Cy5_f7 :: Γ = Γ' ∧ Ow (kInt .i64) G Ay3 cy3 y3 Cy3 ∧ Ow (kInt .u8) G Ay5_f0 cy5_f0 y5.f0 Cy5_f0 ∧ Ow (kInt .i64) G Ay5_f5 cy5_f5 y5.f5 Cy5_f5 ∧ Ow (kInt .i64) G Ay5_f6 cy5_f6 y5.f6 Cy5_f6 ∧ Ow k39 G Ay5_f7 cy5_f7 y5.f7 Cy5_f7) ?_ k ⟨([] : List Int), 0, a0, h, none, 0, [], Aa0_f0, ca0_f0, Ca0_f0, Aa0_f5, ca0_f5, Ca0_f5, Aa0_f6, ca0_f6, Ca0_f6, Aa0_f7, ca0_f7, Ca0_f7, rfl, rfl, rfl, (Ow.nil (kInt .i64) _), Ha0_f0, Ha0_f5, Ha0_f6, Ha0_f7⟩
    clear h
    rintro kn7 _ _ _ ⟨y3, y4, y5, h, Ay3, cy3, Cy3, Ay5_f0, cy5_f0, Cy5_f0, Ay5_f5, cy5_f5, Cy5_f5, Ay5_f6, cy5_f6, Cy5_f6, Ay5_f7, cy5_f7, Cy5_f7, rfl, rfl, rfl, Hy3, Hy5_f0, Hy5_f5, Hy5_f6, Hy5_f7⟩
    cases kn7 with
    | zero => exact absurd h (by simp [talk_letter_vector_l0])
    | succ kn7 =>
      simp only [talk_letter_vector_l0] at h
      refine WP.seqP [0, 5, 6, 7, 8] (L' := [(0, .pointer (some ⟨b0, 0, none⟩)), (5, .slice Ay3 y3.length cy3), (6, .int .i64 a1), (7, .int .i64 y4), (8, .bool (decide (y4 < a1)))]) (by kernel_rfl) ?_
      refine WP.seq ?_
      refine WP.cond (b := decide (y4 < a1)) (by kernel_rfl) (fun hc => ?_) (fun hc => ?_)
      · replace hc := of_decide_eq_true hc
        rw [if_pos hc] at h
        have hc8 := hc
        clear hc
        refine WP.skip ?_
        refine QP.next ?_
        refine WP.pick [0, 5, 6, 7] ?_
        refine WP.seq ?_
        refine WP.block ?_
        refine WP.region ?_
        refine WL.pure 0 2 [0, 5, 6, 7, 9, 10] (L' := [(0, .pointer (some ⟨b0, 0, none⟩)), (5, .slice Ay3 y3.length cy3), (6, .int .i64 a1), (7, .int .i64 y4), (9, .slice Ay3 y3.length cy3), (10, .pointer (some ⟨b0, 0, none⟩))]) (by kernel_rfl) (by decide) ?_
        refine WL.front (i := 5) rfl ?_
        refine WL.front (i := 5) rfl ?_
        refine WL.front (i := 5) rfl ?_
        refine WL.front (i := 5) rfl ?_
        refine WL.front (i := 5) rfl ?_
        rw [Option.bind_eq_some_iff] at h
        obtain ⟨t9, ht10, h⟩ := h
        refine WL.op (op := .call { callee := (.value (.func 66)), args := #[(.tmp 10), (.const (.int .i64 2))], argTypes := #[120, 3] }) (ty := 3) (d := some 11) (g := none) (by kernel_rfl) (by kernel_rfl) (by kernel_rfl) (Does.call (f := 66) (args := [.pointer (some ⟨b0, 0, none⟩), .int .i64 2]) (by kernel_rfl) (fun W hI => (talk_letter_number_calls kn7 y5 2 b0 Ay5_f0 cy5_f0 Cy5_f0 Hy5_f0 Ay5_f5 cy5_f5 Cy5_f5 Hy5_f5 Ay5_f6 cy5_f6 Cy5_f6 Hy5_f6 Ay5_f7 cy5_f7 Cy5_f7 Hy5_f7 t9 ht10 hI))) ?_
        rintro _ _ _ ⟨AR11p0_0, cR11p0_0, CR11p0_0, AR11p0_1, cR11p0_1, CR11p0_1, AR11p0_2, cR11p0_2, CR11p0_2, AR11p0_3, cR11p0_3, CR11p0_3, rfl, HR11p0_0, HR11p0_1, HR11p0_2, HR11p0_3, rfl, rfl⟩
        refine WL.op (op := .buildSlice 32 1 #[(0, (.tmp 11))]) (ty := 32) (d := some 12) (g := none) (by kernel_rfl) (by kernel_rfl) (by kernel_rfl) (Does.new (o := .cells #[.int .i64 t9.1] 3 (0, 0)) (v := fun r => .slice (some ⟨r, 0, none⟩) 1 1) (fun r => by kernel_rfl)) ?_
        rintro _ _ _ ⟨b13, rfl, rfl, rfl⟩
        have Ho15 : Ow (kInt .i64) G (some ⟨b13, 0, none⟩) 1 ([t9.1] : List Int) [(b13, .cells #[.int .i64 t9.1] 3 (0, 0))] := Ow.lit (kd := (kInt .i64)) (G := G) (b := b13) (T := 3) (xs := ([t9.1] : List Int)) (cs := [.int .i64 t9.1]) (.cons (x := t9.1) (cs := [.int .i64 t9.1]) (by exact rfl) .nil)
        by_cases hb16 : y3.length + ([t9.1] : List Int).length ≤ 1073741824
        case neg => rw [if_neg hb16] at h; cases h
        rw [if_pos hb16] at h
        refine WL.op (op := .call { callee := (.builtin .append), args := #[(.tmp 9), (.tmp 12)], argTypes := #[32, 32] }) (ty := 32) (d := some 13) (g := none) (by kernel_rfl) (by kernel_rfl) (by kernel_rfl) (Ow.append (ys := ([t9.1] : List Int)) (v := .slice (some ⟨b13, 0, none⟩) ([t9.1] : List Int).length 1) Hy3 (i := 6) rfl (by kernel_rfl) (by kernel_rfl) (Ho15.src (i := 0) rfl) sl32 ze3 nt32 (by decide) hb16) ?_
        rintro _ _ _ ⟨rfl, AN17, cN17, CN17, rfl, HN17, rfl⟩
        refine WL.rest 5 [0, 5, 6, 7] (L' := [(0, .pointer (some ⟨b0, 0, none⟩)), (5, .slice AN17 (y3 ++ ([t9.1] : List Int)).length cN17), (6, .int .i64 a1), (7, .int .i64 y4)]) (by kernel_rfl) ?_
        refine QP.blockN ?_
        refine QP.next ?_
        refine WP.pick [0, 5, 6, 7] ?_
        refine WP.regionP [0, 5, 6, 7] (L' := [(0, .pointer (some ⟨b0, 0, none⟩)), (5, .slice AN17 (y3 ++ ([t9.1] : List Int)).length cN17), (6, .int .i64 a1), (7, .int .i64 (IntKind.i64.wrap (y4 + 1)))]) (by kernel_rfl) ?_
        refine QP.dropAt 0 ?_
        refine QP.front (i := 4) rfl ?_
        refine QP.front (i := 4) rfl ?_
        refine QP.front (i := 4) rfl ?_
        refine QP.front (i := 4) rfl ?_
        refine QP.front (i := 4) rfl ?_
        refine QP.front (i := 5) rfl ?_
        refine QP.pick [0, 5, 6, 7] ?_
        exact QP.meet ⟨kn7, Nat.lt_succ_self _, (y3 ++ ([t9.1] : List Int)), (IntKind.i64.wrap (y4 + 1)), t9.2, h, AN17, cN17, CN17, AR11p0_0, cR11p0_0, CR11p0_0, AR11p0_1, cR11p0_1, CR11p0_1, AR11p0_2, cR11p0_2, CR11p0_2, AR11p0_3, cR11p0_3, CR11p0_3, rfl, rfl, rfl, HN17, HR11p0_0, HR11p0_1, HR11p0_2, HR11p0_3⟩
      · replace hc := of_decide_eq_false hc
        rw [if_neg hc] at h
        have hc8 := hc
        clear hc
        refine WP.exit ?_
        refine QP.thenE ?_
        refine QP.thenE ?_
        refine QP.blockE ?_
        refine QP.pick [5] ?_
        exact QP.meet ⟨_, Option.some.inj h, Ay3, cy3, Cy3, Ay5_f0, cy5_f0, Cy5_f0, Ay5_f5, cy5_f5, Cy5_f5, Ay5_f6, cy5_f6, Cy5_f6, Ay5_f7, cy5_f7, Cy5_f7, rfl, rfl, rfl, Hy3, Hy5_f0, Hy5_f5, Hy5_f6, Hy5_f7⟩
  · rintro _ _ _ ⟨s1, rfl, As1_1, cs1_1, Cs1_1, As1_2_f0, cs1_2_f0, Cs1_2_f0, As1_2_f5, cs1_2_f5, Cs1_2_f5, As1_2_f6, cs1_2_f6, Cs1_2_f6, As1_2_f7, cs1_2_f7, Cs1_2_f7, rfl, rfl, rfl, Hs1_1, Hs1_2_f0, Hs1_2_f5, Hs1_2_f6, Hs1_2_f7⟩
    clear h
    replace h := hk2
    refine QP.next ?_
    refine WP.pick [5] ?_
    refine WP.seqP [4] (L' := [(4, .slice As1_1 s1.1.length cs1_1)]) (by kernel_rfl) ?_
    refine WP.ret ?_
    obtain rfl := Option.some.inj h
    exact QP.returned [4] [.slice As1_1 s1.1.length cs1_1] _ (by kernel_rfl) (by kernel_rfl) (by kernel_rfl) (fun W hI => ⟨_, _, _, rfl, ⟨As1_1, cs1_1, Cs1_1, As1_2_f0, cs1_2_f0, Cs1_2_f0, As1_2_f5, cs1_2_f5, Cs1_2_f5, As1_2_f6, cs1_2_f6, Cs1_2_f6, As1_2_f7, cs1_2_f7, Cs1_2_f7, rfl, Hs1_1, Hs1_2_f0, Hs1_2_f5, Hs1_2_f6, Hs1_2_f7, rfl, rfl⟩, hI⟩)
end Go.Proofs.YtfocilpnbiciaaaDoor.Gf
