/- Walks of Go functions: what each tells, as a plain Lean function, and that the Go code comes to it. Written by gg.py of this repo. -/
import Derived.Test.YtjmhhmljldjmjaaDoorT
import Derived.Test.YtjmhhmljldjmjaaDoorF0
namespace Go.Proofs.YtjmhhmljldjmjaaDoor.Gf
open Go Go.Gg
set_option maxRecDepth 100000
set_option linter.unusedVariables false
set_option linter.unusedSimpArgs false

/-! ### grapevine/grapevineref1.May: function 44 -/
def grapevineref1_May (a0 : ByteArray) : Option Bool := ((if (a0.size : Int) ≤ 120 then ((utf8_ValidString a0).bind fun t4 => some t4) else some false).bind fun s1 => some s1)
set_option maxHeartbeats 4000000 in
theorem grapevineref1_May_calls {B : World} {G : GMap} {Γ : List Chunk} {W : World} (HT : Tabs B G) (a0 : ByteArray) (r : Bool) (h : grapevineref1_May a0 = some r) (hI : Inv B G (Γ) W) :
    Calls Tryd.prog 44 [.string a0].toArray W (Ret B (fun v G' Γ' => v = .bool r ∧ G = G' ∧ Γ = Γ')) := by
  refine calls_WP (Γ := Γ) (G := G) (B := B) Tryd.func44 rfl (by kernel_rfl) ?_ hI
  clear hI
  unfold grapevineref1_May at h
  refine WP.seqP [0] (L' := [(0, .string a0)]) (by kernel_rfl) ?_
  rw [Option.bind_eq_some_iff] at h
  obtain ⟨os1, h, hk2⟩ := h
  refine WP.cut (fun L' G' Γ' => ∃ s1 : Bool, s1 = os1 ∧ L' = [(2, .bool s1)] ∧ G = G' ∧ Γ = Γ') ?_ ?_
  · clear hk2
    refine WP.region ?_
    refine WL.pure 0 4 [0, 6] (L' := [(0, .string a0), (6, .bool (decide ((a0.size : Int) ≤ 120)))]) (by kernel_rfl) (by decide) ?_
    refine WL.split 6 (b := decide ((a0.size : Int) ≤ 120)) (by kernel_rfl) (fun hc => ?_) (fun hc => ?_)
    · replace hc := of_decide_eq_true hc
      rw [if_pos hc] at h
      have hc3 := hc
      clear hc
      refine WL.pure 4 5 [6, 7] (L' := [(6, .bool true), (7, .string a0)]) (by kernel_rfl) (by decide) ?_
      rw [Option.bind_eq_some_iff] at h
      obtain ⟨t4, ht5, h⟩ := h
      refine WL.op (op := .call { callee := (.value (.func 50)), args := #[(.tmp 7)], argTypes := #[9] }) (ty := 4) (d := some 8) (g := some (3, true)) (by kernel_rfl) (by kernel_rfl) (by kernel_rfl) (Does.call (f := 50) (args := [.string a0]) (by kernel_rfl) (fun W hI => (utf8_ValidString_calls HT a0  t4 ht5 hI))) ?_
      rintro _ _ _ ⟨rfl, rfl, rfl⟩
      refine WL.rest 6 [2] (L' := [(2, .bool t4)]) (by kernel_rfl) ?_
      refine QP.pick [2] ?_
      exact QP.meet ⟨_, Option.some.inj h, rfl, rfl, rfl⟩
    · replace hc := of_decide_eq_false hc
      rw [if_neg hc] at h
      have hc3 := hc
      clear hc
      refine WL.rest 4 [2] (L' := [(2, .bool false)]) (by kernel_rfl) ?_
      refine QP.pick [2] ?_
      exact QP.meet ⟨_, Option.some.inj h, rfl, rfl, rfl⟩
  · rintro _ _ _ ⟨s1, rfl, rfl, rfl, rfl⟩
    clear h
    replace h := hk2
    refine WP.ret ?_
    obtain rfl := Option.some.inj h
    exact QP.returned [2] [.bool s1] _ (by kernel_rfl) (by kernel_rfl) (by kernel_rfl) (fun W hI => ⟨_, _, _, rfl, ⟨rfl, rfl, rfl⟩, hI⟩)

/-! ### grapevine/grapevineref1.runes: function 66 -/
def grapevineref1_runes (a0 : ByteArray) : Option (List Int) := ((utf8_ValidString a0).bind fun t1 => (if (!t1) = true then some ([] : List Int) else (if a0.size ≤ 70368744177664 then some (runesOf a0) else none)))
set_option maxHeartbeats 4000000 in
theorem grapevineref1_runes_calls {B : World} {G : GMap} {Γ : List Chunk} {W : World} (HT : Tabs B G) (a0 : ByteArray) (r : List Int) (h : grapevineref1_runes a0 = some r) (hI : Inv B G (Γ) W) :
    Calls Tryd.prog 66 [.string a0].toArray W (Ret B (fun v G' Γ' => ∃ (AR : Option Addr), ∃ (cR : Nat), ∃ (CR : Chunk), v = .slice AR r.length cR ∧ Ow (kInt .i32) G' AR cR r CR ∧ G = G' ∧ CR :: Γ = Γ')) := by
  refine calls_WP (Γ := Γ) (G := G) (B := B) Tryd.func66 rfl (by kernel_rfl) ?_ hI
  clear hI
  unfold grapevineref1_runes at h
  refine WP.seqP [0] (L' := [(0, .string a0)]) (by kernel_rfl) ?_
  refine WP.seq ?_
  refine WP.seqR ?_
  refine WL.pure 0 1 [0, 3] (L' := [(0, .string a0), (3, .string a0)]) (by kernel_rfl) (by decide) ?_
  rw [Option.bind_eq_some_iff] at h
  obtain ⟨t1, ht2, h⟩ := h
  refine WL.op (op := .call { callee := (.value (.func 50)), args := #[(.tmp 3)], argTypes := #[9] }) (ty := 4) (d := some 4) (g := none) (by kernel_rfl) (by kernel_rfl) (by kernel_rfl) (Does.call (f := 50) (args := [.string a0]) (by kernel_rfl) (fun W hI => (utf8_ValidString_calls HT a0  t1 ht2 hI))) ?_
  rintro _ _ _ ⟨rfl, rfl, rfl⟩
  refine WL.restQ 2 [0, 5] (L' := [(0, .string a0), (5, .bool (!t1))]) (by kernel_rfl) ?_
  refine WP.cond (b := (!t1)) (by kernel_rfl) (fun hc => ?_) (fun hc => ?_)
  · replace hc := hc
    rw [if_pos hc] at h
    have hc5 := hc
    clear hc
    refine WP.seqP [2] (L' := [(2, .slice none 0 0)]) (by kernel_rfl) ?_
    refine WP.ret ?_
    refine QP.thenR ?_
    obtain rfl := Option.some.inj h
    refine QP.addNil ?_
    exact QP.returned [2] [.slice none ([] : List Int).length 0] _ (by kernel_rfl) (by kernel_rfl) (by kernel_rfl) (fun W hI => ⟨_, _, _, rfl, ⟨none, 0, [], rfl, (Ow.nil (kInt .i32) _), rfl, rfl⟩, hI⟩)
  · replace hc := (Bool.eq_false_iff.1 hc)
    rw [if_neg hc] at h
    have hc5 := hc
    clear hc
    refine WP.skip ?_
    refine QP.next ?_
    refine WP.pick [0] ?_
    refine WP.seqR ?_
    refine WL.pure 0 1 [6] (L' := [(6, .string a0)]) (by kernel_rfl) (by decide) ?_
    by_cases hb7 : a0.size ≤ 70368744177664
    case neg => rw [if_neg hb7] at h; cases h
    rw [if_pos hb7] at h
    refine WL.op (op := .convert 9 79 (.tmp 6)) (ty := 79) (d := some 7) (g := none) (by kernel_rfl) (by kernel_rfl) (by kernel_rfl) (Does.runes (s := a0) (by kernel_rfl) ru79 st9 hb7) ?_
    rintro _ _ _ ⟨rfl, AM6, cM6, CM6, rfl, HM6, rfl⟩
    refine WL.restQ 2 [2] (L' := [(2, .slice AM6 (runesOf a0).length cM6)]) (by kernel_rfl) ?_
    refine WP.ret ?_
    obtain rfl := Option.some.inj h
    exact QP.returned [2] [.slice AM6 (runesOf a0).length cM6] _ (by kernel_rfl) (by kernel_rfl) (by kernel_rfl) (fun W hI => ⟨_, _, _, rfl, ⟨AM6, cM6, CM6, rfl, HM6, rfl, rfl⟩, hI⟩)

/-! ### grapevine/grapevineref1.letter: function 67 -/
def grapevineref1_letter (a0 : Int) : Option Bool := (((unicode_IsLetter a0).bind fun t3 => (if t3 = true then some true else ((unicode_IsDigit a0).bind fun t8 => some t8))).bind fun s1 => some s1)
set_option maxHeartbeats 4000000 in
theorem grapevineref1_letter_calls {B : World} {G : GMap} {Γ : List Chunk} {W : World} (HT : Tabs B G) (a0 : Int) (r : Bool) (h : grapevineref1_letter a0 = some r) (hI : Inv B G (Γ) W) :
    Calls Tryd.prog 67 [.int .i32 a0].toArray W (Ret B (fun v G' Γ' => v = .bool r ∧ G = G' ∧ Γ = Γ')) := by
  refine calls_WP (Γ := Γ) (G := G) (B := B) Tryd.func67 rfl (by kernel_rfl) ?_ hI
  clear hI
  unfold grapevineref1_letter at h
  refine WP.seqP [0] (L' := [(0, .int .i32 a0)]) (by kernel_rfl) ?_
  rw [Option.bind_eq_some_iff] at h
  obtain ⟨os1, h, hk2⟩ := h
  refine WP.cut (fun L' G' Γ' => ∃ s1 : Bool, s1 = os1 ∧ L' = [(2, .bool s1)] ∧ G = G' ∧ Γ = Γ') ?_ ?_
  · clear hk2
    refine WP.region ?_
    refine WL.pure 0 1 [0, 3] (L' := [(0, .int .i32 a0), (3, .int .i32 a0)]) (by kernel_rfl) (by decide) ?_
    rw [Option.bind_eq_some_iff] at h
    obtain ⟨t3, ht4, h⟩ := h
    refine WL.op (op := .call { callee := (.value (.func 77)), args := #[(.tmp 3)], argTypes := #[21] }) (ty := 4) (d := some 4) (g := none) (by kernel_rfl) (by kernel_rfl) (by kernel_rfl) (Does.call (f := 77) (args := [.int .i32 a0]) (by kernel_rfl) (fun W hI => (unicode_IsLetter_calls HT a0  t3 ht4 hI))) ?_
    rintro _ _ _ ⟨rfl, rfl, rfl⟩
    refine WL.pure 2 3 [0, 5] (L' := [(0, .int .i32 a0), (5, .bool t3)]) (by kernel_rfl) (by decide) ?_
    refine WL.split 5 (b := t3) (by kernel_rfl) (fun hc => ?_) (fun hc => ?_)
    · replace hc := hc
      rw [if_pos hc] at h
      have hc7 := hc
      clear hc
      refine WL.rest 3 [2] (L' := [(2, .bool true)]) (by kernel_rfl) ?_
      refine QP.pick [2] ?_
      exact QP.meet ⟨_, Option.some.inj h, rfl, rfl, rfl⟩
    · replace hc := (Bool.eq_false_iff.1 hc)
      rw [if_neg hc] at h
      have hc7 := hc
      clear hc
      refine WL.pure 3 4 [5, 6] (L' := [(5, .bool false), (6, .int .i32 a0)]) (by kernel_rfl) (by decide) ?_
      rw [Option.bind_eq_some_iff] at h
      obtain ⟨t8, ht9, h⟩ := h
      refine WL.op (op := .call { callee := (.value (.func 78)), args := #[(.tmp 6)], argTypes := #[21] }) (ty := 4) (d := some 7) (g := some (2, false)) (by kernel_rfl) (by kernel_rfl) (by kernel_rfl) (Does.call (f := 78) (args := [.int .i32 a0]) (by kernel_rfl) (fun W hI => (unicode_IsDigit_calls HT a0  t8 ht9 hI))) ?_
      rintro _ _ _ ⟨rfl, rfl, rfl⟩
      refine WL.rest 5 [2] (L' := [(2, .bool t8)]) (by kernel_rfl) ?_
      refine QP.pick [2] ?_
      exact QP.meet ⟨_, Option.some.inj h, rfl, rfl, rfl⟩
  · rintro _ _ _ ⟨s1, rfl, rfl, rfl, rfl⟩
    clear h
    replace h := hk2
    refine WP.ret ?_
    obtain rfl := Option.some.inj h
    exact QP.returned [2] [.bool s1] _ (by kernel_rfl) (by kernel_rfl) (by kernel_rfl) (fun W hI => ⟨_, _, _, rfl, ⟨rfl, rfl, rfl⟩, hI⟩)

/-! ### unicode.ToLower: function 69 -/
def unicode_ToLower (a0 : Int) : Option Int := (if -2147483648 ≤ a0 ∧ a0 ≤ 2147483647 then some (Lib.toLowerU a0) else none)
set_option maxHeartbeats 4000000 in
theorem unicode_ToLower_calls {B : World} {G : GMap} {Γ : List Chunk} {W : World} (HT : Tabs B G) (a0 : Int) (r : Int) (h : unicode_ToLower a0 = some r) (hI : Inv B G (Γ) W) :
    Calls Tryd.prog 69 [.int .i32 a0].toArray W (Ret B (fun v G' Γ' => v = .int .i32 r ∧ G = G' ∧ Γ = Γ')) := by
  unfold unicode_ToLower at h
  by_cases hs : -2147483648 ≤ a0 ∧ a0 ≤ 2147483647
  case neg => rw [if_neg hs] at h; cases h
  rw [if_pos hs] at h
  obtain rfl := Option.some.inj h
  exact Calls.kept ((Tryd.unicode_ToLower_laid a0 W (HT.ca hI)).mono fun e w' he => ⟨he.1, by obtain ⟨q, rfl⟩ := he.2; exact below_drewNg W q⟩) hI

/-! ### grapevine/grapevineref1.Norm: function 46 -/
def grapevineref1_Norm_l0 : Nat → Int → (List Int) → Option (List Int)
  | 0, _, _ => none
  | k + 1, y7, y8 => (if y7 < (y8.length : Int) then (if 0 ≤ y7 ∧ y7 < (y8.length : Int) then ((unicode_ToLower (y8.getD y7.toNat 0)).bind fun t13 => (if 0 ≤ y7 ∧ y7 < (y8.length : Int) then grapevineref1_Norm_l0 k (IntKind.i64.wrap (y7 + 1)) (y8.set y7.toNat t13) else none)) else none) else some y8)
def grapevineref1_Norm (k : Nat) (a0 : ByteArray) : Option ByteArray := ((grapevineref1_runes a0).bind fun t1 => ((grapevineref1_Norm_l0 k 0 t1).bind fun s5 => some (runesBytes s5)))
set_option maxHeartbeats 4000000 in
theorem grapevineref1_Norm_calls {B : World} {G : GMap} {Γ : List Chunk} {W : World} (HT : Tabs B G) (k : Nat) (a0 : ByteArray) (r : ByteArray) (h : grapevineref1_Norm k a0 = some r) (hI : Inv B G (Γ) W) :
    Calls Tryd.prog 46 [.string a0].toArray W (Ret B (fun v G' Γ' => v = .string r ∧ G = G' ∧ Γ = Γ')) := by
  refine calls_WP (Γ := Γ) (G := G) (B := B) Tryd.func46 rfl (by kernel_rfl) ?_ hI
  clear hI
  unfold grapevineref1_Norm at h
  refine WP.seqP [0] (L' := [(0, .string a0)]) (by kernel_rfl) ?_
  refine WP.seqR ?_
  refine WL.pure 0 1 [5] (L' := [(5, .string a0)]) (by kernel_rfl) (by decide) ?_
  rw [Option.bind_eq_some_iff] at h
  obtain ⟨t1, ht2, h⟩ := h
  refine WL.op (op := .call { callee := (.value (.func 66)), args := #[(.tmp 5)], argTypes := #[9] }) (ty := 79) (d := some 6) (g := none) (by kernel_rfl) (by kernel_rfl) (by kernel_rfl) (Does.call (f := 66) (args := [.string a0]) (by kernel_rfl) (fun W hI => (grapevineref1_runes_calls HT a0  t1 ht2 hI))) ?_
  rintro _ _ _ ⟨AR3, cR3, CR3, rfl, HR3, rfl, rfl⟩
  refine WL.restQ 2 [3] (L' := [(3, .slice AR3 t1.length cR3)]) (by kernel_rfl) ?_
  refine WP.seq ?_
  refine WP.seqP [3, 4] (L' := [(3, .slice AR3 t1.length cR3), (4, .int .i64 0)]) (by kernel_rfl) ?_
  rw [Option.bind_eq_some_iff] at h
  obtain ⟨os5, h, hk6⟩ := h
  refine WP.cutQ (fun L' G' Γ' => ∃ s5 : (List Int), s5 = os5 ∧ ∃ (As5 : Option Addr), ∃ (cs5 : Nat), ∃ (Cs5 : Chunk), L' = [(3, .slice As5 s5.length cs5)] ∧ G = G' ∧ Cs5 :: Γ = Γ' ∧ Ow (kInt .i32) G As5 cs5 s5 Cs5) ?_ ?_
  · clear hk6
    refine WP.block ?_
    refine WP.pick [3, 4] ?_
    refine WP.loopF (fun kn9 L' G' Γ' => ∃ (y7 : Int), ∃ (y8 : List Int), grapevineref1_Norm_l0 kn9 y7 y8 = some os5 ∧ ∃ (Ay8 : Option Addr), ∃ (cy8 : Nat), ∃ (Cy8 : Chunk), L' = [(3, .slice Ay8 y8.length cy8), (4, .int .i64 y7)] ∧ G = G' ∧ Cy8 :: Γ = Γ' ∧ Ow (kInt .i32) G Ay8 cy8 y8 Cy8) ?_ k ⟨0, t1, h, AR3, cR3, CR3, rfl, rfl, rfl, HR3⟩
    clear h
    rintro kn10 _ _ _ ⟨y7, y8, h, Ay8, cy8, Cy8, rfl, rfl, rfl, Hy8⟩
    cases kn10 with
    | zero => exact absurd h (by simp [grapevineref1_Norm_l0])
    | succ kn10 =>
      simp only [grapevineref1_Norm_l0] at h
      refine WP.seq ?_
      refine WP.seqP [3, 4, 10] (L' := [(3, .slice Ay8 y8.length cy8), (4, .int .i64 y7), (10, .bool (decide (y7 < (y8.length : Int))))]) (by kernel_rfl) ?_
      refine WP.cond (b := decide (y7 < (y8.length : Int))) (by kernel_rfl) (fun hc => ?_) (fun hc => ?_)
      · replace hc := of_decide_eq_true hc
        rw [if_pos hc] at h
        have hc11 := hc
        clear hc
        refine WP.skip ?_
        refine QP.next ?_
        refine WP.pick [3, 4] ?_
        refine WP.seq ?_
        refine WP.block ?_
        refine WP.region ?_
        refine WL.pure 0 4 [3, 4, 13, 14, 15, 16] (L' := [(3, .slice Ay8 y8.length cy8), (4, .int .i64 y7), (13, .slice Ay8 y8.length cy8), (14, .int .i64 y7), (15, .slice Ay8 y8.length cy8), (16, .int .i64 y7)]) (by kernel_rfl) (by decide) ?_
        by_cases hb12 : 0 ≤ y7 ∧ y7 < (y8.length : Int)
        case neg => rw [if_neg hb12] at h; cases h
        rw [if_pos hb12] at h
        refine WL.tell (op := .indexAddr 79 (.tmp 15) (.tmp 16)) (ty := 0) (d := some 17) (g := none) (by kernel_rfl) (by kernel_rfl) (by kernel_rfl) (Tells.indexAddr (A := Ay8) (n := y8.length) (c := cy8) (k := .i64) (j := y7) (by kernel_rfl) (by kernel_rfl) (Hy8.isSome hb12.1 hb12.2) hb12.1 hb12.2 sl79) ?_
        refine WL.tellE (op := .load 21 (.tmp 17)) (ty := 21) (d := some 18) (g := none) (by kernel_rfl) (by kernel_rfl) (by kernel_rfl) (Hy8.load (i := 0) rfl (agg := false) hb12.1 hb12.2 0 ag21 (fun _ => rfl) (by kernel_rfl)) ?_
        rintro _ rfl
        rw [Option.bind_eq_some_iff] at h
        obtain ⟨t13, ht14, h⟩ := h
        refine WL.op (op := .call { callee := (.value (.func 69)), args := #[(.tmp 18)], argTypes := #[21] }) (ty := 21) (d := some 19) (g := none) (by kernel_rfl) (by kernel_rfl) (by kernel_rfl) (Does.call (f := 69) (args := [.int .i32 (y8.getD y7.toNat 0)]) (by kernel_rfl) (fun W hI => (unicode_ToLower_calls HT (y8.getD y7.toNat 0)  t13 ht14 hI))) ?_
        rintro _ _ _ ⟨rfl, rfl, rfl⟩
        by_cases hb17 : 0 ≤ y7 ∧ y7 < (y8.length : Int)
        case neg => rw [if_neg hb17] at h; cases h
        rw [if_pos hb17] at h
        refine WL.tell (op := .indexAddr 79 (.tmp 13) (.tmp 14)) (ty := 0) (d := some 20) (g := none) (by kernel_rfl) (by kernel_rfl) (by kernel_rfl) (Tells.indexAddr (A := Ay8) (n := y8.length) (c := cy8) (k := .i64) (j := y7) (by kernel_rfl) (by kernel_rfl) (Hy8.isSome hb17.1 hb17.2) hb17.1 hb17.2 sl79) ?_
        refine WL.op (op := .store 21 (.tmp 20) (.tmp 19)) (ty := 0) (d := none) (g := none) (by kernel_rfl) (by kernel_rfl) (by kernel_rfl) (Ow.store Hy8 (i := 0) rfl hb17.1 hb17.2 (z := t13) (v := .int .i32 t13) (by kernel_rfl) (by kernel_rfl) sz21 (by exact rfl)) ?_
        rintro _ _ _ ⟨rfl, rfl, C18, Ho19, rfl⟩
        refine WL.reput 3 (v := .slice Ay8 y8.length cy8) (v' := .slice Ay8 (y8.set y7.toNat t13).length cy8) (by kernel_rfl) (by simp only [List.length_set]) ?_
        refine WL.rest 9 [3, 4] (L' := [(3, .slice Ay8 (y8.set y7.toNat t13).length cy8), (4, .int .i64 y7)]) (by kernel_rfl) ?_
        refine QP.blockN ?_
        refine QP.next ?_
        refine WP.pick [3, 4] ?_
        refine WP.regionP [3, 4] (L' := [(3, .slice Ay8 (y8.set y7.toNat t13).length cy8), (4, .int .i64 (IntKind.i64.wrap (y7 + 1)))]) (by kernel_rfl) ?_
        refine QP.pick [3, 4] ?_
        exact QP.meet ⟨kn10, Nat.lt_succ_self _, (IntKind.i64.wrap (y7 + 1)), (y8.set y7.toNat t13), h, Ay8, cy8, C18, rfl, rfl, rfl, Ho19⟩
      · replace hc := of_decide_eq_false hc
        rw [if_neg hc] at h
        have hc11 := hc
        clear hc
        refine WP.exit ?_
        refine QP.thenE ?_
        refine QP.thenE ?_
        refine QP.blockE ?_
        refine QP.pick [3] ?_
        exact QP.meet ⟨_, Option.some.inj h, Ay8, cy8, Cy8, rfl, rfl, rfl, Hy8⟩
  · rintro _ _ _ ⟨s5, rfl, As5, cs5, Cs5, rfl, rfl, rfl, Hs5⟩
    clear h
    replace h := hk6
    refine QP.next ?_
    refine WP.pick [3] ?_
    refine WP.seqR ?_
    refine WL.pure 0 1 [21] (L' := [(21, .slice As5 s5.length cs5)]) (by kernel_rfl) (by decide) ?_
    refine WL.tell (op := .convert 79 9 (.tmp 21)) (ty := 9) (d := some 22) (g := none) (by kernel_rfl) (by kernel_rfl) (by kernel_rfl) (Hs5.runesStr (i := 0) rfl (by kernel_rfl) ru79 st9) ?_
    refine WL.restQ 2 [2] (L' := [(2, .string (runesBytes s5))]) (by kernel_rfl) ?_
    refine WP.dropAt 0 ?_
    refine WP.ret ?_
    obtain rfl := Option.some.inj h
    exact QP.returned [2] [.string (runesBytes s5)] _ (by kernel_rfl) (by kernel_rfl) (by kernel_rfl) (fun W hI => ⟨_, _, _, rfl, ⟨rfl, rfl, rfl⟩, hI⟩)

/-! ### grapevine/grapevineref1.Of: function 42 -/
def grapevineref1_Of_l0 (t6 : List Int) : Nat → (List T64) → Int → Int → Option (List T64)
  | 0, _, _, _ => none
  | k + 1, y22, y23, y24 => (if y24 < ((t6 ++ ([32] : List Int)).length : Int) then (if 0 ≤ y24 ∧ y24 < ((t6 ++ ([32] : List Int)).length : Int) then ((grapevineref1_letter ((t6 ++ ([32] : List Int)).getD y24.toNat 0)).bind fun t29 => (if t29 = true then grapevineref1_Of_l0 t6 k y22 y23 (IntKind.i64.wrap (y24 + 1)) else (if y24 > y23 then (if 0 ≤ y23 ∧ y23 ≤ y24 ∧ y24 ≤ ((t6 ++ ([32] : List Int)).length : Int) then ((grapevineref1_Norm k (runesBytes (((t6 ++ ([32] : List Int)).take y24.toNat).drop y23.toNat))).bind fun t37 => (if y22.length + ([(⟨t37, (y22.length : Int)⟩ : T64)] : List T64).length ≤ 1073741824 then grapevineref1_Of_l0 t6 k (y22 ++ ([(⟨t37, (y22.length : Int)⟩ : T64)] : List T64)) (IntKind.i64.wrap (y24 + 1)) (IntKind.i64.wrap (y24 + 1)) else none)) else none) else grapevineref1_Of_l0 t6 k y22 (IntKind.i64.wrap (y24 + 1)) (IntKind.i64.wrap (y24 + 1))))) else none) else some y22)
def grapevineref1_Of (k : Nat) (a0 : ByteArray) : Option (List T64) := ((grapevineref1_May a0).bind fun t1 => (if (!t1) = true then some ([] : List T64) else ((grapevineref1_runes a0).bind fun t6 => (if t6.length + ([32] : List Int).length ≤ 1073741824 then ((grapevineref1_Of_l0 t6 k ([] : List T64) 0 0).bind fun s15 => some s15) else none))))
set_option maxHeartbeats 4000000 in
theorem grapevineref1_Of_calls {B : World} {G : GMap} {Γ : List Chunk} {W : World} (HT : Tabs B G) (k : Nat) (a0 : ByteArray) (r : List T64) (h : grapevineref1_Of k a0 = some r) (hI : Inv B G (Γ) W) :
    Calls Tryd.prog 42 [.string a0].toArray W (Ret B (fun v G' Γ' => ∃ (AR : Option Addr), ∃ (cR : Nat), ∃ (CR : Chunk), v = .slice AR r.length cR ∧ Ow k64 G' AR cR r CR ∧ G = G' ∧ CR :: Γ = Γ')) := by
  refine calls_WP (Γ := Γ) (G := G) (B := B) Tryd.func42 rfl (by kernel_rfl) ?_ hI
  clear hI
  unfold grapevineref1_Of at h
  refine WP.seqP [0] (L' := [(0, .string a0)]) (by kernel_rfl) ?_
  refine WP.seqP [0, 3] (L' := [(0, .string a0), (3, .slice none 0 0)]) (by kernel_rfl) ?_
  refine WP.seq ?_
  refine WP.seqR ?_
  refine WL.pure 0 1 [0, 3, 7] (L' := [(0, .string a0), (3, .slice none 0 0), (7, .string a0)]) (by kernel_rfl) (by decide) ?_
  rw [Option.bind_eq_some_iff] at h
  obtain ⟨t1, ht2, h⟩ := h
  refine WL.op (op := .call { callee := (.value (.func 44)), args := #[(.tmp 7)], argTypes := #[9] }) (ty := 4) (d := some 8) (g := none) (by kernel_rfl) (by kernel_rfl) (by kernel_rfl) (Does.call (f := 44) (args := [.string a0]) (by kernel_rfl) (fun W hI => (grapevineref1_May_calls HT a0  t1 ht2 hI))) ?_
  rintro _ _ _ ⟨rfl, rfl, rfl⟩
  refine WL.restQ 2 [0, 3, 9] (L' := [(0, .string a0), (3, .slice none 0 0), (9, .bool (!t1))]) (by kernel_rfl) ?_
  refine WP.cond (b := (!t1)) (by kernel_rfl) (fun hc => ?_) (fun hc => ?_)
  · replace hc := hc
    rw [if_pos hc] at h
    have hc5 := hc
    clear hc
    refine WP.seqP [2] (L' := [(2, .slice none 0 0)]) (by kernel_rfl) ?_
    refine WP.ret ?_
    refine QP.thenR ?_
    obtain rfl := Option.some.inj h
    refine QP.addNil ?_
    exact QP.returned [2] [.slice none ([] : List T64).length 0] _ (by kernel_rfl) (by kernel_rfl) (by kernel_rfl) (fun W hI => ⟨_, _, _, rfl, ⟨none, 0, [], rfl, (Ow.nil k64 _), rfl, rfl⟩, hI⟩)
  · replace hc := (Bool.eq_false_iff.1 hc)
    rw [if_neg hc] at h
    have hc5 := hc
    clear hc
    refine WP.skip ?_
    refine QP.next ?_
    refine WP.pick [0, 3] ?_
    refine WP.seqR ?_
    refine WL.pure 0 1 [3, 10] (L' := [(3, .slice none 0 0), (10, .string a0)]) (by kernel_rfl) (by decide) ?_
    rw [Option.bind_eq_some_iff] at h
    obtain ⟨t6, ht7, h⟩ := h
    refine WL.op (op := .call { callee := (.value (.func 66)), args := #[(.tmp 10)], argTypes := #[9] }) (ty := 79) (d := some 11) (g := none) (by kernel_rfl) (by kernel_rfl) (by kernel_rfl) (Does.call (f := 66) (args := [.string a0]) (by kernel_rfl) (fun W hI => (grapevineref1_runes_calls HT a0  t6 ht7 hI))) ?_
    rintro _ _ _ ⟨AR8, cR8, CR8, rfl, HR8, rfl, rfl⟩
    refine WL.op (op := .buildSlice 79 1 #[(0, (.const (.int .i32 32)))]) (ty := 79) (d := some 12) (g := none) (by kernel_rfl) (by kernel_rfl) (by kernel_rfl) (Does.new (o := .cells #[.int .i32 32] 21 (0, 0)) (v := fun r => .slice (some ⟨r, 0, none⟩) 1 1) (fun r => by kernel_rfl)) ?_
    rintro _ _ _ ⟨b10, rfl, rfl, rfl⟩
    have Ho12 : Ow (kInt .i32) G (some ⟨b10, 0, none⟩) 1 ([32] : List Int) [(b10, .cells #[.int .i32 32] 21 (0, 0))] := Ow.lit (kd := (kInt .i32)) (G := G) (b := b10) (T := 21) (xs := ([32] : List Int)) (cs := [.int .i32 32]) (.cons (x := 32) (cs := [.int .i32 32]) (by exact rfl) .nil)
    by_cases hb13 : t6.length + ([32] : List Int).length ≤ 1073741824
    case neg => rw [if_neg hb13] at h; cases h
    rw [if_pos hb13] at h
    refine WL.op (op := .call { callee := (.builtin .append), args := #[(.tmp 11), (.tmp 12)], argTypes := #[79, 79] }) (ty := 79) (d := some 13) (g := none) (by kernel_rfl) (by kernel_rfl) (by kernel_rfl) (Ow.append (ys := ([32] : List Int)) (v := .slice (some ⟨b10, 0, none⟩) ([32] : List Int).length 1) HR8 (i := 1) rfl (by kernel_rfl) (by kernel_rfl) (Ho12.src (i := 0) rfl) sl79 ze21 nt79 (by decide) hb13) ?_
    rintro _ _ _ ⟨rfl, AN14, cN14, CN14, rfl, HN14, rfl⟩
    refine WL.restQ 4 [3, 4] (L' := [(3, .slice none 0 0), (4, .slice AN14 (t6 ++ ([32] : List Int)).length cN14)]) (by kernel_rfl) ?_
    refine WP.dropAt 0 ?_
    refine WP.seqP [3, 4, 5] (L' := [(3, .slice none 0 0), (4, .slice AN14 (t6 ++ ([32] : List Int)).length cN14), (5, .int .i64 0)]) (by kernel_rfl) ?_
    refine WP.seq ?_
    refine WP.seqP [3, 4, 5, 6] (L' := [(3, .slice none 0 0), (4, .slice AN14 (t6 ++ ([32] : List Int)).length cN14), (5, .int .i64 0), (6, .int .i64 0)]) (by kernel_rfl) ?_
    rw [Option.bind_eq_some_iff] at h
    obtain ⟨os15, h, hk16⟩ := h
    refine WP.cutQ (fun L' G' Γ' => ∃ s15 : (List T64), s15 = os15 ∧ ∃ (As15 : Option Addr), ∃ (cs15 : Nat), ∃ (Cs15 : Chunk), L' = [(3, .slice As15 s15.length cs15)] ∧ G = G' ∧ Cs15 :: Γ = Γ' ∧ Ow k64 G As15 cs15 s15 Cs15) ?_ ?_
    · clear hk16
      refine WP.block ?_
      refine WP.freezeN (i := 0) rfl (fun G17 hG18 hle19 nd20 => ?_)
      have Hz21 := HN14.rdN (by rw [← hG18]; exact hle19) nd20
      rw [← hG18] at Hz21
      refine WP.dropAt 0 ?_
      refine WP.addNil ?_
      refine WP.pick [3, 4, 5, 6] ?_
      refine WP.loopF (fun kn25 L' G' Γ' => ∃ (y22 : List T64), ∃ (y23 : Int), ∃ (y24 : Int), grapevineref1_Of_l0 t6 kn25 y22 y23 y24 = some os15 ∧ ∃ (Ay22 : Option Addr), ∃ (cy22 : Nat), ∃ (Cy22 : Chunk), L' = [(3, .slice Ay22 y22.length cy22), (4, .slice AN14 (t6 ++ ([32] : List Int)).length cN14), (5, .int .i64 y23), (6, .int .i64 y24)] ∧ G17 = G' ∧ Cy22 :: Γ = Γ' ∧ Ow k64 G17 Ay22 cy22 y22 Cy22) ?_ k ⟨([] : List T64), 0, 0, h, none, 0, [], rfl, rfl, rfl, (Ow.nil k64 _)⟩
      clear h
      rintro kn26 _ _ _ ⟨y22, y23, y24, h, Ay22, cy22, Cy22, rfl, rfl, rfl, Hy22⟩
      cases kn26 with
      | zero => exact absurd h (by simp [grapevineref1_Of_l0])
      | succ kn26 =>
        simp only [grapevineref1_Of_l0] at h
        refine WP.seq ?_
        refine WP.seqP [3, 4, 5, 6, 17] (L' := [(3, .slice Ay22 y22.length cy22), (4, .slice AN14 (t6 ++ ([32] : List Int)).length cN14), (5, .int .i64 y23), (6, .int .i64 y24), (17, .bool (decide (y24 < ((t6 ++ ([32] : List Int)).length : Int))))]) (by kernel_rfl) ?_
        refine WP.cond (b := decide (y24 < ((t6 ++ ([32] : List Int)).length : Int))) (by kernel_rfl) (fun hc => ?_) (fun hc => ?_)
        · replace hc := of_decide_eq_true hc
          rw [if_pos hc] at h
          have hc27 := hc
          clear hc
          refine WP.skip ?_
          refine QP.next ?_
          refine WP.pick [3, 4, 5, 6] ?_
          refine WP.seq ?_
          refine WP.block ?_
          refine WP.seq ?_
          refine WP.seqR ?_
          refine WL.pure 0 2 [3, 4, 5, 6, 20, 21] (L' := [(3, .slice Ay22 y22.length cy22), (4, .slice AN14 (t6 ++ ([32] : List Int)).length cN14), (5, .int .i64 y23), (6, .int .i64 y24), (20, .slice AN14 (t6 ++ ([32] : List Int)).length cN14), (21, .int .i64 y24)]) (by kernel_rfl) (by decide) ?_
          by_cases hb28 : 0 ≤ y24 ∧ y24 < ((t6 ++ ([32] : List Int)).length : Int)
          case neg => rw [if_neg hb28] at h; cases h
          rw [if_pos hb28] at h
          refine WL.tell (op := .indexAddr 79 (.tmp 20) (.tmp 21)) (ty := 0) (d := some 22) (g := none) (by kernel_rfl) (by kernel_rfl) (by kernel_rfl) (Tells.indexAddr (A := AN14) (n := (t6 ++ ([32] : List Int)).length) (c := cN14) (k := .i64) (j := y24) (by kernel_rfl) (by kernel_rfl) (Hz21.isSome hb28.1 hb28.2) hb28.1 hb28.2 sl79) ?_
          refine WL.tellE (op := .load 21 (.tmp 22)) (ty := 21) (d := some 23) (g := none) (by kernel_rfl) (by kernel_rfl) (by kernel_rfl) (Hz21.load (agg := false) hb28.1 hb28.2 0 ag21 (fun _ => rfl) (by kernel_rfl)) ?_
          rintro _ rfl
          rw [Option.bind_eq_some_iff] at h
          obtain ⟨t29, ht30, h⟩ := h
          refine WL.op (op := .call { callee := (.value (.func 67)), args := #[(.tmp 23)], argTypes := #[21] }) (ty := 4) (d := some 24) (g := none) (by kernel_rfl) (by kernel_rfl) (by kernel_rfl) (Does.call (f := 67) (args := [.int .i32 ((t6 ++ ([32] : List Int)).getD y24.toNat 0)]) (by kernel_rfl) (fun W hI => (grapevineref1_letter_calls (HT.mono hle19) ((t6 ++ ([32] : List Int)).getD y24.toNat 0)  t29 ht30 hI))) ?_
          rintro _ _ _ ⟨rfl, rfl, rfl⟩
          refine WL.restQ 5 [3, 4, 5, 6, 24] (L' := [(3, .slice Ay22 y22.length cy22), (4, .slice AN14 (t6 ++ ([32] : List Int)).length cN14), (5, .int .i64 y23), (6, .int .i64 y24), (24, .bool t29)]) (by kernel_rfl) ?_
          refine WP.cond (b := t29) (by kernel_rfl) (fun hc => ?_) (fun hc => ?_)
          · replace hc := hc
            rw [if_pos hc] at h
            have hc33 := hc
            clear hc
            refine WP.exit ?_
            refine QP.thenE ?_
            refine QP.blockE ?_
            refine QP.next ?_
            refine WP.pick [3, 4, 5, 6] ?_
            refine WP.regionP [3, 4, 5, 6] (L' := [(3, .slice Ay22 y22.length cy22), (4, .slice AN14 (t6 ++ ([32] : List Int)).length cN14), (5, .int .i64 y23), (6, .int .i64 (IntKind.i64.wrap (y24 + 1)))]) (by kernel_rfl) ?_
            refine QP.pick [3, 4, 5, 6] ?_
            exact QP.meet ⟨kn26, Nat.lt_succ_self _, y22, y23, (IntKind.i64.wrap (y24 + 1)), h, Ay22, cy22, Cy22, rfl, rfl, rfl, Hy22⟩
          · replace hc := (Bool.eq_false_iff.1 hc)
            rw [if_neg hc] at h
            have hc33 := hc
            clear hc
            refine WP.skip ?_
            refine QP.next ?_
            refine WP.pick [3, 4, 5, 6] ?_
            refine WP.seq ?_
            refine WP.seqP [3, 4, 5, 6, 27] (L' := [(3, .slice Ay22 y22.length cy22), (4, .slice AN14 (t6 ++ ([32] : List Int)).length cN14), (5, .int .i64 y23), (6, .int .i64 y24), (27, .bool (decide (y24 > y23)))]) (by kernel_rfl) ?_
            refine WP.cond (b := decide (y24 > y23)) (by kernel_rfl) (fun hc => ?_) (fun hc => ?_)
            · replace hc := of_decide_eq_true hc
              rw [if_pos hc] at h
              have hc34 := hc
              clear hc
              refine WP.region ?_
              refine WL.pure 0 4 [3, 4, 6, 28, 29, 30, 31] (L' := [(3, .slice Ay22 y22.length cy22), (4, .slice AN14 (t6 ++ ([32] : List Int)).length cN14), (6, .int .i64 y24), (28, .slice Ay22 y22.length cy22), (29, .slice AN14 (t6 ++ ([32] : List Int)).length cN14), (30, .int .i64 y23), (31, .int .i64 y24)]) (by kernel_rfl) (by decide) ?_
              by_cases hb35 : 0 ≤ y23 ∧ y23 ≤ y24 ∧ y24 ≤ ((t6 ++ ([32] : List Int)).length : Int)
              case neg => rw [if_neg hb35] at h; cases h
              rw [if_pos hb35] at h
              refine WL.tellS (op := .slice 79 (.tmp 29) (some (.tmp 30)) (some (.tmp 31)) none) (ty := 79) (d := some 32) (g := none) (by kernel_rfl) (by kernel_rfl) (by kernel_rfl) (Hz21.slice (l := y23) (h := y24) (by kernel_rfl) ⟨.i64, by kernel_rfl⟩ ⟨.i64, by kernel_rfl⟩ hb35.1 hb35.2.1 hb35.2.2 sl79) ?_
              rintro AP36 cP36 HP36
              refine WL.tell (op := .convert 79 9 (.tmp 32)) (ty := 9) (d := some 33) (g := none) (by kernel_rfl) (by kernel_rfl) (by kernel_rfl) (HP36.runesStr (by kernel_rfl) ru79 st9) ?_
              rw [Option.bind_eq_some_iff] at h
              obtain ⟨t37, ht38, h⟩ := h
              refine WL.op (op := .call { callee := (.value (.func 46)), args := #[(.tmp 33)], argTypes := #[9] }) (ty := 9) (d := some 34) (g := none) (by kernel_rfl) (by kernel_rfl) (by kernel_rfl) (Does.call (f := 46) (args := [.string (runesBytes (((t6 ++ ([32] : List Int)).take y24.toNat).drop y23.toNat))]) (by kernel_rfl) (fun W hI => (grapevineref1_Norm_calls (HT.mono hle19) kn26 (runesBytes (((t6 ++ ([32] : List Int)).take y24.toNat).drop y23.toNat))  t37 ht38 hI))) ?_
              rintro _ _ _ ⟨rfl, rfl, rfl⟩
              refine WL.pure 7 10 [3, 4, 6, 28, 37] (L' := [(3, .slice Ay22 y22.length cy22), (4, .slice AN14 (t6 ++ ([32] : List Int)).length cN14), (6, .int .i64 y24), (28, .slice Ay22 y22.length cy22), (37, .agg #[.string t37, .int .i64 (y22.length : Int)])]) (by kernel_rfl) (by decide) ?_
              refine WL.op (op := .buildSlice 56 1 #[(0, (.tmp 37))]) (ty := 56) (d := some 38) (g := none) (by kernel_rfl) (by kernel_rfl) (by kernel_rfl) (Does.new (o := .cells #[.string t37, .int .i64 (y22.length : Int)] 64 (0, 0)) (v := fun r => .slice (some ⟨r, 0, none⟩) 1 1) (fun r => by kernel_rfl)) ?_
              rintro _ _ _ ⟨b41, rfl, rfl, rfl⟩
              have Ho43 : Ow k64 G17 (some ⟨b41, 0, none⟩) 1 ([(⟨t37, (y22.length : Int)⟩ : T64)] : List T64) [(b41, .cells #[.string t37, .int .i64 (y22.length : Int)] 64 (0, 0))] := Ow.lit (kd := k64) (G := G17) (b := b41) (T := 64) (xs := ([(⟨t37, (y22.length : Int)⟩ : T64)] : List T64)) (cs := [.string t37, .int .i64 (y22.length : Int)]) (.cons (x := (⟨t37, (y22.length : Int)⟩ : T64)) (cs := [.string t37, .int .i64 (y22.length : Int)]) (by exact rfl) .nil)
              by_cases hb44 : y22.length + ([(⟨t37, (y22.length : Int)⟩ : T64)] : List T64).length ≤ 1073741824
              case neg => rw [if_neg hb44] at h; cases h
              rw [if_pos hb44] at h
              refine WL.op (op := .call { callee := (.builtin .append), args := #[(.tmp 28), (.tmp 38)], argTypes := #[56, 56] }) (ty := 56) (d := some 39) (g := none) (by kernel_rfl) (by kernel_rfl) (by kernel_rfl) (Ow.append (ys := ([(⟨t37, (y22.length : Int)⟩ : T64)] : List T64)) (v := .slice (some ⟨b41, 0, none⟩) ([(⟨t37, (y22.length : Int)⟩ : T64)] : List T64).length 1) Hy22 (i := 1) rfl (by kernel_rfl) (by kernel_rfl) (Ho43.src (i := 0) rfl) sl56 ze64 nt56 (by decide) hb44) ?_
              rintro _ _ _ ⟨rfl, AN45, cN45, CN45, rfl, HN45, rfl⟩
              refine WL.rest 12 [3, 4, 6] (L' := [(3, .slice AN45 (y22 ++ ([(⟨t37, (y22.length : Int)⟩ : T64)] : List T64)).length cN45), (4, .slice AN14 (t6 ++ ([32] : List Int)).length cN14), (6, .int .i64 y24)]) (by kernel_rfl) ?_
              refine QP.next ?_
              refine WP.pick [3, 4, 6] ?_
              refine WP.regionP [3, 4, 5, 6] (L' := [(3, .slice AN45 (y22 ++ ([(⟨t37, (y22.length : Int)⟩ : T64)] : List T64)).length cN45), (4, .slice AN14 (t6 ++ ([32] : List Int)).length cN14), (5, .int .i64 (IntKind.i64.wrap (y24 + 1))), (6, .int .i64 y24)]) (by kernel_rfl) ?_
              refine QP.blockN ?_
              refine QP.next ?_
              refine WP.pick [3, 4, 5, 6] ?_
              refine WP.regionP [3, 4, 5, 6] (L' := [(3, .slice AN45 (y22 ++ ([(⟨t37, (y22.length : Int)⟩ : T64)] : List T64)).length cN45), (4, .slice AN14 (t6 ++ ([32] : List Int)).length cN14), (5, .int .i64 (IntKind.i64.wrap (y24 + 1))), (6, .int .i64 (IntKind.i64.wrap (y24 + 1)))]) (by kernel_rfl) ?_
              refine QP.dropAt 0 ?_
              refine QP.pick [3, 4, 5, 6] ?_
              exact QP.meet ⟨kn26, Nat.lt_succ_self _, (y22 ++ ([(⟨t37, (y22.length : Int)⟩ : T64)] : List T64)), (IntKind.i64.wrap (y24 + 1)), (IntKind.i64.wrap (y24 + 1)), h, AN45, cN45, CN45, rfl, rfl, rfl, HN45⟩
            · replace hc := of_decide_eq_false hc
              rw [if_neg hc] at h
              have hc34 := hc
              clear hc
              refine WP.skip ?_
              refine QP.next ?_
              refine WP.pick [3, 4, 6] ?_
              refine WP.regionP [3, 4, 5, 6] (L' := [(3, .slice Ay22 y22.length cy22), (4, .slice AN14 (t6 ++ ([32] : List Int)).length cN14), (5, .int .i64 (IntKind.i64.wrap (y24 + 1))), (6, .int .i64 y24)]) (by kernel_rfl) ?_
              refine QP.blockN ?_
              refine QP.next ?_
              refine WP.pick [3, 4, 5, 6] ?_
              refine WP.regionP [3, 4, 5, 6] (L' := [(3, .slice Ay22 y22.length cy22), (4, .slice AN14 (t6 ++ ([32] : List Int)).length cN14), (5, .int .i64 (IntKind.i64.wrap (y24 + 1))), (6, .int .i64 (IntKind.i64.wrap (y24 + 1)))]) (by kernel_rfl) ?_
              refine QP.pick [3, 4, 5, 6] ?_
              exact QP.meet ⟨kn26, Nat.lt_succ_self _, y22, (IntKind.i64.wrap (y24 + 1)), (IntKind.i64.wrap (y24 + 1)), h, Ay22, cy22, Cy22, rfl, rfl, rfl, Hy22⟩
        · replace hc := of_decide_eq_false hc
          rw [if_neg hc] at h
          have hc27 := hc
          clear hc
          refine WP.exit ?_
          refine QP.thenE ?_
          refine QP.thenE ?_
          refine QP.blockE ?_
          refine QP.lower hle19 ?_
          refine QP.pick [3] ?_
          exact QP.meet ⟨_, Option.some.inj h, Ay22, cy22, Cy22, rfl, rfl, rfl, (Hy22.flat (kFlat_flat _ _ _ _))⟩
    · rintro _ _ _ ⟨s15, rfl, As15, cs15, Cs15, rfl, rfl, rfl, Hs15⟩
      clear h
      replace h := hk16
      refine QP.next ?_
      refine WP.pick [3] ?_
      refine WP.seqP [2] (L' := [(2, .slice As15 s15.length cs15)]) (by kernel_rfl) ?_
      refine WP.ret ?_
      obtain rfl := Option.some.inj h
      exact QP.returned [2] [.slice As15 s15.length cs15] _ (by kernel_rfl) (by kernel_rfl) (by kernel_rfl) (fun W hI => ⟨_, _, _, rfl, ⟨As15, cs15, Cs15, rfl, Hs15, rfl, rfl⟩, hI⟩)

/-! ### grapevine/grapevineref1.One: function 48 -/
def grapevineref1_One_l0 (t1 : List Int) : Nat → Int → Option (Sum Bool Unit)
  | 0, _ => none
  | k + 1, y7 => (if y7 < (t1.length : Int) then (if 0 ≤ y7 ∧ y7 < (t1.length : Int) then ((grapevineref1_letter (t1.getD y7.toNat 0)).bind fun t12 => (if (!t12) = true then some (Sum.inl false) else grapevineref1_One_l0 t1 k (IntKind.i64.wrap (y7 + 1)))) else none) else some (Sum.inr ()))
def grapevineref1_One (k : Nat) (a0 : ByteArray) : Option Bool := ((grapevineref1_runes a0).bind fun t1 => ((grapevineref1_One_l0 t1 k 0).bind fun os5 => match os5 with | Sum.inl r => some r | Sum.inr s5 => some (decide ((t1.length : Int) > 0))))
set_option maxHeartbeats 4000000 in
theorem grapevineref1_One_calls {B : World} {G : GMap} {Γ : List Chunk} {W : World} (HT : Tabs B G) (k : Nat) (a0 : ByteArray) (r : Bool) (h : grapevineref1_One k a0 = some r) (hI : Inv B G (Γ) W) :
    Calls Tryd.prog 48 [.string a0].toArray W (Ret B (fun v G' Γ' => v = .bool r ∧ G = G' ∧ Γ = Γ')) := by
  refine calls_WP (Γ := Γ) (G := G) (B := B) Tryd.func48 rfl (by kernel_rfl) ?_ hI
  clear hI
  unfold grapevineref1_One at h
  refine WP.seqP [0] (L' := [(0, .string a0)]) (by kernel_rfl) ?_
  refine WP.seqR ?_
  refine WL.pure 0 1 [5] (L' := [(5, .string a0)]) (by kernel_rfl) (by decide) ?_
  rw [Option.bind_eq_some_iff] at h
  obtain ⟨t1, ht2, h⟩ := h
  refine WL.op (op := .call { callee := (.value (.func 66)), args := #[(.tmp 5)], argTypes := #[9] }) (ty := 79) (d := some 6) (g := none) (by kernel_rfl) (by kernel_rfl) (by kernel_rfl) (Does.call (f := 66) (args := [.string a0]) (by kernel_rfl) (fun W hI => (grapevineref1_runes_calls HT a0  t1 ht2 hI))) ?_
  rintro _ _ _ ⟨AR3, cR3, CR3, rfl, HR3, rfl, rfl⟩
  refine WL.restQ 2 [3] (L' := [(3, .slice AR3 t1.length cR3)]) (by kernel_rfl) ?_
  refine WP.seq ?_
  refine WP.seqP [3, 4] (L' := [(3, .slice AR3 t1.length cR3), (4, .int .i64 0)]) (by kernel_rfl) ?_
  rw [Option.bind_eq_some_iff] at h
  obtain ⟨os5, h, hk6⟩ := h
  refine WP.cutQ (fun L' G' Γ' => ∃ s5 : Unit, Sum.inr s5 = os5 ∧ L' = [(3, .slice AR3 t1.length cR3)] ∧ G = G' ∧ CR3 :: Γ = Γ') ?_ ?_
  · skip
    refine WP.block ?_
    refine WP.pick [3, 4] ?_
    refine WP.loopF (fun kn8 L' G' Γ' => ∃ (y7 : Int), grapevineref1_One_l0 t1 kn8 y7 = some os5 ∧ L' = [(3, .slice AR3 t1.length cR3), (4, .int .i64 y7)] ∧ G = G' ∧ CR3 :: Γ = Γ') ?_ k ⟨0, h, rfl, rfl, rfl⟩
    clear h
    rintro kn9 _ _ _ ⟨y7, h, rfl, rfl, rfl⟩
    cases kn9 with
    | zero => exact absurd h (by simp [grapevineref1_One_l0])
    | succ kn9 =>
      simp only [grapevineref1_One_l0] at h
      refine WP.seq ?_
      refine WP.seqP [3, 4, 10] (L' := [(3, .slice AR3 t1.length cR3), (4, .int .i64 y7), (10, .bool (decide (y7 < (t1.length : Int))))]) (by kernel_rfl) ?_
      refine WP.cond (b := decide (y7 < (t1.length : Int))) (by kernel_rfl) (fun hc => ?_) (fun hc => ?_)
      · replace hc := of_decide_eq_true hc
        rw [if_pos hc] at h
        have hc10 := hc
        clear hc
        refine WP.skip ?_
        refine QP.next ?_
        refine WP.pick [3, 4] ?_
        refine WP.seq ?_
        refine WP.block ?_
        refine WP.seqR ?_
        refine WL.pure 0 2 [3, 4, 13, 14] (L' := [(3, .slice AR3 t1.length cR3), (4, .int .i64 y7), (13, .slice AR3 t1.length cR3), (14, .int .i64 y7)]) (by kernel_rfl) (by decide) ?_
        by_cases hb11 : 0 ≤ y7 ∧ y7 < (t1.length : Int)
        case neg => rw [if_neg hb11] at h; cases h
        rw [if_pos hb11] at h
        refine WL.tell (op := .indexAddr 79 (.tmp 13) (.tmp 14)) (ty := 0) (d := some 15) (g := none) (by kernel_rfl) (by kernel_rfl) (by kernel_rfl) (Tells.indexAddr (A := AR3) (n := t1.length) (c := cR3) (k := .i64) (j := y7) (by kernel_rfl) (by kernel_rfl) (HR3.isSome hb11.1 hb11.2) hb11.1 hb11.2 sl79) ?_
        refine WL.tellE (op := .load 21 (.tmp 15)) (ty := 21) (d := some 16) (g := none) (by kernel_rfl) (by kernel_rfl) (by kernel_rfl) (HR3.load (i := 0) rfl (agg := false) hb11.1 hb11.2 0 ag21 (fun _ => rfl) (by kernel_rfl)) ?_
        rintro _ rfl
        rw [Option.bind_eq_some_iff] at h
        obtain ⟨t12, ht13, h⟩ := h
        refine WL.op (op := .call { callee := (.value (.func 67)), args := #[(.tmp 16)], argTypes := #[21] }) (ty := 4) (d := some 17) (g := none) (by kernel_rfl) (by kernel_rfl) (by kernel_rfl) (Does.call (f := 67) (args := [.int .i32 (t1.getD y7.toNat 0)]) (by kernel_rfl) (fun W hI => (grapevineref1_letter_calls HT (t1.getD y7.toNat 0)  t12 ht13 hI))) ?_
        rintro _ _ _ ⟨rfl, rfl, rfl⟩
        refine WL.restQ 5 [3, 4, 18] (L' := [(3, .slice AR3 t1.length cR3), (4, .int .i64 y7), (18, .bool (!t12))]) (by kernel_rfl) ?_
        refine WP.cond (b := (!t12)) (by kernel_rfl) (fun hc => ?_) (fun hc => ?_)
        · replace hc := hc
          rw [if_pos hc] at h
          have hc16 := hc
          clear hc
          refine WP.seqP [2] (L' := [(2, .bool false)]) (by kernel_rfl) ?_
          refine WP.dropAt 0 ?_
          refine WP.ret ?_
          refine QP.blockR ?_
          refine QP.thenR ?_
          refine QP.thenR ?_
          refine QP.blockR ?_
          refine QP.thenR ?_
          refine QP.thenR ?_
          obtain rfl := Option.some.inj h
          obtain rfl := Option.some.inj (show some _ = some _ from hk6)
          exact QP.returned [2] [.bool false] _ (by kernel_rfl) (by kernel_rfl) (by kernel_rfl) (fun W hI => ⟨_, _, _, rfl, ⟨rfl, rfl, rfl⟩, hI⟩)
        · replace hc := (Bool.eq_false_iff.1 hc)
          rw [if_neg hc] at h
          have hc16 := hc
          clear hc
          refine WP.skip ?_
          refine QP.blockN ?_
          refine QP.next ?_
          refine WP.pick [3, 4] ?_
          refine WP.regionP [3, 4] (L' := [(3, .slice AR3 t1.length cR3), (4, .int .i64 (IntKind.i64.wrap (y7 + 1)))]) (by kernel_rfl) ?_
          refine QP.pick [3, 4] ?_
          exact QP.meet ⟨kn9, Nat.lt_succ_self _, (IntKind.i64.wrap (y7 + 1)), h, rfl, rfl, rfl⟩
      · replace hc := of_decide_eq_false hc
        rw [if_neg hc] at h
        have hc10 := hc
        clear hc
        refine WP.exit ?_
        refine QP.thenE ?_
        refine QP.thenE ?_
        refine QP.blockE ?_
        refine QP.pick [3] ?_
        exact QP.meet ⟨_, Option.some.inj h, rfl, rfl, rfl⟩
  · rintro _ _ _ ⟨s5, rfl, rfl, rfl, rfl⟩
    clear h
    replace h := hk6
    dsimp only at h
    refine QP.next ?_
    refine WP.pick [3] ?_
    refine WP.seqP [2] (L' := [(2, .bool (decide ((t1.length : Int) > 0)))]) (by kernel_rfl) ?_
    refine WP.dropAt 0 ?_
    refine WP.ret ?_
    obtain rfl := Option.some.inj h
    exact QP.returned [2] [.bool (decide ((t1.length : Int) > 0))] _ (by kernel_rfl) (by kernel_rfl) (by kernel_rfl) (fun W hI => ⟨_, _, _, rfl, ⟨rfl, rfl, rfl⟩, hI⟩)

/-! ### grapevine/grapevinelaw0.OverWords: function 49 -/
def grapevinelaw0_OverWords_l0 : Nat → Int → (List T64) → Option (List T64)
  | 0, _, _ => none
  | k + 1, y3, y4 => (if y3 < (y4.length : Int) then (if 0 ≤ y3 ∧ y3 < (y4.length : Int) then grapevinelaw0_OverWords_l0 k (IntKind.i64.wrap (y3 + 1)) (y4.set y3.toNat (⟨(⟨#[]⟩ : ByteArray), (-9)⟩ : T64)) else none) else some y4)
def grapevinelaw0_OverWords (k : Nat) (l0 : List T64) : Option Unit := ((grapevinelaw0_OverWords_l0 k 0 l0).bind fun s1 => (if s1.length + ([(⟨(⟨#[]⟩ : ByteArray), (-9)⟩ : T64)] : List T64).length ≤ 1073741824 then some () else none))
set_option maxHeartbeats 4000000 in
theorem grapevinelaw0_OverWords_calls {B : World} {G : GMap} {Γ : List Chunk} {W : World} (k : Nat) (l0 : List T64) (Al0 : Option Addr) (cl0 : Nat) (Cl0 : Chunk) (Hl0 : Ow k64 G Al0 cl0 l0 Cl0) (r : Unit) (h : grapevinelaw0_OverWords k l0 = some r) (hI : Inv B G (Cl0 :: Γ) W) :
    Calls Tryd.prog 49 [.slice Al0 l0.length cl0].toArray W (Ret B (fun v G' Γ' => v = .tuple #[] ∧ G = G' ∧ Γ = Γ')) := by
  refine calls_WP (Γ := Cl0 :: Γ) (G := G) (B := B) Tryd.func49 rfl (by kernel_rfl) ?_ hI
  clear hI
  unfold grapevinelaw0_OverWords at h
  refine WP.seq ?_
  refine WP.seqP [0, 2] (L' := [(0, .slice Al0 l0.length cl0), (2, .int .i64 0)]) (by kernel_rfl) ?_
  rw [Option.bind_eq_some_iff] at h
  obtain ⟨os1, h, hk2⟩ := h
  refine WP.cutQ (fun L' G' Γ' => ∃ s1 : (List T64), s1 = os1 ∧ ∃ (As1 : Option Addr), ∃ (cs1 : Nat), ∃ (Cs1 : Chunk), L' = [(0, .slice As1 s1.length cs1)] ∧ G = G' ∧ Cs1 :: Γ = Γ' ∧ Ow k64 G As1 cs1 s1 Cs1) ?_ ?_
  · clear hk2
    refine WP.block ?_
    refine WP.pick [0, 2] ?_
    refine WP.loopF (fun kn5 L' G' Γ' => ∃ (y3 : Int), ∃ (y4 : List T64), grapevinelaw0_OverWords_l0 kn5 y3 y4 = some os1 ∧ ∃ (Ay4 : Option Addr), ∃ (cy4 : Nat), ∃ (Cy4 : Chunk), L' = [(0, .slice Ay4 y4.length cy4), (2, .int .i64 y3)] ∧ G = G' ∧ Cy4 :: Γ = Γ' ∧ Ow k64 G Ay4 cy4 y4 Cy4) ?_ k ⟨0, l0, h, Al0, cl0, Cl0, rfl, rfl, rfl, Hl0⟩
    clear h
    rintro kn6 _ _ _ ⟨y3, y4, h, Ay4, cy4, Cy4, rfl, rfl, rfl, Hy4⟩
    cases kn6 with
    | zero => exact absurd h (by simp [grapevinelaw0_OverWords_l0])
    | succ kn6 =>
      simp only [grapevinelaw0_OverWords_l0] at h
      refine WP.seq ?_
      refine WP.seqP [0, 2, 6] (L' := [(0, .slice Ay4 y4.length cy4), (2, .int .i64 y3), (6, .bool (decide (y3 < (y4.length : Int))))]) (by kernel_rfl) ?_
      refine WP.cond (b := decide (y3 < (y4.length : Int))) (by kernel_rfl) (fun hc => ?_) (fun hc => ?_)
      · replace hc := of_decide_eq_true hc
        rw [if_pos hc] at h
        have hc7 := hc
        clear hc
        refine WP.skip ?_
        refine QP.next ?_
        refine WP.pick [0, 2] ?_
        refine WP.seq ?_
        refine WP.block ?_
        refine WP.region ?_
        refine WL.pure 0 3 [0, 2, 9, 10, 11] (L' := [(0, .slice Ay4 y4.length cy4), (2, .int .i64 y3), (9, .slice Ay4 y4.length cy4), (10, .int .i64 y3), (11, .agg #[.string (⟨#[]⟩ : ByteArray), .int .i64 (-9)])]) (by kernel_rfl) (by decide) ?_
        by_cases hb8 : 0 ≤ y3 ∧ y3 < (y4.length : Int)
        case neg => rw [if_neg hb8] at h; cases h
        rw [if_pos hb8] at h
        refine WL.tell (op := .indexAddr 56 (.tmp 9) (.tmp 10)) (ty := 0) (d := some 12) (g := none) (by kernel_rfl) (by kernel_rfl) (by kernel_rfl) (Tells.indexAddr (A := Ay4) (n := y4.length) (c := cy4) (k := .i64) (j := y3) (by kernel_rfl) (by kernel_rfl) (Hy4.isSome hb8.1 hb8.2) hb8.1 hb8.2 sl56) ?_
        refine WL.op (op := .store 64 (.tmp 12) (.tmp 11)) (ty := 0) (d := none) (g := none) (by kernel_rfl) (by kernel_rfl) (by kernel_rfl) (Ow.store Hy4 (i := 0) rfl hb8.1 hb8.2 (z := (⟨(⟨#[]⟩ : ByteArray), (-9)⟩ : T64)) (v := .agg #[.string (⟨#[]⟩ : ByteArray), .int .i64 (-9)]) (by kernel_rfl) (by kernel_rfl) sz64 (by exact rfl)) ?_
        rintro _ _ _ ⟨rfl, rfl, C9, Ho10, rfl⟩
        refine WL.reput 0 (v := .slice Ay4 y4.length cy4) (v' := .slice Ay4 (y4.set y3.toNat (⟨(⟨#[]⟩ : ByteArray), (-9)⟩ : T64)).length cy4) (by kernel_rfl) (by simp only [List.length_set]) ?_
        refine WL.rest 5 [0, 2] (L' := [(0, .slice Ay4 (y4.set y3.toNat (⟨(⟨#[]⟩ : ByteArray), (-9)⟩ : T64)).length cy4), (2, .int .i64 y3)]) (by kernel_rfl) ?_
        refine QP.blockN ?_
        refine QP.next ?_
        refine WP.pick [0, 2] ?_
        refine WP.regionP [0, 2] (L' := [(0, .slice Ay4 (y4.set y3.toNat (⟨(⟨#[]⟩ : ByteArray), (-9)⟩ : T64)).length cy4), (2, .int .i64 (IntKind.i64.wrap (y3 + 1)))]) (by kernel_rfl) ?_
        refine QP.pick [0, 2] ?_
        exact QP.meet ⟨kn6, Nat.lt_succ_self _, (IntKind.i64.wrap (y3 + 1)), (y4.set y3.toNat (⟨(⟨#[]⟩ : ByteArray), (-9)⟩ : T64)), h, Ay4, cy4, C9, rfl, rfl, rfl, Ho10⟩
      · replace hc := of_decide_eq_false hc
        rw [if_neg hc] at h
        have hc7 := hc
        clear hc
        refine WP.exit ?_
        refine QP.thenE ?_
        refine QP.thenE ?_
        refine QP.blockE ?_
        refine QP.pick [0] ?_
        exact QP.meet ⟨_, Option.some.inj h, Ay4, cy4, Cy4, rfl, rfl, rfl, Hy4⟩
  · rintro _ _ _ ⟨s1, rfl, As1, cs1, Cs1, rfl, rfl, rfl, Hs1⟩
    clear h
    replace h := hk2
    refine QP.next ?_
    refine WP.pick [0] ?_
    refine WP.region ?_
    refine WL.pure 0 2 [13, 14] (L' := [(13, .slice As1 s1.length cs1), (14, .agg #[.string (⟨#[]⟩ : ByteArray), .int .i64 (-9)])]) (by kernel_rfl) (by decide) ?_
    refine WL.op (op := .buildSlice 56 1 #[(0, (.tmp 14))]) (ty := 56) (d := some 15) (g := none) (by kernel_rfl) (by kernel_rfl) (by kernel_rfl) (Does.new (o := .cells #[.string (⟨#[]⟩ : ByteArray), .int .i64 (-9)] 64 (0, 0)) (v := fun r => .slice (some ⟨r, 0, none⟩) 1 1) (fun r => by kernel_rfl)) ?_
    rintro _ _ _ ⟨b11, rfl, rfl, rfl⟩
    have Ho13 : Ow k64 G (some ⟨b11, 0, none⟩) 1 ([(⟨(⟨#[]⟩ : ByteArray), (-9)⟩ : T64)] : List T64) [(b11, .cells #[.string (⟨#[]⟩ : ByteArray), .int .i64 (-9)] 64 (0, 0))] := Ow.lit (kd := k64) (G := G) (b := b11) (T := 64) (xs := ([(⟨(⟨#[]⟩ : ByteArray), (-9)⟩ : T64)] : List T64)) (cs := [.string (⟨#[]⟩ : ByteArray), .int .i64 (-9)]) (.cons (x := (⟨(⟨#[]⟩ : ByteArray), (-9)⟩ : T64)) (cs := [.string (⟨#[]⟩ : ByteArray), .int .i64 (-9)]) (by exact rfl) .nil)
    by_cases hb14 : s1.length + ([(⟨(⟨#[]⟩ : ByteArray), (-9)⟩ : T64)] : List T64).length ≤ 1073741824
    case neg => rw [if_neg hb14] at h; cases h
    rw [if_pos hb14] at h
    refine WL.op (op := .call { callee := (.builtin .append), args := #[(.tmp 13), (.tmp 15)], argTypes := #[56, 56] }) (ty := 56) (d := some 16) (g := none) (by kernel_rfl) (by kernel_rfl) (by kernel_rfl) (Ow.append (ys := ([(⟨(⟨#[]⟩ : ByteArray), (-9)⟩ : T64)] : List T64)) (v := .slice (some ⟨b11, 0, none⟩) ([(⟨(⟨#[]⟩ : ByteArray), (-9)⟩ : T64)] : List T64).length 1) Hs1 (i := 1) rfl (by kernel_rfl) (by kernel_rfl) (Ho13.src (i := 0) rfl) sl56 ze64 nt56 (by decide) hb14) ?_
    rintro _ _ _ ⟨rfl, AN15, cN15, CN15, rfl, HN15, rfl⟩
    refine WL.rest 4 [] (L' := []) (by kernel_rfl) ?_
    obtain rfl := Option.some.inj h
    refine QP.dropAt 1 ?_
    refine QP.dropAt 0 ?_
    exact QP.returnedN [] [] _ (by kernel_rfl) (by kernel_rfl) (by kernel_rfl) (fun W hI => ⟨_, _, _, rfl, ⟨rfl, rfl, rfl⟩, hI⟩)
end Go.Proofs.YtjmhhmljldjmjaaDoor.Gf
