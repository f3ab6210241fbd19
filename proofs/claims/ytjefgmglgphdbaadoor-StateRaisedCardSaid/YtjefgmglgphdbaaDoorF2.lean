/- Walks of Go functions: what each tells, as a plain Lean function, and that the Go code comes to it. Written by gg.py of this repo. -/
import Derived.Test.YtjefgmglgphdbaaDoorT
import Derived.Test.YtjefgmglgphdbaaDoorF0
import Derived.Test.YtjefgmglgphdbaaDoorF1
namespace Go.Proofs.YtjefgmglgphdbaaDoor.Gf
open Go Go.Gg
set_option maxRecDepth 100000
set_option linter.unusedVariables false
set_option linter.unusedSimpArgs false

/-! ### grapevine/grapevinelaw19.play: function 18 -/
noncomputable def grapevinelaw19_play (k : Nat) (a0 : T63) (a1 : T36) : Option T63 := (if a1.f0 = 0 then ((grapevinelaw19_rec a1.f3 a1.f4).bind fun t3 => ((state_State_Accept a0 t3).bind fun t7 => some t7.2)) else (if a1.f0 = 1 then ((state_State_Retire k a0 a1.f1 a1.f2).bind fun t12 => some t12.2) else (if a1.f0 = 2 then ((state_State_Raise k a0 a1.f8).bind fun t17 => some t17.2) else some a0)))
set_option maxHeartbeats 4000000 in
theorem grapevinelaw19_play_calls {B : World} {G : GMap} {Γ : List Chunk} {W : World} (HT : Tabs B G) (k : Nat) (a0 : T63) (a1 : T36) (b0 : Nat) (Aa0_f0 : Option Addr) (ca0_f0 : Nat) (Ca0_f0 : Chunk) (Ha0_f0 : Ow (kInt .i64) G Aa0_f0 ca0_f0 a0.f0 Ca0_f0) (Aa0_f1 : Option Addr) (ca0_f1 : Nat) (Ca0_f1 : Chunk) (Ha0_f1 : Ow (kInt .i64) G Aa0_f1 ca0_f1 a0.f1 Ca0_f1) (Aa0_f2 : Option Addr) (ca0_f2 : Nat) (Ca0_f2 : Chunk) (Ha0_f2 : MpF m61 G Aa0_f2 ca0_f2 a0.f2 Ca0_f2) (Aa1_f8 : Option Addr) (ca1_f8 : Nat) (Ha1_f8 : Rd (kInt .i64) G Aa1_f8 ca1_f8 a1.f8) (r : T63) (h : grapevinelaw19_play k a0 a1 = some r) (hI : Inv B G ([(b0, .cells #[.slice Aa0_f0 a0.f0.length ca0_f0, .slice Aa0_f1 a0.f1.length ca0_f1, mpv Aa0_f2] 63 (0, 0))] :: Ca0_f0 :: Ca0_f1 :: Ca0_f2 :: Γ) W) :
    Calls Tryd.prog 18 [.pointer (some ⟨b0, 0, none⟩), .agg #[.int .i64 a1.f0, .int .i64 a1.f1, .int .i64 a1.f2, .int .i64 a1.f3, .int .i64 a1.f4, .int .i64 a1.f5, .int .i64 a1.f6, .string a1.f7, .slice Aa1_f8 a1.f8.length ca1_f8]].toArray W (Ret B (fun v G' Γ' => ∃ (ARp0_0 : Option Addr), ∃ (cRp0_0 : Nat), ∃ (CRp0_0 : Chunk), ∃ (ARp0_1 : Option Addr), ∃ (cRp0_1 : Nat), ∃ (CRp0_1 : Chunk), ∃ (ARp0_2 : Option Addr), ∃ (cRp0_2 : Nat), ∃ (CRp0_2 : Chunk), v = .tuple #[] ∧ Ow (kInt .i64) G' ARp0_0 cRp0_0 r.f0 CRp0_0 ∧ Ow (kInt .i64) G' ARp0_1 cRp0_1 r.f1 CRp0_1 ∧ MpF m61 G' ARp0_2 cRp0_2 r.f2 CRp0_2 ∧ G = G' ∧ [(b0, .cells #[.slice ARp0_0 r.f0.length cRp0_0, .slice ARp0_1 r.f1.length cRp0_1, mpv ARp0_2] 63 (0, 0))] :: CRp0_0 :: CRp0_1 :: CRp0_2 :: Γ = Γ')) := by
  refine calls_WP (Γ := [(b0, .cells #[.slice Aa0_f0 a0.f0.length ca0_f0, .slice Aa0_f1 a0.f1.length ca0_f1, mpv Aa0_f2] 63 (0, 0))] :: Ca0_f0 :: Ca0_f1 :: Ca0_f2 :: Γ) (G := G) (B := B) Tryd.func18 rfl (by kernel_rfl) ?_ hI
  clear hI
  unfold grapevinelaw19_play at h
  refine WP.seqR ?_
  refine WL.op (op := .box 36 (.tmp 1)) (ty := 0) (d := some 3) (g := none) (by kernel_rfl) (by kernel_rfl) (by kernel_rfl) (Does.new (o := .cells #[.int .i64 a1.f0, .int .i64 a1.f1, .int .i64 a1.f2, .int .i64 a1.f3, .int .i64 a1.f4, .int .i64 a1.f5, .int .i64 a1.f6, .string a1.f7, .slice Aa1_f8 a1.f8.length ca1_f8] 36 (0, 0)) (v := fun r => .pointer (some ⟨r, 0, none⟩)) (fun r => by kernel_rfl)) ?_
  rintro _ _ _ ⟨b1, rfl, rfl, rfl⟩
  refine WL.restQ 1 [0, 3] (L' := [(0, .pointer (some ⟨b0, 0, none⟩)), (3, .pointer (some ⟨b1, 0, none⟩))]) (by kernel_rfl) ?_
  refine WP.seqR ?_
  refine WL.pure 0 1 [0, 3, 4] (L' := [(0, .pointer (some ⟨b0, 0, none⟩)), (3, .pointer (some ⟨b1, 0, none⟩)), (4, .pointer (some ⟨b1, 0, none⟩))]) (by kernel_rfl) (by decide) ?_
  refine WL.tell (op := .load 3 (.tmp 4)) (ty := 3) (d := some 5) (g := none) (by kernel_rfl) (by kernel_rfl) (by kernel_rfl) (Tells.load_box (i := 0) (b := b1) (o := 0) (agg := false) (by rfl) ag3 (by kernel_rfl) (fun _ => rfl) (Nat.le_of_ble_eq_true rfl) (v := .int .i64 a1.f0) (by kernel_rfl)) ?_
  refine WL.restQ 2 [0, 3, 5] (L' := [(0, .pointer (some ⟨b0, 0, none⟩)), (3, .pointer (some ⟨b1, 0, none⟩)), (5, .int .i64 a1.f0)]) (by kernel_rfl) ?_
  refine WP.block ?_
  refine WP.seqP [0, 3, 5, 6] (L' := [(0, .pointer (some ⟨b0, 0, none⟩)), (3, .pointer (some ⟨b1, 0, none⟩)), (5, .int .i64 a1.f0), (6, .bool (a1.f0 == 0))]) (by kernel_rfl) ?_
  refine WP.cond (b := (a1.f0 == 0)) (by kernel_rfl) (fun hc => ?_) (fun hc => ?_)
  · replace hc := eq_of_beq hc
    rw [if_pos hc] at h
    have hc2 := hc
    clear hc
    refine WP.region ?_
    refine WL.pure 0 4 [3, 8, 11] (L' := [(3, .pointer (some ⟨b1, 0, none⟩)), (8, .pointer (some ⟨b0, 0, none⟩)), (11, .pointer (some ⟨b1, 3, none⟩))]) (by kernel_rfl) (by decide) ?_
    refine WL.tell (op := .load 3 (.tmp 11)) (ty := 3) (d := some 12) (g := none) (by kernel_rfl) (by kernel_rfl) (by kernel_rfl) (Tells.load_box (i := 0) (b := b1) (o := 3) (agg := false) (by rfl) ag3 (by kernel_rfl) (fun _ => rfl) (Nat.le_of_ble_eq_true rfl) (v := .int .i64 a1.f3) (by kernel_rfl)) ?_
    refine WL.pure 5 8 [8, 12, 15] (L' := [(8, .pointer (some ⟨b0, 0, none⟩)), (12, .int .i64 a1.f3), (15, .pointer (some ⟨b1, 4, none⟩))]) (by kernel_rfl) (by decide) ?_
    refine WL.tell (op := .load 3 (.tmp 15)) (ty := 3) (d := some 16) (g := none) (by kernel_rfl) (by kernel_rfl) (by kernel_rfl) (Tells.load_box (i := 0) (b := b1) (o := 4) (agg := false) (by rfl) ag3 (by kernel_rfl) (fun _ => rfl) (Nat.le_of_ble_eq_true rfl) (v := .int .i64 a1.f4) (by kernel_rfl)) ?_
    rw [Option.bind_eq_some_iff] at h
    obtain ⟨t3, ht4, h⟩ := h
    refine WL.op (op := .call { callee := (.value (.func 29)), args := #[(.tmp 12), (.tmp 16)], argTypes := #[3, 3] }) (ty := 34) (d := some 17) (g := none) (by kernel_rfl) (by kernel_rfl) (by kernel_rfl) (Does.call (f := 29) (args := [.int .i64 a1.f3, .int .i64 a1.f4]) (by kernel_rfl) (fun W hI => (grapevinelaw19_rec_calls a1.f3 a1.f4  t3 ht4 hI))) ?_
    rintro _ _ _ ⟨rfl, rfl, rfl⟩
    refine WL.front (i := 4) rfl ?_
    refine WL.front (i := 4) rfl ?_
    refine WL.front (i := 4) rfl ?_
    refine WL.front (i := 4) rfl ?_
    rw [Option.bind_eq_some_iff] at h
    obtain ⟨t7, ht8, h⟩ := h
    refine WL.op (op := .call { callee := (.value (.func 13)), args := #[(.tmp 8), (.tmp 17)], argTypes := #[23, 34] }) (ty := 37) (d := some 18) (g := none) (by kernel_rfl) (by kernel_rfl) (by kernel_rfl) (Does.call (f := 13) (args := [.pointer (some ⟨b0, 0, none⟩), .agg #[.int .i64 t3.f0, .int .i64 t3.f1, .int .i64 t3.f2, .int .i64 t3.f3, .string t3.f4]]) (by kernel_rfl) (fun W hI => (state_State_Accept_calls HT a0 t3 b0 Aa0_f0 ca0_f0 Ca0_f0 Ha0_f0 Aa0_f1 ca0_f1 Ca0_f1 Ha0_f1 Aa0_f2 ca0_f2 Ca0_f2 Ha0_f2 t7 ht8 hI))) ?_
    rintro _ _ _ ⟨AR9p0_0, cR9p0_0, CR9p0_0, AR9p0_1, cR9p0_1, CR9p0_1, AR9p0_2, cR9p0_2, CR9p0_2, rfl, HR9p0_0, HR9p0_1, HR9p0_2, rfl, rfl⟩
    refine WL.rest 11 [] (L' := []) (by kernel_rfl) ?_
    refine QP.blockN ?_
    obtain rfl := Option.some.inj h
    refine QP.dropAt 4 ?_
    exact QP.returnedN [] [] _ (by kernel_rfl) (by kernel_rfl) (by kernel_rfl) (fun W hI => ⟨_, _, _, rfl, ⟨AR9p0_0, cR9p0_0, CR9p0_0, AR9p0_1, cR9p0_1, CR9p0_1, AR9p0_2, cR9p0_2, CR9p0_2, rfl, HR9p0_0, HR9p0_1, HR9p0_2, rfl, rfl⟩, hI⟩)
  · replace hc := ne_of_beq_false hc
    rw [if_neg hc] at h
    have hc2 := hc
    clear hc
    refine WP.seqP [0, 3, 5, 19] (L' := [(0, .pointer (some ⟨b0, 0, none⟩)), (3, .pointer (some ⟨b1, 0, none⟩)), (5, .int .i64 a1.f0), (19, .bool (a1.f0 == 1))]) (by kernel_rfl) ?_
    refine WP.cond (b := (a1.f0 == 1)) (by kernel_rfl) (fun hc => ?_) (fun hc => ?_)
    · replace hc := eq_of_beq hc
      rw [if_pos hc] at h
      have hc11 := hc
      clear hc
      refine WP.region ?_
      refine WL.pure 0 2 [3, 21, 22] (L' := [(3, .pointer (some ⟨b1, 0, none⟩)), (21, .pointer (some ⟨b0, 0, none⟩)), (22, .pointer (some ⟨b1, 1, none⟩))]) (by kernel_rfl) (by decide) ?_
      refine WL.tell (op := .load 3 (.tmp 22)) (ty := 3) (d := some 23) (g := none) (by kernel_rfl) (by kernel_rfl) (by kernel_rfl) (Tells.load_box (i := 0) (b := b1) (o := 1) (agg := false) (by rfl) ag3 (by kernel_rfl) (fun _ => rfl) (Nat.le_of_ble_eq_true rfl) (v := .int .i64 a1.f1) (by kernel_rfl)) ?_
      refine WL.pure 3 4 [21, 23, 24] (L' := [(21, .pointer (some ⟨b0, 0, none⟩)), (23, .int .i64 a1.f1), (24, .pointer (some ⟨b1, 2, none⟩))]) (by kernel_rfl) (by decide) ?_
      refine WL.tell (op := .load 3 (.tmp 24)) (ty := 3) (d := some 25) (g := none) (by kernel_rfl) (by kernel_rfl) (by kernel_rfl) (Tells.load_box (i := 0) (b := b1) (o := 2) (agg := false) (by rfl) ag3 (by kernel_rfl) (fun _ => rfl) (Nat.le_of_ble_eq_true rfl) (v := .int .i64 a1.f2) (by kernel_rfl)) ?_
      refine WL.front (i := 4) rfl ?_
      refine WL.front (i := 4) rfl ?_
      refine WL.front (i := 4) rfl ?_
      refine WL.front (i := 4) rfl ?_
      rw [Option.bind_eq_some_iff] at h
      obtain ⟨t12, ht13, h⟩ := h
      refine WL.op (op := .call { callee := (.value (.func 14)), args := #[(.tmp 21), (.tmp 23), (.tmp 25)], argTypes := #[23, 3, 3] }) (ty := 37) (d := some 26) (g := none) (by kernel_rfl) (by kernel_rfl) (by kernel_rfl) (Does.call (f := 14) (args := [.pointer (some ⟨b0, 0, none⟩), .int .i64 a1.f1, .int .i64 a1.f2]) (by kernel_rfl) (fun W hI => (state_State_Retire_calls k a0 a1.f1 a1.f2 b0 Aa0_f0 ca0_f0 Ca0_f0 Ha0_f0 Aa0_f1 ca0_f1 Ca0_f1 Ha0_f1 Aa0_f2 ca0_f2 Ca0_f2 Ha0_f2 t12 ht13 hI))) ?_
      rintro _ _ _ ⟨AR14p0_0, cR14p0_0, CR14p0_0, AR14p0_1, cR14p0_1, CR14p0_1, AR14p0_2, cR14p0_2, CR14p0_2, rfl, HR14p0_0, HR14p0_1, HR14p0_2, rfl, rfl⟩
      refine WL.rest 6 [] (L' := []) (by kernel_rfl) ?_
      refine QP.blockN ?_
      obtain rfl := Option.some.inj h
      refine QP.dropAt 4 ?_
      exact QP.returnedN [] [] _ (by kernel_rfl) (by kernel_rfl) (by kernel_rfl) (fun W hI => ⟨_, _, _, rfl, ⟨AR14p0_0, cR14p0_0, CR14p0_0, AR14p0_1, cR14p0_1, CR14p0_1, AR14p0_2, cR14p0_2, CR14p0_2, rfl, HR14p0_0, HR14p0_1, HR14p0_2, rfl, rfl⟩, hI⟩)
    · replace hc := ne_of_beq_false hc
      rw [if_neg hc] at h
      have hc11 := hc
      clear hc
      refine WP.seqP [0, 3, 27] (L' := [(0, .pointer (some ⟨b0, 0, none⟩)), (3, .pointer (some ⟨b1, 0, none⟩)), (27, .bool (a1.f0 == 2))]) (by kernel_rfl) ?_
      refine WP.cond (b := (a1.f0 == 2)) (by kernel_rfl) (fun hc => ?_) (fun hc => ?_)
      · replace hc := eq_of_beq hc
        rw [if_pos hc] at h
        have hc16 := hc
        clear hc
        refine WP.region ?_
        refine WL.pure 0 2 [29, 30] (L' := [(29, .pointer (some ⟨b0, 0, none⟩)), (30, .pointer (some ⟨b1, 8, none⟩))]) (by kernel_rfl) (by decide) ?_
        refine WL.tell (op := .load 27 (.tmp 30)) (ty := 27) (d := some 31) (g := none) (by kernel_rfl) (by kernel_rfl) (by kernel_rfl) (Tells.load_box (i := 0) (b := b1) (o := 8) (agg := false) (by rfl) ag27 (by kernel_rfl) (fun _ => rfl) (Nat.le_of_ble_eq_true rfl) (v := .slice Aa1_f8 a1.f8.length ca1_f8) (by kernel_rfl)) ?_
        refine WL.front (i := 4) rfl ?_
        refine WL.front (i := 4) rfl ?_
        refine WL.front (i := 4) rfl ?_
        refine WL.front (i := 4) rfl ?_
        rw [Option.bind_eq_some_iff] at h
        obtain ⟨t17, ht18, h⟩ := h
        refine WL.op (op := .call { callee := (.value (.func 15)), args := #[(.tmp 29), (.tmp 31)], argTypes := #[23, 27] }) (ty := 3) (d := some 32) (g := none) (by kernel_rfl) (by kernel_rfl) (by kernel_rfl) (Does.call (f := 15) (args := [.pointer (some ⟨b0, 0, none⟩), .slice Aa1_f8 a1.f8.length ca1_f8]) (by kernel_rfl) (fun W hI => (state_State_Raise_calls k a0 a1.f8 b0 Aa0_f0 ca0_f0 Ca0_f0 Ha0_f0 Aa0_f1 ca0_f1 Ca0_f1 Ha0_f1 Aa0_f2 ca0_f2 Ca0_f2 Ha0_f2 Aa1_f8 ca1_f8 Ha1_f8 t17 ht18 hI))) ?_
        rintro _ _ _ ⟨AR19p0_0, cR19p0_0, CR19p0_0, AR19p0_1, cR19p0_1, CR19p0_1, AR19p0_2, cR19p0_2, CR19p0_2, rfl, HR19p0_0, HR19p0_1, HR19p0_2, rfl, rfl⟩
        refine WL.rest 4 [] (L' := []) (by kernel_rfl) ?_
        refine QP.blockN ?_
        obtain rfl := Option.some.inj h
        refine QP.dropAt 4 ?_
        exact QP.returnedN [] [] _ (by kernel_rfl) (by kernel_rfl) (by kernel_rfl) (fun W hI => ⟨_, _, _, rfl, ⟨AR19p0_0, cR19p0_0, CR19p0_0, AR19p0_1, cR19p0_1, CR19p0_1, AR19p0_2, cR19p0_2, CR19p0_2, rfl, HR19p0_0, HR19p0_1, HR19p0_2, rfl, rfl⟩, hI⟩)
      · replace hc := ne_of_beq_false hc
        rw [if_neg hc] at h
        have hc16 := hc
        clear hc
        refine WP.skip ?_
        refine QP.blockN ?_
        obtain rfl := Option.some.inj h
        refine QP.dropAt 0 ?_
        exact QP.returnedN [] [] _ (by kernel_rfl) (by kernel_rfl) (by kernel_rfl) (fun W hI => ⟨_, _, _, rfl, ⟨Aa0_f0, ca0_f0, Ca0_f0, Aa0_f1, ca0_f1, Ca0_f1, Aa0_f2, ca0_f2, Ca0_f2, rfl, Ha0_f0, Ha0_f1, Ha0_f2, rfl, rfl⟩, hI⟩)

/-! ### grapevine/grapevineref3.Many: function 37 -/
def grapevineref3_Many (a0 : Int) : Option Bool := ((if a0 ≥ 1 then some (decide (a0 ≤ 8)) else some false).bind fun s1 => some s1)
set_option maxHeartbeats 4000000 in
theorem grapevineref3_Many_calls {B : World} {G : GMap} {Γ : List Chunk} {W : World} (a0 : Int) (r : Bool) (h : grapevineref3_Many a0 = some r) (hI : Inv B G (Γ) W) :
    Calls Tryd.prog 37 [.int .i64 a0].toArray W (Ret B (fun v G' Γ' => v = .bool r ∧ G = G' ∧ Γ = Γ')) := by
  refine calls_WP (Γ := Γ) (G := G) (B := B) Tryd.func37 rfl (by kernel_rfl) ?_ hI
  clear hI
  unfold grapevineref3_Many at h
  refine WP.seqP [0] (L' := [(0, .int .i64 a0)]) (by kernel_rfl) ?_
  rw [Option.bind_eq_some_iff] at h
  obtain ⟨os1, h, hk2⟩ := h
  refine WP.cut (fun L' G' Γ' => ∃ s1 : Bool, s1 = os1 ∧ L' = [(2, .bool s1)] ∧ G = G' ∧ Γ = Γ') ?_ ?_
  · clear hk2
    refine WP.region ?_
    refine WL.pure 0 3 [0, 5] (L' := [(0, .int .i64 a0), (5, .bool (decide (a0 ≥ 1)))]) (by kernel_rfl) (by decide) ?_
    refine WL.split 5 (b := decide (a0 ≥ 1)) (by kernel_rfl) (fun hc => ?_) (fun hc => ?_)
    · replace hc := of_decide_eq_true hc
      rw [if_pos hc] at h
      have hc3 := hc
      clear hc
      refine WL.rest 3 [2] (L' := [(2, .bool (decide (a0 ≤ 8)))]) (by kernel_rfl) ?_
      refine QP.pick [2] ?_
      exact QP.meet ⟨_, Option.some.inj h, rfl, rfl, rfl⟩
    · replace hc := of_decide_eq_false hc
      rw [if_neg hc] at h
      have hc3 := hc
      clear hc
      refine WL.rest 3 [2] (L' := [(2, .bool false)]) (by kernel_rfl) ?_
      refine QP.pick [2] ?_
      exact QP.meet ⟨_, Option.some.inj h, rfl, rfl, rfl⟩
  · rintro _ _ _ ⟨s1, rfl, rfl, rfl, rfl⟩
    clear h
    replace h := hk2
    refine WP.ret ?_
    obtain rfl := Option.some.inj h
    exact QP.returned [2] [.bool s1] _ (by kernel_rfl) (by kernel_rfl) (by kernel_rfl) (fun W hI => ⟨_, _, _, rfl, ⟨rfl, rfl, rfl⟩, hI⟩)

/-! ### grapevine/grapevineref3.May: function 20 -/
def grapevineref3_May_l0 (l0 : List Int) (a1 : Int) : Nat → Int → Option (Sum Bool Unit)
  | 0, _ => none
  | k + 1, y11 => (if y11 < a1 then ((if 0 ≤ y11 ∧ y11 < (l0.length : Int) then (if (l0.getD y11.toNat 0) < 0 then some true else (if 0 ≤ y11 ∧ y11 < (l0.length : Int) then some (decide ((l0.getD y11.toNat 0) > 1023)) else none)) else none).bind fun s15 => (if s15 = true then some (Sum.inl false) else grapevineref3_May_l0 l0 a1 k (IntKind.i64.wrap (y11 + 1)))) else some (Sum.inr ()))
def grapevineref3_May (k : Nat) (l0 : List Int) (a1 : Int) : Option Bool := (((grapevineref3_Many a1).bind fun t3 => (if (!t3) = true then some true else some ((l0.length : Int) != a1))).bind fun s1 => (if s1 = true then some false else ((grapevineref3_May_l0 l0 a1 k 0).bind fun os9 => match os9 with | Sum.inl r => some r | Sum.inr s9 => some true)))
set_option maxHeartbeats 4000000 in
theorem grapevineref3_May_calls {B : World} {G : GMap} {Γ : List Chunk} {W : World} (k : Nat) (l0 : List Int) (a1 : Int) (Al0 : Option Addr) (cl0 : Nat) (Hl0 : Rd (kInt .i64) G Al0 cl0 l0) (r : Bool) (h : grapevineref3_May k l0 a1 = some r) (hI : Inv B G (Γ) W) :
    Calls Tryd.prog 20 [.slice Al0 l0.length cl0, .int .i64 a1].toArray W (Ret B (fun v G' Γ' => v = .bool r ∧ G = G' ∧ Γ = Γ')) := by
  refine calls_WP (Γ := Γ) (G := G) (B := B) Tryd.func20 rfl (by kernel_rfl) ?_ hI
  clear hI
  unfold grapevineref3_May at h
  refine WP.seqP [0, 1] (L' := [(0, .slice Al0 l0.length cl0), (1, .int .i64 a1)]) (by kernel_rfl) ?_
  refine WP.seq ?_
  rw [Option.bind_eq_some_iff] at h
  obtain ⟨os1, h, hk2⟩ := h
  refine WP.cut (fun L' G' Γ' => ∃ s1 : Bool, s1 = os1 ∧ L' = [(0, .slice Al0 l0.length cl0), (1, .int .i64 a1), (14, .bool s1)] ∧ G = G' ∧ Γ = Γ') ?_ ?_
  · clear hk2
    refine WP.region ?_
    refine WL.pure 0 1 [0, 1, 6] (L' := [(0, .slice Al0 l0.length cl0), (1, .int .i64 a1), (6, .int .i64 a1)]) (by kernel_rfl) (by decide) ?_
    rw [Option.bind_eq_some_iff] at h
    obtain ⟨t3, ht4, h⟩ := h
    refine WL.op (op := .call { callee := (.value (.func 37)), args := #[(.tmp 6)], argTypes := #[3] }) (ty := 4) (d := some 7) (g := none) (by kernel_rfl) (by kernel_rfl) (by kernel_rfl) (Does.call (f := 37) (args := [.int .i64 a1]) (by kernel_rfl) (fun W hI => (grapevineref3_Many_calls a1  t3 ht4 hI))) ?_
    rintro _ _ _ ⟨rfl, rfl, rfl⟩
    refine WL.pure 2 4 [0, 1, 9] (L' := [(0, .slice Al0 l0.length cl0), (1, .int .i64 a1), (9, .bool (!t3))]) (by kernel_rfl) (by decide) ?_
    refine WL.split 9 (b := (!t3)) (by kernel_rfl) (fun hc => ?_) (fun hc => ?_)
    · replace hc := hc
      rw [if_pos hc] at h
      have hc7 := hc
      clear hc
      refine WL.rest 4 [0, 1, 14] (L' := [(0, .slice Al0 l0.length cl0), (1, .int .i64 a1), (14, .bool true)]) (by kernel_rfl) ?_
      refine QP.pick [0, 1, 14] ?_
      exact QP.meet ⟨_, Option.some.inj h, rfl, rfl, rfl⟩
    · replace hc := (Bool.eq_false_iff.1 hc)
      rw [if_neg hc] at h
      have hc7 := hc
      clear hc
      refine WL.rest 4 [0, 1, 14] (L' := [(0, .slice Al0 l0.length cl0), (1, .int .i64 a1), (14, .bool ((l0.length : Int) != a1))]) (by kernel_rfl) ?_
      refine QP.pick [0, 1, 14] ?_
      exact QP.meet ⟨_, Option.some.inj h, rfl, rfl, rfl⟩
  · rintro _ _ _ ⟨s1, rfl, rfl, rfl, rfl⟩
    clear h
    replace h := hk2
    refine WP.cond (b := s1) (by kernel_rfl) (fun hc => ?_) (fun hc => ?_)
    · replace hc := hc
      rw [if_pos hc] at h
      have hc8 := hc
      clear hc
      refine WP.seqP [4] (L' := [(4, .bool false)]) (by kernel_rfl) ?_
      refine WP.ret ?_
      refine QP.thenR ?_
      obtain rfl := Option.some.inj h
      exact QP.returned [4] [.bool false] _ (by kernel_rfl) (by kernel_rfl) (by kernel_rfl) (fun W hI => ⟨_, _, _, rfl, ⟨rfl, rfl, rfl⟩, hI⟩)
    · replace hc := (Bool.eq_false_iff.1 hc)
      rw [if_neg hc] at h
      have hc8 := hc
      clear hc
      refine WP.skip ?_
      refine QP.next ?_
      refine WP.pick [0, 1] ?_
      refine WP.seq ?_
      refine WP.seqP [0, 1, 5] (L' := [(0, .slice Al0 l0.length cl0), (1, .int .i64 a1), (5, .int .i64 0)]) (by kernel_rfl) ?_
      rw [Option.bind_eq_some_iff] at h
      obtain ⟨os9, h, hk10⟩ := h
      refine WP.cutQ (fun L' G' Γ' => ∃ s9 : Unit, Sum.inr s9 = os9 ∧ L' = [] ∧ G = G' ∧ Γ = Γ') ?_ ?_
      · skip
        refine WP.block ?_
        refine WP.pick [0, 1, 5] ?_
        refine WP.loopF (fun kn12 L' G' Γ' => ∃ (y11 : Int), grapevineref3_May_l0 l0 a1 kn12 y11 = some os9 ∧ L' = [(0, .slice Al0 l0.length cl0), (1, .int .i64 a1), (5, .int .i64 y11)] ∧ G = G' ∧ Γ = Γ') ?_ k ⟨0, h, rfl, rfl, rfl⟩
        clear h
        rintro kn13 _ _ _ ⟨y11, h, rfl, rfl, rfl⟩
        cases kn13 with
        | zero => exact absurd h (by simp [grapevineref3_May_l0])
        | succ kn13 =>
          simp only [grapevineref3_May_l0] at h
          refine WP.seq ?_
          refine WP.seqP [0, 1, 5, 17] (L' := [(0, .slice Al0 l0.length cl0), (1, .int .i64 a1), (5, .int .i64 y11), (17, .bool (decide (y11 < a1)))]) (by kernel_rfl) ?_
          refine WP.cond (b := decide (y11 < a1)) (by kernel_rfl) (fun hc => ?_) (fun hc => ?_)
          · replace hc := of_decide_eq_true hc
            rw [if_pos hc] at h
            have hc14 := hc
            clear hc
            refine WP.skip ?_
            refine QP.next ?_
            refine WP.pick [0, 1, 5] ?_
            refine WP.seq ?_
            refine WP.block ?_
            rw [Option.bind_eq_some_iff] at h
            obtain ⟨os15, h, hk16⟩ := h
            refine WP.cut (fun L' G' Γ' => ∃ s15 : Bool, s15 = os15 ∧ L' = [(0, .slice Al0 l0.length cl0), (1, .int .i64 a1), (5, .int .i64 y11), (31, .bool s15)] ∧ G = G' ∧ Γ = Γ') ?_ ?_
            · clear hk16
              refine WP.region ?_
              refine WL.pure 0 2 [0, 1, 5, 20, 21] (L' := [(0, .slice Al0 l0.length cl0), (1, .int .i64 a1), (5, .int .i64 y11), (20, .slice Al0 l0.length cl0), (21, .int .i64 y11)]) (by kernel_rfl) (by decide) ?_
              by_cases hb17 : 0 ≤ y11 ∧ y11 < (l0.length : Int)
              case neg => rw [if_neg hb17] at h; cases h
              rw [if_pos hb17] at h
              refine WL.tell (op := .indexAddr 27 (.tmp 20) (.tmp 21)) (ty := 0) (d := some 22) (g := none) (by kernel_rfl) (by kernel_rfl) (by kernel_rfl) (Tells.indexAddr (A := Al0) (n := l0.length) (c := cl0) (k := .i64) (j := y11) (by kernel_rfl) (by kernel_rfl) (Hl0.isSome hb17.1 hb17.2) hb17.1 hb17.2 sl27) ?_
              refine WL.tellE (op := .load 3 (.tmp 22)) (ty := 3) (d := some 23) (g := none) (by kernel_rfl) (by kernel_rfl) (by kernel_rfl) (Hl0.load (agg := false) hb17.1 hb17.2 0 ag3 (fun _ => rfl) (by kernel_rfl)) ?_
              rintro _ rfl
              refine WL.pure 4 6 [0, 1, 5, 25] (L' := [(0, .slice Al0 l0.length cl0), (1, .int .i64 a1), (5, .int .i64 y11), (25, .bool (decide ((l0.getD y11.toNat 0) < 0)))]) (by kernel_rfl) (by decide) ?_
              refine WL.split 25 (b := decide ((l0.getD y11.toNat 0) < 0)) (by kernel_rfl) (fun hc => ?_) (fun hc => ?_)
              · replace hc := of_decide_eq_true hc
                rw [if_pos hc] at h
                have hc18 := hc
                clear hc
                refine WL.rest 6 [0, 1, 5, 31] (L' := [(0, .slice Al0 l0.length cl0), (1, .int .i64 a1), (5, .int .i64 y11), (31, .bool true)]) (by kernel_rfl) ?_
                refine QP.pick [0, 1, 5, 31] ?_
                exact QP.meet ⟨_, Option.some.inj h, rfl, rfl, rfl⟩
              · replace hc := of_decide_eq_false hc
                rw [if_neg hc] at h
                have hc18 := hc
                clear hc
                refine WL.pure 6 8 [0, 1, 5, 25, 26, 27] (L' := [(0, .slice Al0 l0.length cl0), (1, .int .i64 a1), (5, .int .i64 y11), (25, .bool false), (26, .slice Al0 l0.length cl0), (27, .int .i64 y11)]) (by kernel_rfl) (by decide) ?_
                by_cases hb19 : 0 ≤ y11 ∧ y11 < (l0.length : Int)
                case neg => rw [if_neg hb19] at h; cases h
                rw [if_pos hb19] at h
                refine WL.tell (op := .indexAddr 27 (.tmp 26) (.tmp 27)) (ty := 0) (d := some 28) (g := some (5, false)) (by kernel_rfl) (by kernel_rfl) (by kernel_rfl) (Tells.indexAddr (A := Al0) (n := l0.length) (c := cl0) (k := .i64) (j := y11) (by kernel_rfl) (by kernel_rfl) (Hl0.isSome hb19.1 hb19.2) hb19.1 hb19.2 sl27) ?_
                refine WL.tellE (op := .load 3 (.tmp 28)) (ty := 3) (d := some 29) (g := some (5, false)) (by kernel_rfl) (by kernel_rfl) (by kernel_rfl) (Hl0.load (agg := false) hb19.1 hb19.2 0 ag3 (fun _ => rfl) (by kernel_rfl)) ?_
                rintro _ rfl
                refine WL.rest 10 [0, 1, 5, 31] (L' := [(0, .slice Al0 l0.length cl0), (1, .int .i64 a1), (5, .int .i64 y11), (31, .bool (decide ((l0.getD y11.toNat 0) > 1023)))]) (by kernel_rfl) ?_
                refine QP.pick [0, 1, 5, 31] ?_
                exact QP.meet ⟨_, Option.some.inj h, rfl, rfl, rfl⟩
            · rintro _ _ _ ⟨s15, rfl, rfl, rfl, rfl⟩
              clear h
              replace h := hk16
              refine WP.cond (b := s15) (by kernel_rfl) (fun hc => ?_) (fun hc => ?_)
              · replace hc := hc
                rw [if_pos hc] at h
                have hc20 := hc
                clear hc
                refine WP.seqP [4] (L' := [(4, .bool false)]) (by kernel_rfl) ?_
                refine WP.ret ?_
                refine QP.blockR ?_
                refine QP.thenR ?_
                refine QP.thenR ?_
                refine QP.blockR ?_
                refine QP.thenR ?_
                refine QP.thenR ?_
                obtain rfl := Option.some.inj h
                obtain rfl := Option.some.inj (show some _ = some _ from hk10)
                exact QP.returned [4] [.bool false] _ (by kernel_rfl) (by kernel_rfl) (by kernel_rfl) (fun W hI => ⟨_, _, _, rfl, ⟨rfl, rfl, rfl⟩, hI⟩)
              · replace hc := (Bool.eq_false_iff.1 hc)
                rw [if_neg hc] at h
                have hc20 := hc
                clear hc
                refine WP.skip ?_
                refine QP.blockN ?_
                refine QP.next ?_
                refine WP.pick [0, 1, 5] ?_
                refine WP.regionP [0, 1, 5] (L' := [(0, .slice Al0 l0.length cl0), (1, .int .i64 a1), (5, .int .i64 (IntKind.i64.wrap (y11 + 1)))]) (by kernel_rfl) ?_
                refine QP.pick [0, 1, 5] ?_
                exact QP.meet ⟨kn13, Nat.lt_succ_self _, (IntKind.i64.wrap (y11 + 1)), h, rfl, rfl, rfl⟩
          · replace hc := of_decide_eq_false hc
            rw [if_neg hc] at h
            have hc14 := hc
            clear hc
            refine WP.exit ?_
            refine QP.thenE ?_
            refine QP.thenE ?_
            refine QP.blockE ?_
            refine QP.pick [] ?_
            exact QP.meet ⟨_, Option.some.inj h, rfl, rfl, rfl⟩
      · rintro _ _ _ ⟨s9, rfl, rfl, rfl, rfl⟩
        clear h
        replace h := hk10
        dsimp only at h
        refine QP.next ?_
        refine WP.pick [] ?_
        refine WP.seqP [4] (L' := [(4, .bool true)]) (by kernel_rfl) ?_
        refine WP.ret ?_
        obtain rfl := Option.some.inj h
        exact QP.returned [4] [.bool true] _ (by kernel_rfl) (by kernel_rfl) (by kernel_rfl) (fun W hI => ⟨_, _, _, rfl, ⟨rfl, rfl, rfl⟩, hI⟩)

/-! ### grapevine/grapevinelaw0.SameRecords: function 22 -/
def grapevinelaw0_SameRecords_l0 (l0 : List T34) (l1 : List T34) : Nat → Int → Option (Sum Bool Unit)
  | 0, _ => none
  | k + 1, y4 => (if y4 < (l0.length : Int) then (if 0 ≤ y4 ∧ y4 < (l0.length : Int) then (if 0 ≤ y4 ∧ y4 < (l1.length : Int) then (if ¬ (l0.getD y4.toNat z34) = (l1.getD y4.toNat z34) then some (Sum.inl false) else grapevinelaw0_SameRecords_l0 l0 l1 k (IntKind.i64.wrap (y4 + 1))) else none) else none) else some (Sum.inr ()))
def grapevinelaw0_SameRecords (k : Nat) (l0 : List T34) (l1 : List T34) : Option Bool := (if ¬ (l0.length : Int) = (l1.length : Int) then some false else ((grapevinelaw0_SameRecords_l0 l0 l1 k 0).bind fun os2 => match os2 with | Sum.inl r => some r | Sum.inr s2 => some true))
set_option maxHeartbeats 4000000 in
theorem grapevinelaw0_SameRecords_calls {B : World} {G : GMap} {Γ : List Chunk} {W : World} (k : Nat) (l0 : List T34) (l1 : List T34) (Al0 : Option Addr) (cl0 : Nat) (Hl0 : Rd k34 G Al0 cl0 l0) (Al1 : Option Addr) (cl1 : Nat) (Hl1 : Rd k34 G Al1 cl1 l1) (r : Bool) (h : grapevinelaw0_SameRecords k l0 l1 = some r) (hI : Inv B G (Γ) W) :
    Calls Tryd.prog 22 [.slice Al0 l0.length cl0, .slice Al1 l1.length cl1].toArray W (Ret B (fun v G' Γ' => v = .bool r ∧ G = G' ∧ Γ = Γ')) := by
  refine calls_WP (Γ := Γ) (G := G) (B := B) Tryd.func22 rfl (by kernel_rfl) ?_ hI
  clear hI
  unfold grapevinelaw0_SameRecords at h
  refine WP.seqP [0, 1] (L' := [(0, .slice Al0 l0.length cl0), (1, .slice Al1 l1.length cl1)]) (by kernel_rfl) ?_
  refine WP.seq ?_
  refine WP.seqP [0, 1, 10] (L' := [(0, .slice Al0 l0.length cl0), (1, .slice Al1 l1.length cl1), (10, .bool ((l0.length : Int) != (l1.length : Int)))]) (by kernel_rfl) ?_
  refine WP.cond (b := ((l0.length : Int) != (l1.length : Int))) (by kernel_rfl) (fun hc => ?_) (fun hc => ?_)
  · replace hc := (bne_iff_ne.1 hc)
    rw [if_pos hc] at h
    have hc1 := hc
    clear hc
    refine WP.seqP [4] (L' := [(4, .bool false)]) (by kernel_rfl) ?_
    refine WP.ret ?_
    refine QP.thenR ?_
    obtain rfl := Option.some.inj h
    exact QP.returned [4] [.bool false] _ (by kernel_rfl) (by kernel_rfl) (by kernel_rfl) (fun W hI => ⟨_, _, _, rfl, ⟨rfl, rfl, rfl⟩, hI⟩)
  · replace hc := (not_not_intro (bne_eq_false_iff_eq.1 hc))
    rw [if_neg hc] at h
    have hc1 := hc
    clear hc
    refine WP.skip ?_
    refine QP.next ?_
    refine WP.pick [0, 1] ?_
    refine WP.seq ?_
    refine WP.seqP [0, 1, 5] (L' := [(0, .slice Al0 l0.length cl0), (1, .slice Al1 l1.length cl1), (5, .int .i64 0)]) (by kernel_rfl) ?_
    rw [Option.bind_eq_some_iff] at h
    obtain ⟨os2, h, hk3⟩ := h
    refine WP.cutQ (fun L' G' Γ' => ∃ s2 : Unit, Sum.inr s2 = os2 ∧ L' = [] ∧ G = G' ∧ Γ = Γ') ?_ ?_
    · skip
      refine WP.block ?_
      refine WP.pick [0, 1, 5] ?_
      refine WP.loopF (fun kn5 L' G' Γ' => ∃ (y4 : Int), grapevinelaw0_SameRecords_l0 l0 l1 kn5 y4 = some os2 ∧ L' = [(0, .slice Al0 l0.length cl0), (1, .slice Al1 l1.length cl1), (5, .int .i64 y4)] ∧ G = G' ∧ Γ = Γ') ?_ k ⟨0, h, rfl, rfl, rfl⟩
      clear h
      rintro kn6 _ _ _ ⟨y4, h, rfl, rfl, rfl⟩
      cases kn6 with
      | zero => exact absurd h (by simp [grapevinelaw0_SameRecords_l0])
      | succ kn6 =>
        simp only [grapevinelaw0_SameRecords_l0] at h
        refine WP.seq ?_
        refine WP.seqP [0, 1, 5, 14] (L' := [(0, .slice Al0 l0.length cl0), (1, .slice Al1 l1.length cl1), (5, .int .i64 y4), (14, .bool (decide (y4 < (l0.length : Int))))]) (by kernel_rfl) ?_
        refine WP.cond (b := decide (y4 < (l0.length : Int))) (by kernel_rfl) (fun hc => ?_) (fun hc => ?_)
        · replace hc := of_decide_eq_true hc
          rw [if_pos hc] at h
          have hc7 := hc
          clear hc
          refine WP.skip ?_
          refine QP.next ?_
          refine WP.pick [0, 1, 5] ?_
          refine WP.seq ?_
          refine WP.block ?_
          refine WP.seq ?_
          refine WP.any (N := 9) (S := [⟨some 17, [0], []⟩, ⟨some 18, [5], []⟩, ⟨some 19, [17, 18], [0, 1]⟩, ⟨some 20, [19], [2]⟩, ⟨some 21, [1], []⟩, ⟨some 22, [5], []⟩, ⟨some 23, [21, 22], [4, 5]⟩, ⟨some 24, [23], [6]⟩, ⟨some 25, [20, 24], [3, 7]⟩]) (kw := 9) (G0 := G) (Γ0 := Γ) mo (by kernel_rfl) (fun hS => ?_)
          refine WA.pure [0, 1, 4, 5] [0, 1, 5, 17, 18, 21, 22] (m := 5) (b' := 51) (L' := [(0, .slice Al0 l0.length cl0), (1, .slice Al1 l1.length cl1), (5, .int .i64 y4), (17, .slice Al0 l0.length cl0), (18, .int .i64 y4), (21, .slice Al1 l1.length cl1), (22, .int .i64 y4)]) (by kernel_rfl) (NoPanic.then (NoPanic.block (NoPanic.then (NoPanic.then (NoPanic.block (NoPanic.then (NoPanic.then (NoPanic.body)))))))) Under.refl hS (by kernel_rfl) ?_
          by_cases hb8 : 0 ≤ y4 ∧ y4 < (l0.length : Int)
          case neg => rw [if_neg hb8] at h; cases h
          rw [if_pos hb8] at h
          refine WA.tellD [] (i := 2) (m := 4) (b' := 55) (by kernel_rfl) (NoPanic.then (NoPanic.block (NoPanic.then (NoPanic.then (NoPanic.block (NoPanic.then (NoPanic.then (NoPanic.body)))))))) Under.refl hS (by kernel_rfl) (op := .indexAddr 45 (.tmp 17) (.tmp 18)) (ty := 0) (d := some 19) (g := none) (by kernel_rfl) (by kernel_rfl) (by kernel_rfl) (Tells.indexAddr (A := Al0) (n := l0.length) (c := cl0) (k := .i64) (j := y4) (by kernel_rfl) (by kernel_rfl) (Hl0.isSome hb8.1 hb8.2) hb8.1 hb8.2 sl45) ?_
          refine WA.tellDE [] (i := 3) (m := 3) (b' := 63) (by kernel_rfl) (NoPanic.then (NoPanic.block (NoPanic.then (NoPanic.then (NoPanic.block (NoPanic.then (NoPanic.then (NoPanic.body)))))))) Under.refl hS (by kernel_rfl) (op := .load 34 (.tmp 19)) (ty := 34) (d := some 20) (g := none) (by kernel_rfl) (by kernel_rfl) (by kernel_rfl) (Hl0.load (agg := true) hb8.1 hb8.2 z34 ag34 (fun h => by cases h) (by kernel_rfl)) ?_
          rintro _ rfl
          by_cases hb9 : 0 ≤ y4 ∧ y4 < (l1.length : Int)
          case neg => rw [if_neg hb9] at h; cases h
          rw [if_pos hb9] at h
          refine WA.tellD [] (i := 6) (m := 2) (b' := 127) (by kernel_rfl) (NoPanic.then (NoPanic.block (NoPanic.then (NoPanic.then (NoPanic.block (NoPanic.then (NoPanic.then (NoPanic.body)))))))) Under.refl hS (by kernel_rfl) (op := .indexAddr 45 (.tmp 21) (.tmp 22)) (ty := 0) (d := some 23) (g := none) (by kernel_rfl) (by kernel_rfl) (by kernel_rfl) (Tells.indexAddr (A := Al1) (n := l1.length) (c := cl1) (k := .i64) (j := y4) (by kernel_rfl) (by kernel_rfl) (Hl1.isSome hb9.1 hb9.2) hb9.1 hb9.2 sl45) ?_
          refine WA.tellDE [] (i := 7) (m := 1) (b' := 255) (by kernel_rfl) (NoPanic.then (NoPanic.block (NoPanic.then (NoPanic.then (NoPanic.block (NoPanic.then (NoPanic.then (NoPanic.body)))))))) Under.refl hS (by kernel_rfl) (op := .load 34 (.tmp 23)) (ty := 34) (d := some 24) (g := none) (by kernel_rfl) (by kernel_rfl) (by kernel_rfl) (Hl1.load (agg := true) hb9.1 hb9.2 z34 ag34 (fun h => by cases h) (by kernel_rfl)) ?_
          rintro _ rfl
          refine WA.tellD [] (i := 8) (m := 0) (b' := 511) (by kernel_rfl) (NoPanic.then (NoPanic.block (NoPanic.then (NoPanic.then (NoPanic.block (NoPanic.then (NoPanic.then (NoPanic.body)))))))) Under.refl hS (by kernel_rfl) (op := .binOp .neq 34 (.tmp 20) (.tmp 24) 34) (ty := 4) (d := some 25) (g := none) (by kernel_rfl) (by kernel_rfl) (by kernel_rfl) (Tells.neAgg (xs := #[.int .i64 ((l0.getD y4.toNat z34).f0), .int .i64 ((l0.getD y4.toNat z34).f1), .int .i64 ((l0.getD y4.toNat z34).f2), .int .i64 ((l0.getD y4.toNat z34).f3), .string ((l0.getD y4.toNat z34).f4)]) (ys := #[.int .i64 ((l1.getD y4.toNat z34).f0), .int .i64 ((l1.getD y4.toNat z34).f1), .int .i64 ((l1.getD y4.toNat z34).f2), .int .i64 ((l1.getD y4.toNat z34).f3), .string ((l1.getD y4.toNat z34).f4)]) (ls := [.int ((l0.getD y4.toNat z34).f0) ((l1.getD y4.toNat z34).f0), .int ((l0.getD y4.toNat z34).f1) ((l1.getD y4.toNat z34).f1), .int ((l0.getD y4.toNat z34).f2) ((l1.getD y4.toNat z34).f2), .int ((l0.getD y4.toNat z34).f3) ((l1.getD y4.toNat z34).f3), .str ((l0.getD y4.toNat z34).f4) ((l1.getD y4.toNat z34).f4)]) (by kernel_rfl) (by kernel_rfl) (by kernel_rfl) eg34) ?_
          refine WA.reput 25 (v := .bool (!([.int ((l0.getD y4.toNat z34).f0) ((l1.getD y4.toNat z34).f0), .int ((l0.getD y4.toNat z34).f1) ((l1.getD y4.toNat z34).f1), .int ((l0.getD y4.toNat z34).f2) ((l1.getD y4.toNat z34).f2), .int ((l0.getD y4.toNat z34).f3) ((l1.getD y4.toNat z34).f3), .str ((l0.getD y4.toNat z34).f4) ((l1.getD y4.toNat z34).f4)].all Lf.ok))) (v' := .bool (!decide ((l0.getD y4.toNat z34) = (l1.getD y4.toNat z34)))) (by kernel_rfl) (by exact (congrArg (fun z => Value.bool (!z)) (eqT34 (l0.getD y4.toNat z34) (l1.getD y4.toNat z34)))) ?_
          refine WA.done hS (by kernel_rfl) ?_
          refine QP.pick [0, 1, 5, 25] ?_
          refine QP.next ?_
          refine WP.cond (b := (!decide ((l0.getD y4.toNat z34) = (l1.getD y4.toNat z34)))) (by kernel_rfl) (fun hc => ?_) (fun hc => ?_)
          · replace hc := (nd_true hc)
            rw [if_pos hc] at h
            have hc10 := hc
            clear hc
            refine WP.seqP [4] (L' := [(4, .bool false)]) (by kernel_rfl) ?_
            refine WP.ret ?_
            refine QP.blockR ?_
            refine QP.thenR ?_
            refine QP.thenR ?_
            refine QP.blockR ?_
            refine QP.thenR ?_
            refine QP.thenR ?_
            obtain rfl := Option.some.inj h
            obtain rfl := Option.some.inj (show some _ = some _ from hk3)
            exact QP.returned [4] [.bool false] _ (by kernel_rfl) (by kernel_rfl) (by kernel_rfl) (fun W hI => ⟨_, _, _, rfl, ⟨rfl, rfl, rfl⟩, hI⟩)
          · replace hc := (nd_false hc)
            rw [if_neg hc] at h
            have hc10 := hc
            clear hc
            refine WP.skip ?_
            refine QP.blockN ?_
            refine QP.next ?_
            refine WP.pick [0, 1, 5] ?_
            refine WP.regionP [0, 1, 5] (L' := [(0, .slice Al0 l0.length cl0), (1, .slice Al1 l1.length cl1), (5, .int .i64 (IntKind.i64.wrap (y4 + 1)))]) (by kernel_rfl) ?_
            refine QP.pick [0, 1, 5] ?_
            exact QP.meet ⟨kn6, Nat.lt_succ_self _, (IntKind.i64.wrap (y4 + 1)), h, rfl, rfl, rfl⟩
        · replace hc := of_decide_eq_false hc
          rw [if_neg hc] at h
          have hc7 := hc
          clear hc
          refine WP.exit ?_
          refine QP.thenE ?_
          refine QP.thenE ?_
          refine QP.blockE ?_
          refine QP.pick [] ?_
          exact QP.meet ⟨_, Option.some.inj h, rfl, rfl, rfl⟩
    · rintro _ _ _ ⟨s2, rfl, rfl, rfl, rfl⟩
      clear h
      replace h := hk3
      dsimp only at h
      refine QP.next ?_
      refine WP.pick [] ?_
      refine WP.seqP [4] (L' := [(4, .bool true)]) (by kernel_rfl) ?_
      refine WP.ret ?_
      obtain rfl := Option.some.inj h
      exact QP.returned [4] [.bool true] _ (by kernel_rfl) (by kernel_rfl) (by kernel_rfl) (fun W hI => ⟨_, _, _, rfl, ⟨rfl, rfl, rfl⟩, hI⟩)

/-! ### grapevine/grapevineref3.fold: function 38 -/
def grapevineref3_fold_l1 (l0 : List (List Int)) (a1 : Bool) (y11 : Int) : Nat → Int → (List Int) → Option (List Int)
  | 0, _, _ => none
  | k + 1, y21, y22 => (if y21 < (y22.length : Int) then (if a1 = true then (if 0 ≤ y21 ∧ y21 < (y22.length : Int) then (if 0 ≤ y11 ∧ y11 < (l0.length : Int) then (if 0 ≤ y21 ∧ y21 < ((l0.getD y11.toNat []).length : Int) then (if 0 ≤ y21 ∧ y21 < (y22.length : Int) then grapevineref3_fold_l1 l0 a1 y11 k (IntKind.i64.wrap (y21 + 1)) (y22.set y21.toNat (if ((l0.getD y11.toNat []).getD y21.toNat 0) > (y22.getD y21.toNat 0) then ((l0.getD y11.toNat []).getD y21.toNat 0) else (y22.getD y21.toNat 0))) else none) else none) else none) else none) else (if 0 ≤ y21 ∧ y21 < (y22.length : Int) then (if 0 ≤ y11 ∧ y11 < (l0.length : Int) then (if 0 ≤ y21 ∧ y21 < ((l0.getD y11.toNat []).length : Int) then (if 0 ≤ y21 ∧ y21 < (y22.length : Int) then grapevineref3_fold_l1 l0 a1 y11 k (IntKind.i64.wrap (y21 + 1)) (y22.set y21.toNat (if ((l0.getD y11.toNat []).getD y21.toNat 0) < (y22.getD y21.toNat 0) then ((l0.getD y11.toNat []).getD y21.toNat 0) else (y22.getD y21.toNat 0))) else none) else none) else none) else none)) else some y22)
def grapevineref3_fold_l0 (l0 : List (List Int)) (a1 : Bool) : Nat → Int → (List Int) → Option (Sum (List Int) (List Int))
  | 0, _, _ => none
  | k + 1, y11, y12 => (if y11 < (l0.length : Int) then (if 0 ≤ y11 ∧ y11 < (l0.length : Int) then (if ¬ ((l0.getD y11.toNat []).length : Int) = (y12.length : Int) then some (Sum.inl ([] : List Int)) else ((grapevineref3_fold_l1 l0 a1 y11 k 0 y12).bind fun s19 => grapevineref3_fold_l0 l0 a1 k (IntKind.i64.wrap (y11 + 1)) s19)) else none) else some (Sum.inr y12))
def grapevineref3_fold (k : Nat) (l0 : List (List Int)) (a1 : Bool) : Option (List Int) := (if (l0.length : Int) = 0 then some ([] : List Int) else (if 0 ≤ (0 : Int) ∧ (0 : Int) < (l0.length : Int) then (if ([] : List Int).length + (l0.getD (0 : Int).toNat []).length ≤ 1073741824 then ((some (([] : List Int) ++ (l0.getD (0 : Int).toNat []))).bind fun v6 => ((grapevineref3_fold_l0 l0 a1 k 1 v6).bind fun os9 => match os9 with | Sum.inl r => some r | Sum.inr s9 => some s9)) else none) else none))
set_option maxHeartbeats 4000000 in
theorem grapevineref3_fold_calls {B : World} {G : GMap} {Γ : List Chunk} {W : World} (k : Nat) (l0 : List (List Int)) (a1 : Bool) (Al0 : Option Addr) (cl0 : Nat) (Hl0 : Rd (kSlice (kInt .i64)) G Al0 cl0 l0) (r : List Int) (h : grapevineref3_fold k l0 a1 = some r) (hI : Inv B G (Γ) W) :
    Calls Tryd.prog 38 [.slice Al0 l0.length cl0, .bool a1].toArray W (Ret B (fun v G' Γ' => ∃ (AR : Option Addr), ∃ (cR : Nat), ∃ (CR : Chunk), v = .slice AR r.length cR ∧ Ow (kInt .i64) G' AR cR r CR ∧ G = G' ∧ CR :: Γ = Γ')) := by
  refine calls_WP (Γ := Γ) (G := G) (B := B) Tryd.func38 rfl (by kernel_rfl) ?_ hI
  clear hI
  unfold grapevineref3_fold at h
  refine WP.seqP [0, 1] (L' := [(0, .slice Al0 l0.length cl0), (1, .bool a1)]) (by kernel_rfl) ?_
  refine WP.seq ?_
  refine WP.seqP [0, 1, 10] (L' := [(0, .slice Al0 l0.length cl0), (1, .bool a1), (10, .bool ((l0.length : Int) == 0))]) (by kernel_rfl) ?_
  refine WP.cond (b := ((l0.length : Int) == 0)) (by kernel_rfl) (fun hc => ?_) (fun hc => ?_)
  · replace hc := eq_of_beq hc
    rw [if_pos hc] at h
    have hc1 := hc
    clear hc
    refine WP.seqP [4] (L' := [(4, .slice none 0 0)]) (by kernel_rfl) ?_
    refine WP.ret ?_
    refine QP.thenR ?_
    obtain rfl := Option.some.inj h
    refine QP.addNil ?_
    exact QP.returned [4] [.slice none ([] : List Int).length 0] _ (by kernel_rfl) (by kernel_rfl) (by kernel_rfl) (fun W hI => ⟨_, _, _, rfl, ⟨none, 0, [], rfl, (Ow.nil (kInt .i64) _), rfl, rfl⟩, hI⟩)
  · replace hc := ne_of_beq_false hc
    rw [if_neg hc] at h
    have hc1 := hc
    clear hc
    refine WP.skip ?_
    refine QP.next ?_
    refine WP.pick [0, 1] ?_
    refine WP.seqR ?_
    refine WL.pure 0 1 [0, 1, 11] (L' := [(0, .slice Al0 l0.length cl0), (1, .bool a1), (11, .slice Al0 l0.length cl0)]) (by kernel_rfl) (by decide) ?_
    by_cases hb2 : 0 ≤ (0 : Int) ∧ (0 : Int) < (l0.length : Int)
    case neg => rw [if_neg hb2] at h; cases h
    rw [if_pos hb2] at h
    refine WL.tell (op := .indexAddr 50 (.tmp 11) (.const (.int .i64 0))) (ty := 0) (d := some 12) (g := none) (by kernel_rfl) (by kernel_rfl) (by kernel_rfl) (Tells.indexAddr (A := Al0) (n := l0.length) (c := cl0) (k := .i64) (j := 0) (by kernel_rfl) (by kernel_rfl) (Hl0.isSome hb2.1 hb2.2) hb2.1 hb2.2 sl50) ?_
    refine WL.tellE (op := .load 27 (.tmp 12)) (ty := 27) (d := some 13) (g := none) (by kernel_rfl) (by kernel_rfl) (by kernel_rfl) (Hl0.load (agg := false) hb2.1 hb2.2 [] ag27 (fun _ => rfl) (by kernel_rfl)) ?_
    rintro _ ⟨Ae3, ce3, rfl, He3⟩
    refine WL.addNil ?_
    by_cases hb4 : ([] : List Int).length + (l0.getD (0 : Int).toNat []).length ≤ 1073741824
    case neg => rw [if_neg hb4] at h; cases h
    rw [if_pos hb4] at h
    refine WL.op (op := .call { callee := (.builtin .append), args := #[(.const (.slice none 0 0)), (.tmp 13)], argTypes := #[27, 27] }) (ty := 27) (d := some 14) (g := none) (by kernel_rfl) (by kernel_rfl) (by kernel_rfl) (Ow.append (ys := (l0.getD (0 : Int).toNat [])) (v := .slice Ae3 (l0.getD (0 : Int).toNat []).length ce3) (Ow.nil (kInt .i64) G) (i := 0) rfl (by kernel_rfl) (by kernel_rfl) He3.src sl27 ze3 nt27 (by decide) hb4) ?_
    rintro _ _ _ ⟨rfl, AN5, cN5, CN5, rfl, HN5, rfl⟩
    refine WL.restQ 4 [0, 1, 5] (L' := [(0, .slice Al0 l0.length cl0), (1, .bool a1), (5, .slice AN5 (([] : List Int) ++ (l0.getD (0 : Int).toNat [])).length cN5)]) (by kernel_rfl) ?_
    obtain ⟨v6, hv7, h⟩ := Option.bind_eq_some_iff.1 h
    replace hv7 := Option.some.inj hv7
    have Hn8 := HN5
    rw [hv7] at Hn8
    refine WP.reput 5 (v := .slice AN5 (([] : List Int) ++ (l0.getD (0 : Int).toNat [])).length cN5) (v' := .slice AN5 v6.length cN5) (by kernel_rfl) (by subst hv7; rfl) ?_
    refine WP.pick [0, 1, 5] ?_
    refine WP.seq ?_
    refine WP.seqP [0, 1, 5, 6] (L' := [(0, .slice Al0 l0.length cl0), (1, .bool a1), (5, .slice AN5 v6.length cN5), (6, .int .i64 1)]) (by kernel_rfl) ?_
    rw [Option.bind_eq_some_iff] at h
    obtain ⟨os9, h, hk10⟩ := h
    refine WP.cutQ (fun L' G' Γ' => ∃ s9 : (List Int), Sum.inr s9 = os9 ∧ ∃ (As9 : Option Addr), ∃ (cs9 : Nat), ∃ (Cs9 : Chunk), L' = [(5, .slice As9 s9.length cs9)] ∧ G = G' ∧ Cs9 :: Γ = Γ' ∧ Ow (kInt .i64) G As9 cs9 s9 Cs9) ?_ ?_
    · skip
      refine WP.block ?_
      refine WP.pick [0, 1, 5, 6] ?_
      refine WP.loopF (fun kn13 L' G' Γ' => ∃ (y11 : Int), ∃ (y12 : List Int), grapevineref3_fold_l0 l0 a1 kn13 y11 y12 = some os9 ∧ ∃ (Ay12 : Option Addr), ∃ (cy12 : Nat), ∃ (Cy12 : Chunk), L' = [(0, .slice Al0 l0.length cl0), (1, .bool a1), (5, .slice Ay12 y12.length cy12), (6, .int .i64 y11)] ∧ G = G' ∧ Cy12 :: Γ = Γ' ∧ Ow (kInt .i64) G Ay12 cy12 y12 Cy12) ?_ k ⟨1, v6, h, AN5, cN5, CN5, rfl, rfl, rfl, Hn8⟩
      clear h
      rintro kn14 _ _ _ ⟨y11, y12, h, Ay12, cy12, Cy12, rfl, rfl, rfl, Hy12⟩
      cases kn14 with
      | zero => exact absurd h (by simp [grapevineref3_fold_l0])
      | succ kn14 =>
        simp only [grapevineref3_fold_l0] at h
        refine WP.seq ?_
        refine WP.seqP [0, 1, 5, 6, 18] (L' := [(0, .slice Al0 l0.length cl0), (1, .bool a1), (5, .slice Ay12 y12.length cy12), (6, .int .i64 y11), (18, .bool (decide (y11 < (l0.length : Int))))]) (by kernel_rfl) ?_
        refine WP.cond (b := decide (y11 < (l0.length : Int))) (by kernel_rfl) (fun hc => ?_) (fun hc => ?_)
        · replace hc := of_decide_eq_true hc
          rw [if_pos hc] at h
          have hc15 := hc
          clear hc
          refine WP.skip ?_
          refine QP.next ?_
          refine WP.pick [0, 1, 5, 6] ?_
          refine WP.seq ?_
          refine WP.block ?_
          refine WP.seq ?_
          refine WP.seqR ?_
          refine WL.pure 0 2 [0, 1, 5, 6, 21, 22] (L' := [(0, .slice Al0 l0.length cl0), (1, .bool a1), (5, .slice Ay12 y12.length cy12), (6, .int .i64 y11), (21, .slice Al0 l0.length cl0), (22, .int .i64 y11)]) (by kernel_rfl) (by decide) ?_
          by_cases hb16 : 0 ≤ y11 ∧ y11 < (l0.length : Int)
          case neg => rw [if_neg hb16] at h; cases h
          rw [if_pos hb16] at h
          refine WL.tell (op := .indexAddr 50 (.tmp 21) (.tmp 22)) (ty := 0) (d := some 23) (g := none) (by kernel_rfl) (by kernel_rfl) (by kernel_rfl) (Tells.indexAddr (A := Al0) (n := l0.length) (c := cl0) (k := .i64) (j := y11) (by kernel_rfl) (by kernel_rfl) (Hl0.isSome hb16.1 hb16.2) hb16.1 hb16.2 sl50) ?_
          refine WL.tellE (op := .load 27 (.tmp 23)) (ty := 27) (d := some 24) (g := none) (by kernel_rfl) (by kernel_rfl) (by kernel_rfl) (Hl0.load (agg := false) hb16.1 hb16.2 [] ag27 (fun _ => rfl) (by kernel_rfl)) ?_
          rintro _ ⟨Ae17, ce17, rfl, He17⟩
          refine WL.restQ 4 [0, 1, 5, 6, 28] (L' := [(0, .slice Al0 l0.length cl0), (1, .bool a1), (5, .slice Ay12 y12.length cy12), (6, .int .i64 y11), (28, .bool (((l0.getD y11.toNat []).length : Int) != (y12.length : Int)))]) (by kernel_rfl) ?_
          refine WP.cond (b := (((l0.getD y11.toNat []).length : Int) != (y12.length : Int))) (by kernel_rfl) (fun hc => ?_) (fun hc => ?_)
          · replace hc := (bne_iff_ne.1 hc)
            rw [if_pos hc] at h
            have hc18 := hc
            clear hc
            refine WP.seqP [4] (L' := [(4, .slice none 0 0)]) (by kernel_rfl) ?_
            refine WP.dropAt 0 ?_
            refine WP.ret ?_
            refine QP.thenR ?_
            refine QP.blockR ?_
            refine QP.thenR ?_
            refine QP.thenR ?_
            refine QP.blockR ?_
            refine QP.thenR ?_
            refine QP.thenR ?_
            obtain rfl := Option.some.inj h
            obtain rfl := Option.some.inj (show some _ = some _ from hk10)
            refine QP.addNil ?_
            exact QP.returned [4] [.slice none ([] : List Int).length 0] _ (by kernel_rfl) (by kernel_rfl) (by kernel_rfl) (fun W hI => ⟨_, _, _, rfl, ⟨none, 0, [], rfl, (Ow.nil (kInt .i64) _), rfl, rfl⟩, hI⟩)
          · replace hc := (not_not_intro (bne_eq_false_iff_eq.1 hc))
            rw [if_neg hc] at h
            have hc18 := hc
            clear hc
            refine WP.skip ?_
            refine QP.next ?_
            refine WP.pick [0, 1, 5, 6] ?_
            refine WP.seqP [0, 1, 5, 6, 7] (L' := [(0, .slice Al0 l0.length cl0), (1, .bool a1), (5, .slice Ay12 y12.length cy12), (6, .int .i64 y11), (7, .int .i64 0)]) (by kernel_rfl) ?_
            rw [Option.bind_eq_some_iff] at h
            obtain ⟨os19, h, hk20⟩ := h
            refine WP.cutQ (fun L' G' Γ' => ∃ s19 : (List Int), s19 = os19 ∧ ∃ (As19 : Option Addr), ∃ (cs19 : Nat), ∃ (Cs19 : Chunk), L' = [(0, .slice Al0 l0.length cl0), (1, .bool a1), (5, .slice As19 s19.length cs19), (6, .int .i64 y11)] ∧ G = G' ∧ Cs19 :: Γ = Γ' ∧ Ow (kInt .i64) G As19 cs19 s19 Cs19) ?_ ?_
            · clear hk20
              refine WP.block ?_
              refine WP.pick [0, 1, 5, 6, 7] ?_
              refine WP.loopF (fun kn23 L' G' Γ' => ∃ (y21 : Int), ∃ (y22 : List Int), grapevineref3_fold_l1 l0 a1 y11 kn23 y21 y22 = some os19 ∧ ∃ (Ay22 : Option Addr), ∃ (cy22 : Nat), ∃ (Cy22 : Chunk), L' = [(0, .slice Al0 l0.length cl0), (1, .bool a1), (5, .slice Ay22 y22.length cy22), (6, .int .i64 y11), (7, .int .i64 y21)] ∧ G = G' ∧ Cy22 :: Γ = Γ' ∧ Ow (kInt .i64) G Ay22 cy22 y22 Cy22) ?_ kn14 ⟨0, y12, h, Ay12, cy12, Cy12, rfl, rfl, rfl, Hy12⟩
              clear h
              rintro kn24 _ _ _ ⟨y21, y22, h, Ay22, cy22, Cy22, rfl, rfl, rfl, Hy22⟩
              cases kn24 with
              | zero => exact absurd h (by simp [grapevineref3_fold_l1])
              | succ kn24 =>
                simp only [grapevineref3_fold_l1] at h
                refine WP.seq ?_
                refine WP.seqP [0, 1, 5, 6, 7, 32] (L' := [(0, .slice Al0 l0.length cl0), (1, .bool a1), (5, .slice Ay22 y22.length cy22), (6, .int .i64 y11), (7, .int .i64 y21), (32, .bool (decide (y21 < (y22.length : Int))))]) (by kernel_rfl) ?_
                refine WP.cond (b := decide (y21 < (y22.length : Int))) (by kernel_rfl) (fun hc => ?_) (fun hc => ?_)
                · replace hc := of_decide_eq_true hc
                  rw [if_pos hc] at h
                  have hc25 := hc
                  clear hc
                  refine WP.skip ?_
                  refine QP.next ?_
                  refine WP.pick [0, 1, 5, 6, 7] ?_
                  refine WP.seq ?_
                  refine WP.block ?_
                  refine WP.seqP [0, 1, 5, 6, 7, 35] (L' := [(0, .slice Al0 l0.length cl0), (1, .bool a1), (5, .slice Ay22 y22.length cy22), (6, .int .i64 y11), (7, .int .i64 y21), (35, .bool a1)]) (by kernel_rfl) ?_
                  refine WP.cond (b := a1) (by kernel_rfl) (fun hc => ?_) (fun hc => ?_)
                  · replace hc := hc
                    rw [if_pos hc] at h
                    have hc26 := hc
                    clear hc
                    skip
                    refine WP.any (N := 16) (S := [⟨some 36, [5], []⟩, ⟨some 37, [7], []⟩, ⟨some 38, [5], []⟩, ⟨some 39, [7], []⟩, ⟨some 40, [38, 39], [2, 3]⟩, ⟨some 41, [40], [4]⟩, ⟨some 42, [0], []⟩, ⟨some 43, [6], []⟩, ⟨some 44, [42, 43], [6, 7]⟩, ⟨some 45, [44], [8]⟩, ⟨some 46, [7], []⟩, ⟨some 47, [45, 46], [9, 10]⟩, ⟨some 48, [47], [11]⟩, ⟨some 49, [41, 48], [5, 12]⟩, ⟨some 50, [36, 37], [0, 1, 2, 3, 4, 5, 6, 7, 8, 9, 10, 11, 12, 13]⟩, ⟨none, [49, 50], [0, 1, 2, 3, 4, 5, 6, 7, 8, 9, 10, 11, 12, 13, 14]⟩]) (kw := 15) (G0 := G) (Γ0 := Cy22 :: Γ) mo (by kernel_rfl) (fun hS => ?_)
                    refine WA.pure [0, 1, 2, 3, 6, 7, 10] [0, 1, 5, 6, 7, 36, 37, 38, 39, 42, 43, 46] (m := 9) (b' := 1231) (L' := [(0, .slice Al0 l0.length cl0), (1, .bool a1), (5, .slice Ay22 y22.length cy22), (6, .int .i64 y11), (7, .int .i64 y21), (36, .slice Ay22 y22.length cy22), (37, .int .i64 y21), (38, .slice Ay22 y22.length cy22), (39, .int .i64 y21), (42, .slice Al0 l0.length cl0), (43, .int .i64 y11), (46, .int .i64 y21)]) (by kernel_rfl) (NoPanic.block (NoPanic.then (NoPanic.then (NoPanic.block (NoPanic.then (NoPanic.block (NoPanic.then (NoPanic.then (NoPanic.block (NoPanic.then (NoPanic.then (NoPanic.body)))))))))))) Under.refl hS (by kernel_rfl) ?_
                    by_cases hb27 : 0 ≤ y21 ∧ y21 < (y22.length : Int)
                    case neg => rw [if_neg hb27] at h; cases h
                    rw [if_pos hb27] at h
                    refine WA.tellD [15] (i := 4) (m := 8) (b' := 1247) (by kernel_rfl) (NoPanic.block (NoPanic.then (NoPanic.then (NoPanic.block (NoPanic.then (NoPanic.block (NoPanic.then (NoPanic.then (NoPanic.block (NoPanic.then (NoPanic.then (NoPanic.body)))))))))))) Under.refl hS (by kernel_rfl) (op := .indexAddr 27 (.tmp 38) (.tmp 39)) (ty := 0) (d := some 40) (g := none) (by kernel_rfl) (by kernel_rfl) (by kernel_rfl) (Tells.indexAddr (A := Ay22) (n := y22.length) (c := cy22) (k := .i64) (j := y21) (by kernel_rfl) (by kernel_rfl) (Hy22.isSome hb27.1 hb27.2) hb27.1 hb27.2 sl27) ?_
                    refine WA.tellDE [15] (i := 5) (m := 7) (b' := 1279) (by kernel_rfl) (NoPanic.block (NoPanic.then (NoPanic.then (NoPanic.block (NoPanic.then (NoPanic.block (NoPanic.then (NoPanic.then (NoPanic.block (NoPanic.then (NoPanic.then (NoPanic.body)))))))))))) Under.refl hS (by kernel_rfl) (op := .load 3 (.tmp 40)) (ty := 3) (d := some 41) (g := none) (by kernel_rfl) (by kernel_rfl) (by kernel_rfl) (Hy22.load (i := 0) rfl (agg := false) hb27.1 hb27.2 0 ag3 (fun _ => rfl) (by kernel_rfl)) ?_
                    rintro _ rfl
                    by_cases hb28 : 0 ≤ y11 ∧ y11 < (l0.length : Int)
                    case neg => rw [if_neg hb28] at h; cases h
                    rw [if_pos hb28] at h
                    refine WA.tellD [15] (i := 8) (m := 6) (b' := 1535) (by kernel_rfl) (NoPanic.block (NoPanic.then (NoPanic.then (NoPanic.block (NoPanic.then (NoPanic.block (NoPanic.then (NoPanic.then (NoPanic.block (NoPanic.then (NoPanic.then (NoPanic.body)))))))))))) Under.refl hS (by kernel_rfl) (op := .indexAddr 50 (.tmp 42) (.tmp 43)) (ty := 0) (d := some 44) (g := none) (by kernel_rfl) (by kernel_rfl) (by kernel_rfl) (Tells.indexAddr (A := Al0) (n := l0.length) (c := cl0) (k := .i64) (j := y11) (by kernel_rfl) (by kernel_rfl) (Hl0.isSome hb28.1 hb28.2) hb28.1 hb28.2 sl50) ?_
                    refine WA.tellDE [15] (i := 9) (m := 5) (b' := 2047) (by kernel_rfl) (NoPanic.block (NoPanic.then (NoPanic.then (NoPanic.block (NoPanic.then (NoPanic.block (NoPanic.then (NoPanic.then (NoPanic.block (NoPanic.then (NoPanic.then (NoPanic.body)))))))))))) Under.refl hS (by kernel_rfl) (op := .load 27 (.tmp 44)) (ty := 27) (d := some 45) (g := none) (by kernel_rfl) (by kernel_rfl) (by kernel_rfl) (Hl0.load (agg := false) hb28.1 hb28.2 [] ag27 (fun _ => rfl) (by kernel_rfl)) ?_
                    rintro _ ⟨Ae29, ce29, rfl, He29⟩
                    by_cases hb30 : 0 ≤ y21 ∧ y21 < ((l0.getD y11.toNat []).length : Int)
                    case neg => rw [if_neg hb30] at h; cases h
                    rw [if_pos hb30] at h
                    refine WA.tellD [15] (i := 11) (m := 4) (b' := 4095) (by kernel_rfl) (NoPanic.block (NoPanic.then (NoPanic.then (NoPanic.block (NoPanic.then (NoPanic.block (NoPanic.then (NoPanic.then (NoPanic.block (NoPanic.then (NoPanic.then (NoPanic.body)))))))))))) Under.refl hS (by kernel_rfl) (op := .indexAddr 27 (.tmp 45) (.tmp 46)) (ty := 0) (d := some 47) (g := none) (by kernel_rfl) (by kernel_rfl) (by kernel_rfl) (Tells.indexAddr (A := Ae29) (n := (l0.getD y11.toNat []).length) (c := ce29) (k := .i64) (j := y21) (by kernel_rfl) (by kernel_rfl) (He29.isSome hb30.1 hb30.2) hb30.1 hb30.2 sl27) ?_
                    refine WA.tellDE [15] (i := 12) (m := 3) (b' := 8191) (by kernel_rfl) (NoPanic.block (NoPanic.then (NoPanic.then (NoPanic.block (NoPanic.then (NoPanic.block (NoPanic.then (NoPanic.then (NoPanic.block (NoPanic.then (NoPanic.then (NoPanic.body)))))))))))) Under.refl hS (by kernel_rfl) (op := .load 3 (.tmp 47)) (ty := 3) (d := some 48) (g := none) (by kernel_rfl) (by kernel_rfl) (by kernel_rfl) (He29.load (agg := false) hb30.1 hb30.2 0 ag3 (fun _ => rfl) (by kernel_rfl)) ?_
                    rintro _ rfl
                    refine WA.pure [13] [0, 1, 5, 6, 7, 36, 37, 49] (m := 2) (b' := 16383) (L' := [(0, .slice Al0 l0.length cl0), (1, .bool a1), (5, .slice Ay22 y22.length cy22), (6, .int .i64 y11), (7, .int .i64 y21), (36, .slice Ay22 y22.length cy22), (37, .int .i64 y21), (49, .int .i64 (if ((l0.getD y11.toNat []).getD y21.toNat 0) > (y22.getD y21.toNat 0) then ((l0.getD y11.toNat []).getD y21.toNat 0) else (y22.getD y21.toNat 0)))]) (by kernel_rfl) (NoPanic.block (NoPanic.then (NoPanic.then (NoPanic.block (NoPanic.then (NoPanic.block (NoPanic.then (NoPanic.then (NoPanic.block (NoPanic.then (NoPanic.then (NoPanic.body)))))))))))) Under.refl hS (by kernel_rfl) ?_
                    by_cases hb31 : 0 ≤ y21 ∧ y21 < (y22.length : Int)
                    case neg => rw [if_neg hb31] at h; cases h
                    rw [if_pos hb31] at h
                    refine WA.tellD [15] (i := 14) (m := 1) (b' := 32767) (by kernel_rfl) (NoPanic.block (NoPanic.then (NoPanic.then (NoPanic.block (NoPanic.then (NoPanic.block (NoPanic.then (NoPanic.then (NoPanic.block (NoPanic.then (NoPanic.then (NoPanic.body)))))))))))) Under.refl hS (by kernel_rfl) (op := .indexAddr 27 (.tmp 36) (.tmp 37)) (ty := 0) (d := some 50) (g := none) (by kernel_rfl) (by kernel_rfl) (by kernel_rfl) (Tells.indexAddr (A := Ay22) (n := y22.length) (c := cy22) (k := .i64) (j := y21) (by kernel_rfl) (by kernel_rfl) (Hy22.isSome hb31.1 hb31.2) hb31.1 hb31.2 sl27) ?_
                    refine WA.opK (i := 15) (kw' := 16) (m := 0) (b' := 65535) (by kernel_rfl) rfl hS (by kernel_rfl) (op := .store 3 (.tmp 50) (.tmp 49)) (ty := 0) (d := none) (g := none) (by kernel_rfl) (by kernel_rfl) (by kernel_rfl) (Ow.store Hy22 (i := 0) rfl hb31.1 hb31.2 (z := (if ((l0.getD y11.toNat []).getD y21.toNat 0) > (y22.getD y21.toNat 0) then ((l0.getD y11.toNat []).getD y21.toNat 0) else (y22.getD y21.toNat 0))) (v := .int .i64 (if ((l0.getD y11.toNat []).getD y21.toNat 0) > (y22.getD y21.toNat 0) then ((l0.getD y11.toNat []).getD y21.toNat 0) else (y22.getD y21.toNat 0))) (by kernel_rfl) (by kernel_rfl) sz3 (by exact rfl)) ?_
                    rintro _ _ _ ⟨rfl, rfl, C32, Ho33, rfl⟩
                    refine ⟨_, _, Under.refl, ?_⟩
                    refine WA.reput 5 (v := .slice Ay22 y22.length cy22) (v' := .slice Ay22 (y22.set y21.toNat (if ((l0.getD y11.toNat []).getD y21.toNat 0) > (y22.getD y21.toNat 0) then ((l0.getD y11.toNat []).getD y21.toNat 0) else (y22.getD y21.toNat 0))).length cy22) (by kernel_rfl) (by simp only [List.length_set]) ?_
                    refine WA.done hS (by kernel_rfl) ?_
                    refine QP.pick [0, 1, 5, 6, 7] ?_
                    refine QP.blockN ?_
                    refine QP.next ?_
                    refine WP.pick [0, 1, 5, 6, 7] ?_
                    refine WP.regionP [0, 1, 5, 6, 7] (L' := [(0, .slice Al0 l0.length cl0), (1, .bool a1), (5, .slice Ay22 (y22.set y21.toNat (if ((l0.getD y11.toNat []).getD y21.toNat 0) > (y22.getD y21.toNat 0) then ((l0.getD y11.toNat []).getD y21.toNat 0) else (y22.getD y21.toNat 0))).length cy22), (6, .int .i64 y11), (7, .int .i64 (IntKind.i64.wrap (y21 + 1)))]) (by kernel_rfl) ?_
                    refine QP.pick [0, 1, 5, 6, 7] ?_
                    exact QP.meet ⟨kn24, Nat.lt_succ_self _, (IntKind.i64.wrap (y21 + 1)), (y22.set y21.toNat (if ((l0.getD y11.toNat []).getD y21.toNat 0) > (y22.getD y21.toNat 0) then ((l0.getD y11.toNat []).getD y21.toNat 0) else (y22.getD y21.toNat 0))), h, Ay22, cy22, C32, rfl, rfl, rfl, Ho33⟩
                  · replace hc := (Bool.eq_false_iff.1 hc)
                    rw [if_neg hc] at h
                    have hc26 := hc
                    clear hc
                    skip
                    refine WP.any (N := 16) (S := [⟨some 51, [5], []⟩, ⟨some 52, [7], []⟩, ⟨some 53, [5], []⟩, ⟨some 54, [7], []⟩, ⟨some 55, [53, 54], [2, 3]⟩, ⟨some 56, [55], [4]⟩, ⟨some 57, [0], []⟩, ⟨some 58, [6], []⟩, ⟨some 59, [57, 58], [6, 7]⟩, ⟨some 60, [59], [8]⟩, ⟨some 61, [7], []⟩, ⟨some 62, [60, 61], [9, 10]⟩, ⟨some 63, [62], [11]⟩, ⟨some 64, [56, 63], [5, 12]⟩, ⟨some 65, [51, 52], [0, 1, 2, 3, 4, 5, 6, 7, 8, 9, 10, 11, 12, 13]⟩, ⟨none, [64, 65], [0, 1, 2, 3, 4, 5, 6, 7, 8, 9, 10, 11, 12, 13, 14]⟩]) (kw := 15) (G0 := G) (Γ0 := Cy22 :: Γ) mo (by kernel_rfl) (fun hS => ?_)
                    refine WA.pure [0, 1, 2, 3, 6, 7, 10] [0, 1, 5, 6, 7, 51, 52, 53, 54, 57, 58, 61] (m := 9) (b' := 1231) (L' := [(0, .slice Al0 l0.length cl0), (1, .bool a1), (5, .slice Ay22 y22.length cy22), (6, .int .i64 y11), (7, .int .i64 y21), (51, .slice Ay22 y22.length cy22), (52, .int .i64 y21), (53, .slice Ay22 y22.length cy22), (54, .int .i64 y21), (57, .slice Al0 l0.length cl0), (58, .int .i64 y11), (61, .int .i64 y21)]) (by kernel_rfl) (NoPanic.block (NoPanic.then (NoPanic.then (NoPanic.block (NoPanic.then (NoPanic.block (NoPanic.then (NoPanic.then (NoPanic.block (NoPanic.then (NoPanic.then (NoPanic.body)))))))))))) Under.refl hS (by kernel_rfl) ?_
                    by_cases hb34 : 0 ≤ y21 ∧ y21 < (y22.length : Int)
                    case neg => rw [if_neg hb34] at h; cases h
                    rw [if_pos hb34] at h
                    refine WA.tellD [15] (i := 4) (m := 8) (b' := 1247) (by kernel_rfl) (NoPanic.block (NoPanic.then (NoPanic.then (NoPanic.block (NoPanic.then (NoPanic.block (NoPanic.then (NoPanic.then (NoPanic.block (NoPanic.then (NoPanic.then (NoPanic.body)))))))))))) Under.refl hS (by kernel_rfl) (op := .indexAddr 27 (.tmp 53) (.tmp 54)) (ty := 0) (d := some 55) (g := none) (by kernel_rfl) (by kernel_rfl) (by kernel_rfl) (Tells.indexAddr (A := Ay22) (n := y22.length) (c := cy22) (k := .i64) (j := y21) (by kernel_rfl) (by kernel_rfl) (Hy22.isSome hb34.1 hb34.2) hb34.1 hb34.2 sl27) ?_
                    refine WA.tellDE [15] (i := 5) (m := 7) (b' := 1279) (by kernel_rfl) (NoPanic.block (NoPanic.then (NoPanic.then (NoPanic.block (NoPanic.then (NoPanic.block (NoPanic.then (NoPanic.then (NoPanic.block (NoPanic.then (NoPanic.then (NoPanic.body)))))))))))) Under.refl hS (by kernel_rfl) (op := .load 3 (.tmp 55)) (ty := 3) (d := some 56) (g := none) (by kernel_rfl) (by kernel_rfl) (by kernel_rfl) (Hy22.load (i := 0) rfl (agg := false) hb34.1 hb34.2 0 ag3 (fun _ => rfl) (by kernel_rfl)) ?_
                    rintro _ rfl
                    by_cases hb35 : 0 ≤ y11 ∧ y11 < (l0.length : Int)
                    case neg => rw [if_neg hb35] at h; cases h
                    rw [if_pos hb35] at h
                    refine WA.tellD [15] (i := 8) (m := 6) (b' := 1535) (by kernel_rfl) (NoPanic.block (NoPanic.then (NoPanic.then (NoPanic.block (NoPanic.then (NoPanic.block (NoPanic.then (NoPanic.then (NoPanic.block (NoPanic.then (NoPanic.then (NoPanic.body)))))))))))) Under.refl hS (by kernel_rfl) (op := .indexAddr 50 (.tmp 57) (.tmp 58)) (ty := 0) (d := some 59) (g := none) (by kernel_rfl) (by kernel_rfl) (by kernel_rfl) (Tells.indexAddr (A := Al0) (n := l0.length) (c := cl0) (k := .i64) (j := y11) (by kernel_rfl) (by kernel_rfl) (Hl0.isSome hb35.1 hb35.2) hb35.1 hb35.2 sl50) ?_
                    refine WA.tellDE [15] (i := 9) (m := 5) (b' := 2047) (by kernel_rfl) (NoPanic.block (NoPanic.then (NoPanic.then (NoPanic.block (NoPanic.then (NoPanic.block (NoPanic.then (NoPanic.then (NoPanic.block (NoPanic.then (NoPanic.then (NoPanic.body)))))))))))) Under.refl hS (by kernel_rfl) (op := .load 27 (.tmp 59)) (ty := 27) (d := some 60) (g := none) (by kernel_rfl) (by kernel_rfl) (by kernel_rfl) (Hl0.load (agg := false) hb35.1 hb35.2 [] ag27 (fun _ => rfl) (by kernel_rfl)) ?_
                    rintro _ ⟨Ae36, ce36, rfl, He36⟩
                    by_cases hb37 : 0 ≤ y21 ∧ y21 < ((l0.getD y11.toNat []).length : Int)
                    case neg => rw [if_neg hb37] at h; cases h
                    rw [if_pos hb37] at h
                    refine WA.tellD [15] (i := 11) (m := 4) (b' := 4095) (by kernel_rfl) (NoPanic.block (NoPanic.then (NoPanic.then (NoPanic.block (NoPanic.then (NoPanic.block (NoPanic.then (NoPanic.then (NoPanic.block (NoPanic.then (NoPanic.then (NoPanic.body)))))))))))) Under.refl hS (by kernel_rfl) (op := .indexAddr 27 (.tmp 60) (.tmp 61)) (ty := 0) (d := some 62) (g := none) (by kernel_rfl) (by kernel_rfl) (by kernel_rfl) (Tells.indexAddr (A := Ae36) (n := (l0.getD y11.toNat []).length) (c := ce36) (k := .i64) (j := y21) (by kernel_rfl) (by kernel_rfl) (He36.isSome hb37.1 hb37.2) hb37.1 hb37.2 sl27) ?_
                    refine WA.tellDE [15] (i := 12) (m := 3) (b' := 8191) (by kernel_rfl) (NoPanic.block (NoPanic.then (NoPanic.then (NoPanic.block (NoPanic.then (NoPanic.block (NoPanic.then (NoPanic.then (NoPanic.block (NoPanic.then (NoPanic.then (NoPanic.body)))))))))))) Under.refl hS (by kernel_rfl) (op := .load 3 (.tmp 62)) (ty := 3) (d := some 63) (g := none) (by kernel_rfl) (by kernel_rfl) (by kernel_rfl) (He36.load (agg := false) hb37.1 hb37.2 0 ag3 (fun _ => rfl) (by kernel_rfl)) ?_
                    rintro _ rfl
                    refine WA.pure [13] [0, 1, 5, 6, 7, 51, 52, 64] (m := 2) (b' := 16383) (L' := [(0, .slice Al0 l0.length cl0), (1, .bool a1), (5, .slice Ay22 y22.length cy22), (6, .int .i64 y11), (7, .int .i64 y21), (51, .slice Ay22 y22.length cy22), (52, .int .i64 y21), (64, .int .i64 (if ((l0.getD y11.toNat []).getD y21.toNat 0) < (y22.getD y21.toNat 0) then ((l0.getD y11.toNat []).getD y21.toNat 0) else (y22.getD y21.toNat 0)))]) (by kernel_rfl) (NoPanic.block (NoPanic.then (NoPanic.then (NoPanic.block (NoPanic.then (NoPanic.block (NoPanic.then (NoPanic.then (NoPanic.block (NoPanic.then (NoPanic.then (NoPanic.body)))))))))))) Under.refl hS (by kernel_rfl) ?_
                    by_cases hb38 : 0 ≤ y21 ∧ y21 < (y22.length : Int)
                    case neg => rw [if_neg hb38] at h; cases h
                    rw [if_pos hb38] at h
                    refine WA.tellD [15] (i := 14) (m := 1) (b' := 32767) (by kernel_rfl) (NoPanic.block (NoPanic.then (NoPanic.then (NoPanic.block (NoPanic.then (NoPanic.block (NoPanic.then (NoPanic.then (NoPanic.block (NoPanic.then (NoPanic.then (NoPanic.body)))))))))))) Under.refl hS (by kernel_rfl) (op := .indexAddr 27 (.tmp 51) (.tmp 52)) (ty := 0) (d := some 65) (g := none) (by kernel_rfl) (by kernel_rfl) (by kernel_rfl) (Tells.indexAddr (A := Ay22) (n := y22.length) (c := cy22) (k := .i64) (j := y21) (by kernel_rfl) (by kernel_rfl) (Hy22.isSome hb38.1 hb38.2) hb38.1 hb38.2 sl27) ?_
                    refine WA.opK (i := 15) (kw' := 16) (m := 0) (b' := 65535) (by kernel_rfl) rfl hS (by kernel_rfl) (op := .store 3 (.tmp 65) (.tmp 64)) (ty := 0) (d := none) (g := none) (by kernel_rfl) (by kernel_rfl) (by kernel_rfl) (Ow.store Hy22 (i := 0) rfl hb38.1 hb38.2 (z := (if ((l0.getD y11.toNat []).getD y21.toNat 0) < (y22.getD y21.toNat 0) then ((l0.getD y11.toNat []).getD y21.toNat 0) else (y22.getD y21.toNat 0))) (v := .int .i64 (if ((l0.getD y11.toNat []).getD y21.toNat 0) < (y22.getD y21.toNat 0) then ((l0.getD y11.toNat []).getD y21.toNat 0) else (y22.getD y21.toNat 0))) (by kernel_rfl) (by kernel_rfl) sz3 (by exact rfl)) ?_
                    rintro _ _ _ ⟨rfl, rfl, C39, Ho40, rfl⟩
                    refine ⟨_, _, Under.refl, ?_⟩
                    refine WA.reput 5 (v := .slice Ay22 y22.length cy22) (v' := .slice Ay22 (y22.set y21.toNat (if ((l0.getD y11.toNat []).getD y21.toNat 0) < (y22.getD y21.toNat 0) then ((l0.getD y11.toNat []).getD y21.toNat 0) else (y22.getD y21.toNat 0))).length cy22) (by kernel_rfl) (by simp only [List.length_set]) ?_
                    refine WA.done hS (by kernel_rfl) ?_
                    refine QP.pick [0, 1, 5, 6, 7] ?_
                    refine QP.blockN ?_
                    refine QP.next ?_
                    refine WP.pick [0, 1, 5, 6, 7] ?_
                    refine WP.regionP [0, 1, 5, 6, 7] (L' := [(0, .slice Al0 l0.length cl0), (1, .bool a1), (5, .slice Ay22 (y22.set y21.toNat (if ((l0.getD y11.toNat []).getD y21.toNat 0) < (y22.getD y21.toNat 0) then ((l0.getD y11.toNat []).getD y21.toNat 0) else (y22.getD y21.toNat 0))).length cy22), (6, .int .i64 y11), (7, .int .i64 (IntKind.i64.wrap (y21 + 1)))]) (by kernel_rfl) ?_
                    refine QP.pick [0, 1, 5, 6, 7] ?_
                    exact QP.meet ⟨kn24, Nat.lt_succ_self _, (IntKind.i64.wrap (y21 + 1)), (y22.set y21.toNat (if ((l0.getD y11.toNat []).getD y21.toNat 0) < (y22.getD y21.toNat 0) then ((l0.getD y11.toNat []).getD y21.toNat 0) else (y22.getD y21.toNat 0))), h, Ay22, cy22, C39, rfl, rfl, rfl, Ho40⟩
                · replace hc := of_decide_eq_false hc
                  rw [if_neg hc] at h
                  have hc25 := hc
                  clear hc
                  refine WP.exit ?_
                  refine QP.thenE ?_
                  refine QP.thenE ?_
                  refine QP.blockE ?_
                  refine QP.pick [0, 1, 5, 6] ?_
                  exact QP.meet ⟨_, Option.some.inj h, Ay22, cy22, Cy22, rfl, rfl, rfl, Hy22⟩
            · rintro _ _ _ ⟨s19, rfl, As19, cs19, Cs19, rfl, rfl, rfl, Hs19⟩
              clear h
              replace h := hk20
              refine QP.blockN ?_
              refine QP.next ?_
              refine WP.pick [0, 1, 5, 6] ?_
              refine WP.regionP [0, 1, 5, 6] (L' := [(0, .slice Al0 l0.length cl0), (1, .bool a1), (5, .slice As19 s19.length cs19), (6, .int .i64 (IntKind.i64.wrap (y11 + 1)))]) (by kernel_rfl) ?_
              refine QP.pick [0, 1, 5, 6] ?_
              exact QP.meet ⟨kn14, Nat.lt_succ_self _, (IntKind.i64.wrap (y11 + 1)), s19, h, As19, cs19, Cs19, rfl, rfl, rfl, Hs19⟩
        · replace hc := of_decide_eq_false hc
          rw [if_neg hc] at h
          have hc15 := hc
          clear hc
          refine WP.exit ?_
          refine QP.thenE ?_
          refine QP.thenE ?_
          refine QP.blockE ?_
          refine QP.pick [5] ?_
          exact QP.meet ⟨_, Option.some.inj h, Ay12, cy12, Cy12, rfl, rfl, rfl, Hy12⟩
    · rintro _ _ _ ⟨s9, rfl, As9, cs9, Cs9, rfl, rfl, rfl, Hs9⟩
      clear h
      replace h := hk10
      dsimp only at h
      refine QP.next ?_
      refine WP.pick [5] ?_
      refine WP.seqP [4] (L' := [(4, .slice As9 s9.length cs9)]) (by kernel_rfl) ?_
      refine WP.ret ?_
      obtain rfl := Option.some.inj h
      exact QP.returned [4] [.slice As9 s9.length cs9] _ (by kernel_rfl) (by kernel_rfl) (by kernel_rfl) (fun W hI => ⟨_, _, _, rfl, ⟨As9, cs9, Cs9, rfl, Hs9, rfl, rfl⟩, hI⟩)

/-! ### grapevine/grapevineref3.Join: function 23 -/
def grapevineref3_Join (k : Nat) (l0 : List (List Int)) : Option (List Int) := ((grapevineref3_fold k l0 true).bind fun t1 => some t1)
set_option maxHeartbeats 4000000 in
theorem grapevineref3_Join_calls {B : World} {G : GMap} {Γ : List Chunk} {W : World} (k : Nat) (l0 : List (List Int)) (Al0 : Option Addr) (cl0 : Nat) (Hl0 : Rd (kSlice (kInt .i64)) G Al0 cl0 l0) (r : List Int) (h : grapevineref3_Join k l0 = some r) (hI : Inv B G (Γ) W) :
    Calls Tryd.prog 23 [.slice Al0 l0.length cl0].toArray W (Ret B (fun v G' Γ' => ∃ (AR : Option Addr), ∃ (cR : Nat), ∃ (CR : Chunk), v = .slice AR r.length cR ∧ Ow (kInt .i64) G' AR cR r CR ∧ G = G' ∧ CR :: Γ = Γ')) := by
  refine calls_WP (Γ := Γ) (G := G) (B := B) Tryd.func23 rfl (by kernel_rfl) ?_ hI
  clear hI
  unfold grapevineref3_Join at h
  refine WP.seqP [0] (L' := [(0, .slice Al0 l0.length cl0)]) (by kernel_rfl) ?_
  refine WP.seqR ?_
  refine WL.pure 0 1 [3] (L' := [(3, .slice Al0 l0.length cl0)]) (by kernel_rfl) (by decide) ?_
  rw [Option.bind_eq_some_iff] at h
  obtain ⟨t1, ht2, h⟩ := h
  refine WL.op (op := .call { callee := (.value (.func 38)), args := #[(.tmp 3), (.const (.bool true))], argTypes := #[50, 4] }) (ty := 27) (d := some 4) (g := none) (by kernel_rfl) (by kernel_rfl) (by kernel_rfl) (Does.call (f := 38) (args := [.slice Al0 l0.length cl0, .bool true]) (by kernel_rfl) (fun W hI => (grapevineref3_fold_calls k l0 true Al0 cl0 Hl0 t1 ht2 hI))) ?_
  rintro _ _ _ ⟨AR3, cR3, CR3, rfl, HR3, rfl, rfl⟩
  refine WL.restQ 2 [2] (L' := [(2, .slice AR3 t1.length cR3)]) (by kernel_rfl) ?_
  refine WP.ret ?_
  obtain rfl := Option.some.inj h
  exact QP.returned [2] [.slice AR3 t1.length cR3] _ (by kernel_rfl) (by kernel_rfl) (by kernel_rfl) (fun W hI => ⟨_, _, _, rfl, ⟨AR3, cR3, CR3, rfl, HR3, rfl, rfl⟩, hI⟩)
end Go.Proofs.YtjefgmglgphdbaaDoor.Gf
