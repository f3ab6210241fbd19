/- Walks of Go functions: what each tells, as a plain Lean function, and that the Go code comes to it. Written by gg.py of this repo. -/
import Derived.Test.YtfocilpnbiciaaaDoorT
import Derived.Test.YtfocilpnbiciaaaDoorF0
import Derived.Test.YtfocilpnbiciaaaDoorF1
import Derived.Test.YtfocilpnbiciaaaDoorF2
namespace Go.Proofs.YtfocilpnbiciaaaDoor.Gf
open Go Go.Gg
set_option maxRecDepth 100000
set_option linter.unusedVariables false
set_option linter.unusedSimpArgs false

/-! ### (*grapevine/talk.reader).records: function 68 -/
def talk_reader_records_l0 (a1 : Int) : Nat → Int → T101 → Option (Sum (Bool × T101) T101)
  | 0, _, _ => none
  | k + 1, y3, y4 => (if y3 < a1 then (((record_Read k y4.f0 y4.f1).bind fun t11 => some (t11.1, t11.2.1, t11.2.2)).bind fun s8 => (if (!s8.2.2) = true then some (Sum.inl (false, y4)) else (if y4.f7.length + ([s8.1] : List T39).length ≤ 1073741824 then talk_reader_records_l0 a1 k (IntKind.i64.wrap (y3 + 1)) (⟨y4.f0, s8.2.1, y4.f2, y4.f3, y4.f4, y4.f5, y4.f6, (y4.f7 ++ ([s8.1] : List T39))⟩ : T101) else none))) else some (Sum.inr y4))
def talk_reader_records (k : Nat) (a0 : T101) (a1 : Int) : Option (Bool × T101) := ((talk_reader_records_l0 a1 k 0 a0).bind fun os1 => match os1 with | Sum.inl r => some r | Sum.inr s1 => some ((s1.f1 == (s1.f0.length : Int)), s1))
set_option maxHeartbeats 4000000 in
theorem talk_reader_records_calls {B : World} {G : GMap} {Γ : List Chunk} {W : World} (HT : Tabs B G) (k : Nat) (a0 : T101) (a1 : Int) (b0 : Nat) (Aa0_f0 : Option Addr) (ca0_f0 : Nat) (Ca0_f0 : Chunk) (Ha0_f0 : Ow (kInt .u8) G Aa0_f0 ca0_f0 a0.f0 Ca0_f0) (Aa0_f5 : Option Addr) (ca0_f5 : Nat) (Ca0_f5 : Chunk) (Ha0_f5 : Ow (kInt .i64) G Aa0_f5 ca0_f5 a0.f5 Ca0_f5) (Aa0_f6 : Option Addr) (ca0_f6 : Nat) (Ca0_f6 : Chunk) (Ha0_f6 : Ow (kInt .i64) G Aa0_f6 ca0_f6 a0.f6 Ca0_f6) (Aa0_f7 : Option Addr) (ca0_f7 : Nat) (Ca0_f7 : Chunk) (Ha0_f7 : Ow k39 G Aa0_f7 ca0_f7 a0.f7 Ca0_f7) (r : Bool × T101) (h : talk_reader_records k a0 a1 = some r) (hI : Inv B G ([(b0, .cells #[.slice Aa0_f0 a0.f0.length ca0_f0, .int .i64 a0.f1, .int .i64 a0.f2, .int .i64 a0.f3, .int .i64 a0.f4, .slice Aa0_f5 a0.f5.length ca0_f5, .slice Aa0_f6 a0.f6.length ca0_f6, .slice Aa0_f7 a0.f7.length ca0_f7] 101 (0, 0))] :: Ca0_f0 :: Ca0_f5 :: Ca0_f6 :: Ca0_f7 :: Γ) W) :
    Calls Tryd.prog 68 [.pointer (some ⟨b0, 0, none⟩), .int .i64 a1].toArray W (Ret B (fun v G' Γ' => ∃ (ARp0_0 : Option Addr), ∃ (cRp0_0 : Nat), ∃ (CRp0_0 : Chunk), ∃ (ARp0_1 : Option Addr), ∃ (cRp0_1 : Nat), ∃ (CRp0_1 : Chunk), ∃ (ARp0_2 : Option Addr), ∃ (cRp0_2 : Nat), ∃ (CRp0_2 : Chunk), ∃ (ARp0_3 : Option Addr), ∃ (cRp0_3 : Nat), ∃ (CRp0_3 : Chunk), v = .bool r.1 ∧ Ow (kInt .u8) G' ARp0_0 cRp0_0 r.2.f0 CRp0_0 ∧ Ow (kInt .i64) G' ARp0_1 cRp0_1 r.2.f5 CRp0_1 ∧ Ow (kInt .i64) G' ARp0_2 cRp0_2 r.2.f6 CRp0_2 ∧ Ow k39 G' ARp0_3 cRp0_3 r.2.f7 CRp0_3 ∧ G = G' ∧ [(b0, .cells #[.slice ARp0_0 r.2.f0.length cRp0_0, .int .i64 r.2.f1, .int .i64 r.2.f2, .int .i64 r.2.f3, .int .i64 r.2.f4, .slice ARp0_1 r.2.f5.length cRp0_1, .slice ARp0_2 r.2.f6.length cRp0_2, .slice ARp0_3 r.2.f7.length cRp0_3] 101 (0, 0))] :: CRp0_0 :: CRp0_1 :: CRp0_2 :: CRp0_3 :: Γ = Γ')) := by
  refine calls_WP (Γ := [(b0, .cells #[.slice Aa0_f0 a0.f0.length ca0_f0, .int .i64 a0.f1, .int .i64 a0.f2, .int .i64 a0.f3, .int .i64 a0.f4, .slice Aa0_f5 a0.f5.length ca0_f5, .slice Aa0_f6 a0.f6.length ca0_f6, .slice Aa0_f7 a0.f7.length ca0_f7] 101 (0, 0))] :: Ca0_f0 :: Ca0_f5 :: Ca0_f6 :: Ca0_f7 :: Γ) (G := G) (B := B) Tryd.func68 rfl (by kernel_rfl) ?_ hI
  clear hI
  unfold talk_reader_records at h
  refine WP.seqP [0, 1] (L' := [(0, .pointer (some ⟨b0, 0, none⟩)), (1, .int .i64 a1)]) (by kernel_rfl) ?_
  refine WP.seq ?_
  refine WP.seqP [0, 8, 9] (L' := [(0, .pointer (some ⟨b0, 0, none⟩)), (8, .int .i64 a1), (9, .int .i64 0)]) (by kernel_rfl) ?_
  rw [Option.bind_eq_some_iff] at h
  obtain ⟨os1, h, hk2⟩ := h
  refine WP.cutQ (fun L' G' Γ' => ∃ s1 : T101, Sum.inr s1 = os1 ∧ ∃ (As1_f0 : Option Addr), ∃ (cs1_f0 : Nat), ∃ (Cs1_f0 : Chunk), ∃ (As1_f5 : Option Addr), ∃ (cs1_f5 : Nat), ∃ (Cs1_f5 : Chunk), ∃ (As1_f6 : Option Addr), ∃ (cs1_f6 : Nat), ∃ (Cs1_f6 : Chunk), ∃ (As1_f7 : Option Addr), ∃ (cs1_f7 : Nat), ∃ (Cs1_f7 : Chunk), L' = [(0, .pointer (some ⟨b0, 0, none⟩))] ∧ G = G' ∧ [(b0, .cells #[.slice As1_f0 s1.f0.length cs1_f0, .int .i64 s1.f1, .int .i64 s1.f2, .int .i64 s1.f3, .int .i64 s1.f4, .slice As1_f5 s1.f5.length cs1_f5, .slice As1_f6 s1.f6.length cs1_f6, .slice As1_f7 s1.f7.length cs1_f7] 101 (0, 0))] :: Cs1_f0 :: Cs1_f5 :: Cs1_f6 :: Cs1_f7 :: Γ = Γ' ∧ Ow (kInt .u8) G As1_f0 cs1_f0 s1.f0 Cs1_f0 ∧ Ow (kInt .i64) G As1_f5 cs1_f5 s1.f5 Cs1_f5 ∧ Ow (kInt .i64) G As1_f6 cs1_f6 s1.f6 Cs1_f6 ∧ Ow k39 G As1_f7 cs1_f7 s1.f7 Cs1_f7) ?_ ?_
  · skip
    refine WP.block ?_
    refine WP.pick [0, 8, 9] ?_
    refine WP.loopF (fun kn5 L' G' Γ' => ∃ (y3 : Int), ∃ (y4 : T101), talk_reader_records_l0 a1 kn5 y3 y4 = some os1 ∧ ∃ (Ay4_f0 : Option Addr), ∃ (cy4_f0 : Nat), ∃ (Cy4_f0 : Chunk), ∃ (Ay4_f5 : Option Addr), ∃ (cy4_f5 : Nat), ∃ (Cy4_f5 : Chunk), ∃ (Ay4_f6 : Option Addr), ∃ (cy4_f6 : Nat), ∃ (Cy4_f6 : Chunk), ∃ (Ay4_f7 : Option Addr), ∃ (cy4_f7 : Nat), ∃ (Cy4_f7 : Chunk), L' = [(0, .pointer (some ⟨b0, 0, none⟩)), (8, .int .i64 a1), (9, .int .i64 y3)] ∧ G = G' ∧ [(b0, .cells #[.slice Ay4_f0 y4.f0.length cy4_f0, .int .i64 y4.f1, .int .i64 y4.f2, .int .i64 y4.f3, .int .i64 y4.f4, .slice Ay4_f5 y4.f5.length cy4_f5, .slice Ay4_f6 y4.f6.length cy4_f6, .slice Ay4_f7 y4.f7.length cy4_f7] 101 (0, 0))] :: Cy4_f0 :: Cy4_f5 :: Cy4_f6 :: Cy4_f7 :: Γ = Γ' ∧ Ow (kInt .u8) G Ay4_f0 cy4_f0 y4.f0 Cy4_f0 ∧ Ow (kInt .i64) G Ay4_f5 cy4_f5 y4.f5 Cy4_f5 ∧ Ow (kInt .i64) G Ay4_f6 cy4_f6 y4.f6 Cy4_f6 ∧ Ow k39 G Ay4_f7 cy4_f7 y4.f7 Cy4_f7) ?_ k ⟨0, a0, h, Aa0_f0, ca0_f0, Ca0_f0, Aa0_f5, ca0_f5, Ca0_f5, Aa0_f6, ca0_f6, Ca0_f6, Aa0_f7, ca0_f7, Ca0_f7, rfl, rfl, rfl, Ha0_f0, Ha0_f5, Ha0_f6, Ha0_f7⟩
    clear h
    rintro kn6 _ _ _ ⟨y3, y4, h, Ay4_f0, cy4_f0, Cy4_f0, Ay4_f5, cy4_f5, Cy4_f5, Ay4_f6, cy4_f6, Cy4_f6, Ay4_f7, cy4_f7, Cy4_f7, rfl, rfl, rfl, Hy4_f0, Hy4_f5, Hy4_f6, Hy4_f7⟩
    cases kn6 with
    | zero => exact absurd h (by simp [talk_reader_records_l0])
    | succ kn6 =>
      simp only [talk_reader_records_l0] at h
      refine WP.seqP [0, 8, 9, 10] (L' := [(0, .pointer (some ⟨b0, 0, none⟩)), (8, .int .i64 a1), (9, .int .i64 y3), (10, .bool (decide (y3 < a1)))]) (by kernel_rfl) ?_
      refine WP.seq ?_
      refine WP.cond (b := decide (y3 < a1)) (by kernel_rfl) (fun hc => ?_) (fun hc => ?_)
      · replace hc := of_decide_eq_true hc
        rw [if_pos hc] at h
        have hc7 := hc
        clear hc
        refine WP.skip ?_
        refine QP.next ?_
        refine WP.pick [0, 8, 9] ?_
        refine WP.seq ?_
        refine WP.block ?_
        rw [Option.bind_eq_some_iff] at h
        obtain ⟨os8, h, hk10⟩ := h
        refine WP.cut (fun L' G' Γ' => ∃ s8 : T39 × Int × Bool, s8 = os8 ∧ ∃ (bn9 : Nat), L' = [(0, .pointer (some ⟨b0, 0, none⟩)), (5, .pointer (some ⟨bn9, 0, none⟩)), (6, .int .i64 s8.2.1), (7, .bool s8.2.2), (8, .int .i64 a1), (9, .int .i64 y3)] ∧ G = G' ∧ [(bn9, .cells #[.int .i64 s8.1.f0, .int .i64 s8.1.f1, .int .i64 s8.1.f2, .int .i64 s8.1.f3, .string s8.1.f4] 39 (0, 0))] :: [(b0, .cells #[.slice Ay4_f0 y4.f0.length cy4_f0, .int .i64 y4.f1, .int .i64 y4.f2, .int .i64 y4.f3, .int .i64 y4.f4, .slice Ay4_f5 y4.f5.length cy4_f5, .slice Ay4_f6 y4.f6.length cy4_f6, .slice Ay4_f7 y4.f7.length cy4_f7] 101 (0, 0))] :: Cy4_f0 :: Cy4_f5 :: Cy4_f6 :: Cy4_f7 :: Γ = Γ') ?_ ?_
        · clear hk10
          skip
          refine WP.any (N := 19) (S := [⟨some 12, [0], []⟩, ⟨some 13, [12], [0]⟩, ⟨some 14, [13], [1]⟩, ⟨some 15, [14], [2]⟩, ⟨some 16, [15], [3]⟩, ⟨some 17, [0], []⟩, ⟨some 18, [17], [5]⟩, ⟨some 19, [18], [6]⟩, ⟨some 20, [19], [7]⟩, ⟨some 21, [20], [8]⟩, ⟨some 22, [16, 21], [4, 9]⟩, ⟨some 11, [22], [10]⟩, ⟨some 23, [11], [11]⟩, ⟨some 24, [11], [11]⟩, ⟨some 25, [11], [11]⟩, ⟨some 5, [], []⟩, ⟨none, [5, 23], [0, 1, 2, 3, 4, 5, 6, 7, 8, 9, 10, 11, 12, 15]⟩, ⟨some 6, [24], [0, 1, 2, 3, 4, 5, 6, 7, 8, 9, 10, 11, 12, 13, 15, 16]⟩, ⟨some 7, [25], [0, 1, 2, 3, 4, 5, 6, 7, 8, 9, 10, 11, 12, 13, 14, 15, 16, 17]⟩]) (kw := 16) (G0 := G) (Γ0 := [(b0, .cells #[.slice Ay4_f0 y4.f0.length cy4_f0, .int .i64 y4.f1, .int .i64 y4.f2, .int .i64 y4.f3, .int .i64 y4.f4, .slice Ay4_f5 y4.f5.length cy4_f5, .slice Ay4_f6 y4.f6.length cy4_f6, .slice Ay4_f7 y4.f7.length cy4_f7] 101 (0, 0))] :: Cy4_f0 :: Cy4_f5 :: Cy4_f6 :: Cy4_f7 :: Γ) mo (by kernel_rfl) (fun hS => ?_)
          refine WA.pure [0, 1, 2, 3, 5, 6, 7, 8] [0, 8, 9, 15, 20] (m := 11) (b' := 495) (L' := [(0, .pointer (some ⟨b0, 0, none⟩)), (8, .int .i64 a1), (9, .int .i64 y3), (15, .pointer (some ⟨b0, 0, none⟩)), (20, .pointer (some ⟨b0, 1, none⟩))]) (by kernel_rfl) (NoPanic.then (NoPanic.block (NoPanic.then (NoPanic.then (NoPanic.block (NoPanic.then (NoPanic.then (NoPanic.body)))))))) Under.refl hS (by kernel_rfl) ?_
          refine WA.tellD [16] (i := 4) (m := 10) (b' := 511) (by kernel_rfl) (NoPanic.then (NoPanic.block (NoPanic.then (NoPanic.then (NoPanic.block (NoPanic.then (NoPanic.then (NoPanic.body)))))))) Under.refl hS (by kernel_rfl) (op := .load 22 (.tmp 15)) (ty := 22) (d := some 16) (g := none) (by kernel_rfl) (by kernel_rfl) (by kernel_rfl) (Tells.load_box (i := 0) (b := b0) (o := 0) (agg := false) (by rfl) ag22 (by kernel_rfl) (fun _ => rfl) (Nat.le_of_ble_eq_true rfl) (v := .slice Ay4_f0 y4.f0.length cy4_f0) (by kernel_rfl)) ?_
          refine WA.tellD [16] (i := 9) (m := 9) (b' := 1023) (by kernel_rfl) (NoPanic.then (NoPanic.block (NoPanic.then (NoPanic.then (NoPanic.block (NoPanic.then (NoPanic.then (NoPanic.body)))))))) Under.refl hS (by kernel_rfl) (op := .load 3 (.tmp 20)) (ty := 3) (d := some 21) (g := none) (by kernel_rfl) (by kernel_rfl) (by kernel_rfl) (Tells.load_box (i := 0) (b := b0) (o := 1) (agg := false) (by rfl) ag3 (by kernel_rfl) (fun _ => rfl) (Nat.le_of_ble_eq_true rfl) (v := .int .i64 y4.f1) (by kernel_rfl)) ?_
          refine WA.two (i := 10) (j := 15) (m := 8) (by kernel_rfl) hS (by kernel_rfl) ?_ ?_
          · rw [Option.bind_eq_some_iff] at h
            obtain ⟨t11, ht12, h⟩ := h
            refine WO.op (b' := 2047) (by kernel_rfl) (op := .call { callee := (.value (.func 76)), args := #[(.tmp 16), (.tmp 21)], argTypes := #[22, 3] }) (ty := 106) (d := some 22) (g := none) (by kernel_rfl) (by kernel_rfl) (by kernel_rfl) (Does.call (Φ := fun v' G' Γ' => v' = .tuple #[.agg #[.int .i64 t11.1.f0, .int .i64 t11.1.f1, .int .i64 t11.1.f2, .int .i64 t11.1.f3, .string t11.1.f4], .int .i64 t11.2.1, .bool t11.2.2] ∧ G = G' ∧ [(b0, .cells #[.slice Ay4_f0 y4.f0.length cy4_f0, .int .i64 y4.f1, .int .i64 y4.f2, .int .i64 y4.f3, .int .i64 y4.f4, .slice Ay4_f5 y4.f5.length cy4_f5, .slice Ay4_f6 y4.f6.length cy4_f6, .slice Ay4_f7 y4.f7.length cy4_f7] 101 (0, 0))] :: Cy4_f0 :: Cy4_f5 :: Cy4_f6 :: Cy4_f7 :: Γ = Γ') (f := 76) (args := [.slice Ay4_f0 y4.f0.length cy4_f0, .int .i64 y4.f1]) (by kernel_rfl) (fun W hI => (Calls.lendN (Φ := fun v' N => v' = .tuple #[.agg #[.int .i64 t11.1.f0, .int .i64 t11.1.f1, .int .i64 t11.1.f2, .int .i64 t11.1.f3, .string t11.1.f4], .int .i64 t11.2.1, .bool t11.2.2] ∧ N = []) (H := []) (i := 1) rfl hI (fun _ e l15 nl15 hI => by subst e; exact (((record_Read_calls (HT.mono l15) kn6 y4.f0 y4.f1 Ay4_f0 cy4_f0 (Hy4_f0.rdN l15 nl15) t11 ht12 hI)).mono fun _ _ hr => by obtain ⟨_, _, _, rfl, hd, hI⟩ := hr; obtain ⟨rfl, rfl, rfl⟩ := hd; exact ⟨_, _, _, rfl, ⟨[], ⟨rfl, rfl⟩, rfl, rfl⟩, hI⟩))).mono fun _ _ hr => by obtain ⟨_, _, _, rfl, ⟨_, hd, rfl, rfl⟩, hI⟩ := hr; obtain ⟨rfl, rfl⟩ := hd; exact ⟨_, _, _, rfl, ⟨rfl, rfl, rfl⟩, hI⟩)) ?_
            rintro _ _ _ ⟨rfl, rfl, rfl⟩
            refine ⟨_, _, Under.refl, Under.refl, ?_⟩
            refine WA.pure [11, 12, 13, 14] [0, 8, 9, 23, 24, 25] (m := 4) (b' := 32767) (L' := [(0, .pointer (some ⟨b0, 0, none⟩)), (8, .int .i64 a1), (9, .int .i64 y3), (23, .agg #[.int .i64 t11.1.f0, .int .i64 t11.1.f1, .int .i64 t11.1.f2, .int .i64 t11.1.f3, .string t11.1.f4]), (24, .int .i64 t11.2.1), (25, .bool t11.2.2)]) (by kernel_rfl) (NoPanic.then (NoPanic.block (NoPanic.then (NoPanic.then (NoPanic.block (NoPanic.then (NoPanic.then (NoPanic.body)))))))) Under.refl hS (by kernel_rfl) ?_
            refine WA.op (i := 15) (m := 3) (b' := 65535) (by kernel_rfl) hS (by kernel_rfl) (op := .alloc 39) (ty := 0) (d := some 5) (g := none) (by kernel_rfl) (by kernel_rfl) (by kernel_rfl) (Does.new (o := .cells #[.int .i64 0, .int .i64 0, .int .i64 0, .int .i64 0, .string (⟨#[]⟩ : ByteArray)] 39 (0, 0)) (v := fun r => .pointer (some ⟨r, 0, none⟩)) (fun r => by kernel_rfl)) ?_
            rintro _ _ _ ⟨b16, rfl, rfl, rfl⟩
            refine ⟨_, _, Under.cons Under.refl, Under.refl, ?_⟩
            refine WA.opK (i := 16) (kw' := 19) (m := 2) (b' := 131071) (by kernel_rfl) rfl hS (by kernel_rfl) (op := .store 39 (.tmp 5) (.tmp 23)) (ty := 0) (d := none) (g := none) (by kernel_rfl) (by kernel_rfl) (by kernel_rfl) (Does.store_box (i := 0) (b := b16) (o := 0) (v := .agg #[.int .i64 t11.1.f0, .int .i64 t11.1.f1, .int .i64 t11.1.f2, .int .i64 t11.1.f3, .string t11.1.f4]) (by rfl) sz39 (by kernel_rfl) (by kernel_rfl) (by kernel_rfl) (Free.zero _) (Nat.le_of_ble_eq_true rfl) (cells' := #[.int .i64 t11.1.f0, .int .i64 t11.1.f1, .int .i64 t11.1.f2, .int .i64 t11.1.f3, .string t11.1.f4]) (by kernel_rfl)) ?_
            rintro _ _ _ ⟨rfl, rfl, rfl⟩
            refine ⟨_, _, Under.refl, ?_⟩
            refine WA.pure [17, 18] [0, 5, 6, 7, 8, 9] (m := 0) (b' := 524287) (L' := [(0, .pointer (some ⟨b0, 0, none⟩)), (5, .pointer (some ⟨b16, 0, none⟩)), (6, .int .i64 t11.2.1), (7, .bool t11.2.2), (8, .int .i64 a1), (9, .int .i64 y3)]) (by kernel_rfl) (NoPanic.then (NoPanic.block (NoPanic.then (NoPanic.then (NoPanic.block (NoPanic.then (NoPanic.then (NoPanic.body)))))))) Under.refl hS (by kernel_rfl) ?_
            refine WA.done hS (by kernel_rfl) ?_
            refine QP.pick [0, 5, 6, 7, 8, 9] ?_
            refine QP.pick [0, 5, 6, 7, 8, 9] ?_
            exact QP.meet ⟨_, Option.some.inj h, b16, rfl, rfl, rfl⟩
          · refine WO.op (b' := 33791) (by kernel_rfl) (op := .alloc 39) (ty := 0) (d := some 5) (g := none) (by kernel_rfl) (by kernel_rfl) (by kernel_rfl) (Does.new (o := .cells #[.int .i64 0, .int .i64 0, .int .i64 0, .int .i64 0, .string (⟨#[]⟩ : ByteArray)] 39 (0, 0)) (v := fun r => .pointer (some ⟨r, 0, none⟩)) (fun r => by kernel_rfl)) ?_
            rintro _ _ _ ⟨b11, rfl, rfl, rfl⟩
            refine ⟨_, _, Under.cons Under.refl, Under.refl, ?_⟩
            rw [Option.bind_eq_some_iff] at h
            obtain ⟨t12, ht13, h⟩ := h
            refine WA.op (i := 10) (m := 7) (b' := 34815) (by kernel_rfl) hS (by kernel_rfl) (op := .call { callee := (.value (.func 76)), args := #[(.tmp 16), (.tmp 21)], argTypes := #[22, 3] }) (ty := 106) (d := some 22) (g := none) (by kernel_rfl) (by kernel_rfl) (by kernel_rfl) (Does.call (Φ := fun v' G' Γ' => v' = .tuple #[.agg #[.int .i64 t12.1.f0, .int .i64 t12.1.f1, .int .i64 t12.1.f2, .int .i64 t12.1.f3, .string t12.1.f4], .int .i64 t12.2.1, .bool t12.2.2] ∧ G = G' ∧ [(b11, .cells #[.int .i64 0, .int .i64 0, .int .i64 0, .int .i64 0, .string (⟨#[]⟩ : ByteArray)] 39 (0, 0))] :: [(b0, .cells #[.slice Ay4_f0 y4.f0.length cy4_f0, .int .i64 y4.f1, .int .i64 y4.f2, .int .i64 y4.f3, .int .i64 y4.f4, .slice Ay4_f5 y4.f5.length cy4_f5, .slice Ay4_f6 y4.f6.length cy4_f6, .slice Ay4_f7 y4.f7.length cy4_f7] 101 (0, 0))] :: Cy4_f0 :: Cy4_f5 :: Cy4_f6 :: Cy4_f7 :: Γ = Γ') (f := 76) (args := [.slice Ay4_f0 y4.f0.length cy4_f0, .int .i64 y4.f1]) (by kernel_rfl) (fun W hI => (Calls.lendN (Φ := fun v' N => v' = .tuple #[.agg #[.int .i64 t12.1.f0, .int .i64 t12.1.f1, .int .i64 t12.1.f2, .int .i64 t12.1.f3, .string t12.1.f4], .int .i64 t12.2.1, .bool t12.2.2] ∧ N = []) (H := []) (i := 2) rfl hI (fun _ e l16 nl16 hI => by subst e; exact (((record_Read_calls (HT.mono l16) kn6 y4.f0 y4.f1 Ay4_f0 cy4_f0 (Hy4_f0.rdN l16 nl16) t12 ht13 hI)).mono fun _ _ hr => by obtain ⟨_, _, _, rfl, hd, hI⟩ := hr; obtain ⟨rfl, rfl, rfl⟩ := hd; exact ⟨_, _, _, rfl, ⟨[], ⟨rfl, rfl⟩, rfl, rfl⟩, hI⟩))).mono fun _ _ hr => by obtain ⟨_, _, _, rfl, ⟨_, hd, rfl, rfl⟩, hI⟩ := hr; obtain ⟨rfl, rfl⟩ := hd; exact ⟨_, _, _, rfl, ⟨rfl, rfl, rfl⟩, hI⟩)) ?_
            rintro _ _ _ ⟨rfl, rfl, rfl⟩
            refine ⟨_, _, Under.refl, Under.refl, ?_⟩
            refine WA.pure [11, 12, 13, 14] [0, 5, 8, 9, 23, 24, 25] (m := 3) (b' := 65535) (L' := [(0, .pointer (some ⟨b0, 0, none⟩)), (5, .pointer (some ⟨b11, 0, none⟩)), (8, .int .i64 a1), (9, .int .i64 y3), (23, .agg #[.int .i64 t12.1.f0, .int .i64 t12.1.f1, .int .i64 t12.1.f2, .int .i64 t12.1.f3, .string t12.1.f4]), (24, .int .i64 t12.2.1), (25, .bool t12.2.2)]) (by kernel_rfl) (NoPanic.then (NoPanic.block (NoPanic.then (NoPanic.then (NoPanic.block (NoPanic.then (NoPanic.then (NoPanic.body)))))))) Under.refl hS (by kernel_rfl) ?_
            refine WA.opK (i := 16) (kw' := 19) (m := 2) (b' := 131071) (by kernel_rfl) rfl hS (by kernel_rfl) (op := .store 39 (.tmp 5) (.tmp 23)) (ty := 0) (d := none) (g := none) (by kernel_rfl) (by kernel_rfl) (by kernel_rfl) (Does.store_box (i := 0) (b := b11) (o := 0) (v := .agg #[.int .i64 t12.1.f0, .int .i64 t12.1.f1, .int .i64 t12.1.f2, .int .i64 t12.1.f3, .string t12.1.f4]) (by rfl) sz39 (by kernel_rfl) (by kernel_rfl) (by kernel_rfl) (Free.zero _) (Nat.le_of_ble_eq_true rfl) (cells' := #[.int .i64 t12.1.f0, .int .i64 t12.1.f1, .int .i64 t12.1.f2, .int .i64 t12.1.f3, .string t12.1.f4]) (by kernel_rfl)) ?_
            rintro _ _ _ ⟨rfl, rfl, rfl⟩
            refine ⟨_, _, Under.refl, ?_⟩
            refine WA.pure [17, 18] [0, 5, 6, 7, 8, 9] (m := 0) (b' := 524287) (L' := [(0, .pointer (some ⟨b0, 0, none⟩)), (5, .pointer (some ⟨b11, 0, none⟩)), (6, .int .i64 t12.2.1), (7, .bool t12.2.2), (8, .int .i64 a1), (9, .int .i64 y3)]) (by kernel_rfl) (NoPanic.then (NoPanic.block (NoPanic.then (NoPanic.then (NoPanic.block (NoPanic.then (NoPanic.then (NoPanic.body)))))))) Under.refl hS (by kernel_rfl) ?_
            refine WA.done hS (by kernel_rfl) ?_
            refine QP.pick [0, 5, 6, 7, 8, 9] ?_
            refine QP.pick [0, 5, 6, 7, 8, 9] ?_
            exact QP.meet ⟨_, Option.some.inj h, b11, rfl, rfl, rfl⟩
        · rintro _ _ _ ⟨s8, rfl, bn9, rfl, rfl, rfl⟩
          clear h
          replace h := hk10
          refine WP.seq ?_
          refine WP.seqP [0, 5, 6, 8, 9, 27] (L' := [(0, .pointer (some ⟨b0, 0, none⟩)), (5, .pointer (some ⟨bn9, 0, none⟩)), (6, .int .i64 s8.2.1), (8, .int .i64 a1), (9, .int .i64 y3), (27, .bool (!s8.2.2))]) (by kernel_rfl) ?_
          refine WP.cond (b := (!s8.2.2)) (by kernel_rfl) (fun hc => ?_) (fun hc => ?_)
          · replace hc := hc
            rw [if_pos hc] at h
            have hc17 := hc
            clear hc
            refine WP.seqP [4] (L' := [(4, .bool false)]) (by kernel_rfl) ?_
            refine WP.dropAt 0 ?_
            refine WP.ret ?_
            refine QP.thenR ?_
            refine QP.blockR ?_
            refine QP.thenR ?_
            refine QP.thenR ?_
            refine QP.blockR ?_
            refine QP.thenR ?_
            refine QP.thenR ?_
            obtain rfl := Option.some.inj h
            obtain rfl := Option.some.inj (show some _ = some _ from hk2)
            exact QP.returned [4] [.bool false] _ (by kernel_rfl) (by kernel_rfl) (by kernel_rfl) (fun W hI => ⟨_, _, _, rfl, ⟨Ay4_f0, cy4_f0, Cy4_f0, Ay4_f5, cy4_f5, Cy4_f5, Ay4_f6, cy4_f6, Cy4_f6, Ay4_f7, cy4_f7, Cy4_f7, rfl, Hy4_f0, Hy4_f5, Hy4_f6, Hy4_f7, rfl, rfl⟩, hI⟩)
          · replace hc := (Bool.eq_false_iff.1 hc)
            rw [if_neg hc] at h
            have hc17 := hc
            clear hc
            refine WP.skip ?_
            refine QP.next ?_
            refine WP.pick [0, 5, 6, 8, 9] ?_
            refine WP.seq ?_
            refine WP.any (N := 13) (S := [⟨some 28, [0], []⟩, ⟨some 29, [0], []⟩, ⟨some 30, [29], [1]⟩, ⟨some 31, [30], [2]⟩, ⟨some 32, [31], [3]⟩, ⟨some 33, [32], [4]⟩, ⟨some 34, [5], []⟩, ⟨some 35, [34], [6]⟩, ⟨some 36, [33, 35], [5, 7]⟩, ⟨some 37, [28], [0, 1, 2, 3, 4, 5, 6, 7, 8]⟩, ⟨some 38, [37], [0, 1, 2, 3, 4, 5, 6, 7, 8, 9]⟩, ⟨some 39, [38], [0, 1, 2, 3, 4, 5, 6, 7, 8, 10]⟩, ⟨none, [36, 39], [0, 1, 2, 3, 4, 5, 6, 7, 8, 11]⟩]) (kw := 8) (G0 := G) (Γ0 := [(bn9, .cells #[.int .i64 s8.1.f0, .int .i64 s8.1.f1, .int .i64 s8.1.f2, .int .i64 s8.1.f3, .string s8.1.f4] 39 (0, 0))] :: [(b0, .cells #[.slice Ay4_f0 y4.f0.length cy4_f0, .int .i64 y4.f1, .int .i64 y4.f2, .int .i64 y4.f3, .int .i64 y4.f4, .slice Ay4_f5 y4.f5.length cy4_f5, .slice Ay4_f6 y4.f6.length cy4_f6, .slice Ay4_f7 y4.f7.length cy4_f7] 101 (0, 0))] :: Cy4_f0 :: Cy4_f5 :: Cy4_f6 :: Cy4_f7 :: Γ) mo (by kernel_rfl) (fun hS => ?_)
            refine WA.pure [0, 1, 2, 3, 4] [0, 5, 6, 8, 9, 28, 32] (m := 8) (b' := 31) (L' := [(0, .pointer (some ⟨b0, 0, none⟩)), (5, .pointer (some ⟨bn9, 0, none⟩)), (6, .int .i64 s8.2.1), (8, .int .i64 a1), (9, .int .i64 y3), (28, .pointer (some ⟨b0, 0, none⟩)), (32, .pointer (some ⟨b0, 7, none⟩))]) (by kernel_rfl) (NoPanic.then (NoPanic.block (NoPanic.then (NoPanic.then (NoPanic.block (NoPanic.then (NoPanic.then (NoPanic.body)))))))) Under.refl hS (by kernel_rfl) ?_
            refine WA.tellD [8] (i := 5) (m := 7) (b' := 63) (by kernel_rfl) (NoPanic.then (NoPanic.block (NoPanic.then (NoPanic.then (NoPanic.block (NoPanic.then (NoPanic.then (NoPanic.body)))))))) Under.refl hS (by kernel_rfl) (op := .load 52 (.tmp 32)) (ty := 52) (d := some 33) (g := none) (by kernel_rfl) (by kernel_rfl) (by kernel_rfl) (Tells.load_box (i := 1) (b := b0) (o := 7) (agg := false) (by rfl) ag52 (by kernel_rfl) (fun _ => rfl) (Nat.le_of_ble_eq_true rfl) (v := .slice Ay4_f7 y4.f7.length cy4_f7) (by kernel_rfl)) ?_
            refine WA.tellD [8, 7] (i := 6) (m := 6) (b' := 127) (by kernel_rfl) (NoPanic.then (NoPanic.block (NoPanic.then (NoPanic.then (NoPanic.block (NoPanic.then (NoPanic.then (NoPanic.body)))))))) Under.refl hS (by kernel_rfl) (op := .load 39 (.tmp 5)) (ty := 39) (d := some 34) (g := none) (by kernel_rfl) (by kernel_rfl) (by kernel_rfl) (Tells.load_box (i := 0) (b := bn9) (o := 0) (agg := true) (by rfl) ag39 (by kernel_rfl) (fun h => by cases h) (Nat.le_of_ble_eq_true rfl) (v := .agg #[.int .i64 s8.1.f0, .int .i64 s8.1.f1, .int .i64 s8.1.f2, .int .i64 s8.1.f3, .string s8.1.f4]) (by kernel_rfl)) ?_
            refine WA.op (i := 7) (m := 5) (b' := 255) (by kernel_rfl) hS (by kernel_rfl) (op := .buildSlice 52 1 #[(0, (.tmp 34))]) (ty := 52) (d := some 35) (g := none) (by kernel_rfl) (by kernel_rfl) (by kernel_rfl) (Does.new (o := .cells #[.int .i64 s8.1.f0, .int .i64 s8.1.f1, .int .i64 s8.1.f2, .int .i64 s8.1.f3, .string s8.1.f4] 39 (0, 0)) (v := fun r => .slice (some ⟨r, 0, none⟩) 1 1) (fun r => by kernel_rfl)) ?_
            rintro _ _ _ ⟨b18, rfl, rfl, rfl⟩
            refine ⟨_, _, Under.cons Under.refl, Under.refl, ?_⟩
            have Ho20 : Ow k39 G (some ⟨b18, 0, none⟩) 1 ([s8.1] : List T39) [(b18, .cells #[.int .i64 s8.1.f0, .int .i64 s8.1.f1, .int .i64 s8.1.f2, .int .i64 s8.1.f3, .string s8.1.f4] 39 (0, 0))] := Ow.lit (kd := k39) (G := G) (b := b18) (T := 39) (xs := ([s8.1] : List T39)) (cs := [.int .i64 s8.1.f0, .int .i64 s8.1.f1, .int .i64 s8.1.f2, .int .i64 s8.1.f3, .string s8.1.f4]) (.cons (x := s8.1) (cs := [.int .i64 s8.1.f0, .int .i64 s8.1.f1, .int .i64 s8.1.f2, .int .i64 s8.1.f3, .string s8.1.f4]) (by exact rfl) .nil)
            by_cases hb21 : y4.f7.length + ([s8.1] : List T39).length ≤ 1073741824
            case neg => rw [if_neg hb21] at h; cases h
            rw [if_pos hb21] at h
            refine WA.opK (i := 8) (kw' := 12) (m := 4) (b' := 511) (by kernel_rfl) rfl hS (by kernel_rfl) (op := .call { callee := (.builtin .append), args := #[(.tmp 33), (.tmp 35)], argTypes := #[52, 52] }) (ty := 52) (d := some 36) (g := none) (by kernel_rfl) (by kernel_rfl) (by kernel_rfl) (Ow.append (ys := ([s8.1] : List T39)) (v := .slice (some ⟨b18, 0, none⟩) ([s8.1] : List T39).length 1) Hy4_f7 (i := 6) rfl (by kernel_rfl) (by kernel_rfl) (Ho20.src (i := 0) rfl) sl52 ze39 nt52 (by decide) hb21) ?_
            rintro _ _ _ ⟨rfl, AN22, cN22, CN22, rfl, HN22, rfl⟩
            refine ⟨_, _, Under.refl, ?_⟩
            refine WA.pure [9, 10, 11] [0, 6, 8, 9, 36, 39] (m := 1) (b' := 4095) (L' := [(0, .pointer (some ⟨b0, 0, none⟩)), (6, .int .i64 s8.2.1), (8, .int .i64 a1), (9, .int .i64 y3), (36, .slice AN22 (y4.f7 ++ ([s8.1] : List T39)).length cN22), (39, .pointer (some ⟨b0, 7, none⟩))]) (by kernel_rfl) (NoPanic.then (NoPanic.block (NoPanic.then (NoPanic.then (NoPanic.block (NoPanic.then (NoPanic.then (NoPanic.body)))))))) Under.refl hS (by kernel_rfl) ?_
            refine WA.opK (i := 12) (kw' := 13) (m := 0) (b' := 8191) (by kernel_rfl) rfl hS (by kernel_rfl) (op := .store 52 (.tmp 39) (.tmp 36)) (ty := 0) (d := none) (g := none) (by kernel_rfl) (by kernel_rfl) (by kernel_rfl) (Does.store_box (i := 2) (b := b0) (o := 7) (v := .slice AN22 (y4.f7 ++ ([s8.1] : List T39)).length cN22) (by rfl) sz52 (by kernel_rfl) (by kernel_rfl) (by kernel_rfl) (Free.zero _) (Nat.le_of_ble_eq_true rfl) (cells' := #[.slice Ay4_f0 y4.f0.length cy4_f0, .int .i64 y4.f1, .int .i64 y4.f2, .int .i64 y4.f3, .int .i64 y4.f4, .slice Ay4_f5 y4.f5.length cy4_f5, .slice Ay4_f6 y4.f6.length cy4_f6, .slice AN22 (y4.f7 ++ ([s8.1] : List T39)).length cN22]) (by kernel_rfl)) ?_
            rintro _ _ _ ⟨rfl, rfl, rfl⟩
            refine ⟨_, _, Under.refl, ?_⟩
            refine WA.done hS (by kernel_rfl) ?_
            refine QP.pick [0, 6, 8, 9] ?_
            refine QP.next ?_
            refine WP.dropAt 1 ?_
            refine WP.dropAt 0 ?_
            refine WP.region ?_
            refine WL.pure 0 5 [0, 8, 9, 41, 44] (L' := [(0, .pointer (some ⟨b0, 0, none⟩)), (8, .int .i64 a1), (9, .int .i64 y3), (41, .int .i64 s8.2.1), (44, .pointer (some ⟨b0, 1, none⟩))]) (by kernel_rfl) (by decide) ?_
            refine WL.op (op := .store 3 (.tmp 44) (.tmp 41)) (ty := 0) (d := none) (g := none) (by kernel_rfl) (by kernel_rfl) (by kernel_rfl) (Does.store_box (i := 0) (b := b0) (o := 1) (v := .int .i64 s8.2.1) (by rfl) sz3 (by kernel_rfl) (by kernel_rfl) (by kernel_rfl) (Free.zero _) (Nat.le_of_ble_eq_true rfl) (cells' := #[.slice Ay4_f0 y4.f0.length cy4_f0, .int .i64 s8.2.1, .int .i64 y4.f2, .int .i64 y4.f3, .int .i64 y4.f4, .slice Ay4_f5 y4.f5.length cy4_f5, .slice Ay4_f6 y4.f6.length cy4_f6, .slice AN22 (y4.f7 ++ ([s8.1] : List T39)).length cN22]) (by kernel_rfl)) ?_
            rintro _ _ _ ⟨rfl, rfl, rfl⟩
            refine WL.rest 6 [0, 8, 9] (L' := [(0, .pointer (some ⟨b0, 0, none⟩)), (8, .int .i64 a1), (9, .int .i64 y3)]) (by kernel_rfl) ?_
            refine QP.blockN ?_
            refine QP.next ?_
            refine WP.pick [0, 8, 9] ?_
            refine WP.regionP [0, 8, 9] (L' := [(0, .pointer (some ⟨b0, 0, none⟩)), (8, .int .i64 a1), (9, .int .i64 (IntKind.i64.wrap (y3 + 1)))]) (by kernel_rfl) ?_
            refine QP.front (i := 4) rfl ?_
            refine QP.front (i := 4) rfl ?_
            refine QP.front (i := 4) rfl ?_
            refine QP.front (i := 4) rfl ?_
            refine QP.front (i := 4) rfl ?_
            refine QP.pick [0, 8, 9] ?_
            exact QP.meet ⟨kn6, Nat.lt_succ_self _, (IntKind.i64.wrap (y3 + 1)), (⟨y4.f0, s8.2.1, y4.f2, y4.f3, y4.f4, y4.f5, y4.f6, (y4.f7 ++ ([s8.1] : List T39))⟩ : T101), h, Ay4_f0, cy4_f0, Cy4_f0, Ay4_f5, cy4_f5, Cy4_f5, Ay4_f6, cy4_f6, Cy4_f6, AN22, cN22, CN22, rfl, rfl, rfl, Hy4_f0, Hy4_f5, Hy4_f6, HN22⟩
      · replace hc := of_decide_eq_false hc
        rw [if_neg hc] at h
        have hc7 := hc
        clear hc
        refine WP.exit ?_
        refine QP.thenE ?_
        refine QP.thenE ?_
        refine QP.blockE ?_
        refine QP.pick [0] ?_
        exact QP.meet ⟨_, Option.some.inj h, Ay4_f0, cy4_f0, Cy4_f0, Ay4_f5, cy4_f5, Cy4_f5, Ay4_f6, cy4_f6, Cy4_f6, Ay4_f7, cy4_f7, Cy4_f7, rfl, rfl, rfl, Hy4_f0, Hy4_f5, Hy4_f6, Hy4_f7⟩
  · rintro _ _ _ ⟨s1, rfl, As1_f0, cs1_f0, Cs1_f0, As1_f5, cs1_f5, Cs1_f5, As1_f6, cs1_f6, Cs1_f6, As1_f7, cs1_f7, Cs1_f7, rfl, rfl, rfl, Hs1_f0, Hs1_f5, Hs1_f6, Hs1_f7⟩
    clear h
    replace h := hk2
    refine QP.next ?_
    refine WP.pick [0] ?_
    refine WP.seq ?_
    refine WP.any (N := 13) (S := [⟨some 46, [0], []⟩, ⟨some 47, [46], [0]⟩, ⟨some 48, [47], [1]⟩, ⟨some 49, [48], [2]⟩, ⟨some 50, [49], [3]⟩, ⟨some 51, [0], []⟩, ⟨some 52, [51], [5]⟩, ⟨some 53, [52], [6]⟩, ⟨some 54, [53], [7]⟩, ⟨some 55, [54], [8]⟩, ⟨some 56, [55], [9]⟩, ⟨some 57, [50, 56], [4, 10]⟩, ⟨some 4, [57], [0, 1, 2, 3, 4, 5, 6, 7, 8, 9, 10, 11]⟩]) (kw := 13) (G0 := G) (Γ0 := [(b0, .cells #[.slice As1_f0 s1.f0.length cs1_f0, .int .i64 s1.f1, .int .i64 s1.f2, .int .i64 s1.f3, .int .i64 s1.f4, .slice As1_f5 s1.f5.length cs1_f5, .slice As1_f6 s1.f6.length cs1_f6, .slice As1_f7 s1.f7.length cs1_f7] 101 (0, 0))] :: Cs1_f0 :: Cs1_f5 :: Cs1_f6 :: Cs1_f7 :: Γ) mo (by kernel_rfl) (fun hS => ?_)
    refine WA.pure [0, 1, 2, 3, 5, 6, 7, 8] [49, 54] (m := 5) (b' := 495) (L' := [(49, .pointer (some ⟨b0, 1, none⟩)), (54, .pointer (some ⟨b0, 0, none⟩))]) (by kernel_rfl) (NoPanic.then (NoPanic.body)) Under.refl hS (by kernel_rfl) ?_
    refine WA.tellD [] (i := 4) (m := 4) (b' := 511) (by kernel_rfl) (NoPanic.then (NoPanic.body)) Under.refl hS (by kernel_rfl) (op := .load 3 (.tmp 49)) (ty := 3) (d := some 50) (g := none) (by kernel_rfl) (by kernel_rfl) (by kernel_rfl) (Tells.load_box (i := 0) (b := b0) (o := 1) (agg := false) (by rfl) ag3 (by kernel_rfl) (fun _ => rfl) (Nat.le_of_ble_eq_true rfl) (v := .int .i64 s1.f1) (by kernel_rfl)) ?_
    refine WA.tellD [] (i := 9) (m := 3) (b' := 1023) (by kernel_rfl) (NoPanic.then (NoPanic.body)) Under.refl hS (by kernel_rfl) (op := .load 22 (.tmp 54)) (ty := 22) (d := some 55) (g := none) (by kernel_rfl) (by kernel_rfl) (by kernel_rfl) (Tells.load_box (i := 0) (b := b0) (o := 0) (agg := false) (by rfl) ag22 (by kernel_rfl) (fun _ => rfl) (Nat.le_of_ble_eq_true rfl) (v := .slice As1_f0 s1.f0.length cs1_f0) (by kernel_rfl)) ?_
    refine WA.pure [10, 11, 12] [4] (m := 0) (b' := 8191) (L' := [(4, .bool (s1.f1 == (s1.f0.length : Int)))]) (by kernel_rfl) (NoPanic.then (NoPanic.body)) Under.refl hS (by kernel_rfl) ?_
    refine WA.done hS (by kernel_rfl) ?_
    refine QP.pick [4] ?_
    refine QP.next ?_
    refine WP.ret ?_
    obtain rfl := Option.some.inj h
    exact QP.returned [4] [.bool (s1.f1 == (s1.f0.length : Int))] _ (by kernel_rfl) (by kernel_rfl) (by kernel_rfl) (fun W hI => ⟨_, _, _, rfl, ⟨As1_f0, cs1_f0, Cs1_f0, As1_f5, cs1_f5, Cs1_f5, As1_f6, cs1_f6, Cs1_f6, As1_f7, cs1_f7, Cs1_f7, rfl, Hs1_f0, Hs1_f5, Hs1_f6, Hs1_f7, rfl, rfl⟩, hI⟩)

/-! ### grapevine/talk.Read: function 34 -/
def talk_Read (k : Nat) (l0 : List Int) (a1 : Int) : Option (T54 × Int) := ((frame_Next k l0 0).bind fun t2 => ((if (!t2.2.2.2) = true then some true else (if ¬ t2.2.2.1 = (l0.length : Int) then some true else (if a1 < 1 then some true else some (decide (a1 > 8))))).bind fun s6 => (if s6 = true then some ((⟨0, 0, 0, ([] : List Int), ([] : List Int), ([] : List T39)⟩ : T54), 12) else ((talk_letter_number k (⟨t2.2.1, 0, t2.1, 0, 0, ([] : List Int), ([] : List Int), ([] : List T39)⟩ : T101) 1).bind fun t13 => ((talk_letter_number k t13.2 1).bind fun t17 => ((talk_letter_number k (⟨t17.2.f0, t17.2.f1, t17.2.f2, t13.1, t17.1, t17.2.f5, t17.2.f6, t17.2.f7⟩ : T101) 1).bind fun t21 => ((talk_letter_vector k t21.2 a1).bind fun t25 => ((talk_letter_vector k t25.2 a1).bind fun t29 => ((if ¬ t21.1 = a1 then some (true, (⟨t29.2.f0, t29.2.f1, t29.2.f2, t29.2.f3, t29.2.f4, t25.1, t29.1, t29.2.f7⟩ : T101)) else ((talk_letter_number k (⟨t29.2.f0, t29.2.f1, t29.2.f2, t29.2.f3, t29.2.f4, t25.1, t29.1, t29.2.f7⟩ : T101) 1).bind fun t36 => ((talk_reader_records k t36.2 t36.1).bind fun t40 => (if (!t40.1) = true then some (true, t40.2) else ((talk_May k (⟨t40.2.f2, t40.2.f3, t40.2.f4, t40.2.f5, t40.2.f6, t40.2.f7⟩ : T54) a1).bind fun t45 => some ((!t45), t40.2)))))).bind fun s33 => (if s33.1 = true then some ((⟨0, 0, 0, ([] : List Int), ([] : List Int), ([] : List T39)⟩ : T54), 12) else some ((⟨s33.2.f2, s33.2.f3, s33.2.f4, s33.2.f5, s33.2.f6, s33.2.f7⟩ : T54), 0)))))))))))
set_option maxHeartbeats 4000000 in
theorem talk_Read_calls {B : World} {G : GMap} {Γ : List Chunk} {W : World} (HT : Tabs B G) (k : Nat) (l0 : List Int) (a1 : Int) (Al0 : Option Addr) (cl0 : Nat) (Hl0 : Rd (kInt .u8) G Al0 cl0 l0) (r : T54 × Int) (h : talk_Read k l0 a1 = some r) (hI : Inv B G (Γ) W) :
    Calls Tryd.prog 34 [.slice Al0 l0.length cl0, .int .i64 a1].toArray W (Ret B (fun v G' Γ' => ∃ (AR0_0 : Option Addr), ∃ (cR0_0 : Nat), ∃ (CR0_0 : Chunk), ∃ (AR0_1 : Option Addr), ∃ (cR0_1 : Nat), ∃ (CR0_1 : Chunk), ∃ (AR0_2 : Option Addr), ∃ (cR0_2 : Nat), ∃ (CR0_2 : Chunk), v = .tuple #[.agg #[.int .i64 r.1.f0, .int .i64 r.1.f1, .int .i64 r.1.f2, .slice AR0_0 r.1.f3.length cR0_0, .slice AR0_1 r.1.f4.length cR0_1, .slice AR0_2 r.1.f5.length cR0_2], .int .i64 r.2] ∧ Ow (kInt .i64) G' AR0_0 cR0_0 r.1.f3 CR0_0 ∧ Ow (kInt .i64) G' AR0_1 cR0_1 r.1.f4 CR0_1 ∧ Ow k39 G' AR0_2 cR0_2 r.1.f5 CR0_2 ∧ G = G' ∧ CR0_0 :: CR0_1 :: CR0_2 :: Γ = Γ')) := by
  refine calls_WP (Γ := Γ) (G := G) (B := B) Tryd.func34 rfl (by kernel_rfl) ?_ hI
  clear hI
  unfold talk_Read at h
  refine WP.seqR ?_
  refine WL.op (op := .alloc 54) (ty := 0) (d := some 4) (g := none) (by kernel_rfl) (by kernel_rfl) (by kernel_rfl) (Does.new (o := .cells #[.int .i64 0, .int .i64 0, .int .i64 0, .slice none 0 0, .slice none 0 0, .slice none 0 0] 54 (0, 0)) (v := fun r => .pointer (some ⟨r, 0, none⟩)) (fun r => by kernel_rfl)) ?_
  rintro _ _ _ ⟨b1, rfl, rfl, rfl⟩
  refine WL.restQ 1 [0, 1, 4] (L' := [(0, .slice Al0 l0.length cl0), (1, .int .i64 a1), (4, .pointer (some ⟨b1, 0, none⟩))]) (by kernel_rfl) ?_
  refine WP.seqR ?_
  refine WL.pure 0 1 [0, 1, 4, 13] (L' := [(0, .slice Al0 l0.length cl0), (1, .int .i64 a1), (4, .pointer (some ⟨b1, 0, none⟩)), (13, .slice Al0 l0.length cl0)]) (by kernel_rfl) (by decide) ?_
  rw [Option.bind_eq_some_iff] at h
  obtain ⟨t2, ht3, h⟩ := h
  refine WL.op (op := .call { callee := (.value (.func 38)), args := #[(.tmp 13), (.const (.int .i64 0))], argTypes := #[22, 3] }) (ty := 47) (d := some 14) (g := none) (by kernel_rfl) (by kernel_rfl) (by kernel_rfl) (Does.call (f := 38) (args := [.slice Al0 l0.length cl0, .int .i64 0]) (by kernel_rfl) (fun W hI => (frame_Next_calls k l0 0 Al0 cl0 Hl0 t2 ht3 hI))) ?_
  rintro _ _ _ ⟨AR41, cR41, CR41, rfl, HR41, rfl, rfl⟩
  refine WL.restQ 2 [0, 1, 4, 6, 7, 8, 9] (L' := [(0, .slice Al0 l0.length cl0), (1, .int .i64 a1), (4, .pointer (some ⟨b1, 0, none⟩)), (6, .int .i64 t2.1), (7, .slice AR41 t2.2.1.length cR41), (8, .int .i64 t2.2.2.1), (9, .bool t2.2.2.2)]) (by kernel_rfl) ?_
  refine WP.seq ?_
  rw [Option.bind_eq_some_iff] at h
  obtain ⟨os6, h, hk7⟩ := h
  refine WP.cut (fun L' G' Γ' => ∃ s6 : Bool, s6 = os6 ∧ L' = [(1, .int .i64 a1), (4, .pointer (some ⟨b1, 0, none⟩)), (6, .int .i64 t2.1), (7, .slice AR41 t2.2.1.length cR41), (34, .bool s6)] ∧ G = G' ∧ CR41 :: [(b1, .cells #[.int .i64 0, .int .i64 0, .int .i64 0, .slice none 0 0, .slice none 0 0, .slice none 0 0] 54 (0, 0))] :: Γ = Γ') ?_ ?_
  · clear hk7
    refine WP.region ?_
    refine WL.pure 0 3 [0, 1, 4, 6, 7, 8, 21] (L' := [(0, .slice Al0 l0.length cl0), (1, .int .i64 a1), (4, .pointer (some ⟨b1, 0, none⟩)), (6, .int .i64 t2.1), (7, .slice AR41 t2.2.1.length cR41), (8, .int .i64 t2.2.2.1), (21, .bool (!t2.2.2.2))]) (by kernel_rfl) (by decide) ?_
    refine WL.split 21 (b := (!t2.2.2.2)) (by kernel_rfl) (fun hc => ?_) (fun hc => ?_)
    · replace hc := hc
      rw [if_pos hc] at h
      have hc8 := hc
      clear hc
      refine WL.rest 3 [1, 4, 6, 7, 34] (L' := [(1, .int .i64 a1), (4, .pointer (some ⟨b1, 0, none⟩)), (6, .int .i64 t2.1), (7, .slice AR41 t2.2.1.length cR41), (34, .bool true)]) (by kernel_rfl) ?_
      refine QP.pick [1, 4, 6, 7, 34] ?_
      exact QP.meet ⟨_, Option.some.inj h, rfl, rfl, rfl⟩
    · replace hc := (Bool.eq_false_iff.1 hc)
      rw [if_neg hc] at h
      have hc8 := hc
      clear hc
      refine WL.pure 3 9 [1, 4, 6, 7, 27] (L' := [(1, .int .i64 a1), (4, .pointer (some ⟨b1, 0, none⟩)), (6, .int .i64 t2.1), (7, .slice AR41 t2.2.1.length cR41), (27, .bool (t2.2.2.1 != (l0.length : Int)))]) (by kernel_rfl) (by decide) ?_
      refine WL.split 27 (b := (t2.2.2.1 != (l0.length : Int))) (by kernel_rfl) (fun hc => ?_) (fun hc => ?_)
      · replace hc := (bne_iff_ne.1 hc)
        rw [if_pos hc] at h
        have hc9 := hc
        clear hc
        refine WL.rest 9 [1, 4, 6, 7, 34] (L' := [(1, .int .i64 a1), (4, .pointer (some ⟨b1, 0, none⟩)), (6, .int .i64 t2.1), (7, .slice AR41 t2.2.1.length cR41), (34, .bool true)]) (by kernel_rfl) ?_
        refine QP.pick [1, 4, 6, 7, 34] ?_
        exact QP.meet ⟨_, Option.some.inj h, rfl, rfl, rfl⟩
      · replace hc := (not_not_intro (bne_eq_false_iff_eq.1 hc))
        rw [if_neg hc] at h
        have hc9 := hc
        clear hc
        refine WL.pure 9 13 [1, 4, 6, 7, 31] (L' := [(1, .int .i64 a1), (4, .pointer (some ⟨b1, 0, none⟩)), (6, .int .i64 t2.1), (7, .slice AR41 t2.2.1.length cR41), (31, .bool (decide (a1 < 1)))]) (by kernel_rfl) (by decide) ?_
        refine WL.split 31 (b := decide (a1 < 1)) (by kernel_rfl) (fun hc => ?_) (fun hc => ?_)
        · replace hc := of_decide_eq_true hc
          rw [if_pos hc] at h
          have hc10 := hc
          clear hc
          refine WL.rest 13 [1, 4, 6, 7, 34] (L' := [(1, .int .i64 a1), (4, .pointer (some ⟨b1, 0, none⟩)), (6, .int .i64 t2.1), (7, .slice AR41 t2.2.1.length cR41), (34, .bool true)]) (by kernel_rfl) ?_
          refine QP.pick [1, 4, 6, 7, 34] ?_
          exact QP.meet ⟨_, Option.some.inj h, rfl, rfl, rfl⟩
        · replace hc := of_decide_eq_false hc
          rw [if_neg hc] at h
          have hc10 := hc
          clear hc
          refine WL.rest 13 [1, 4, 6, 7, 34] (L' := [(1, .int .i64 a1), (4, .pointer (some ⟨b1, 0, none⟩)), (6, .int .i64 t2.1), (7, .slice AR41 t2.2.1.length cR41), (34, .bool (decide (a1 > 8)))]) (by kernel_rfl) ?_
          refine QP.pick [1, 4, 6, 7, 34] ?_
          exact QP.meet ⟨_, Option.some.inj h, rfl, rfl, rfl⟩
  · rintro _ _ _ ⟨s6, rfl, rfl, rfl, rfl⟩
    clear h
    replace h := hk7
    refine WP.cond (b := s6) (by kernel_rfl) (fun hc => ?_) (fun hc => ?_)
    · replace hc := hc
      rw [if_pos hc] at h
      have hc11 := hc
      clear hc
      refine WP.seqR ?_
      refine WL.pure 0 1 [4, 35] (L' := [(4, .pointer (some ⟨b1, 0, none⟩)), (35, .agg #[.int .i64 0, .int .i64 0, .int .i64 0, .slice none 0 0, .slice none 0 0, .slice none 0 0])]) (by kernel_rfl) (by decide) ?_
      refine WL.op (op := .store 54 (.tmp 4) (.tmp 35)) (ty := 0) (d := none) (g := none) (by kernel_rfl) (by kernel_rfl) (by kernel_rfl) (Does.store_box (i := 1) (b := b1) (o := 0) (v := .agg #[.int .i64 0, .int .i64 0, .int .i64 0, .slice none 0 0, .slice none 0 0, .slice none 0 0]) (by rfl) sz54 (by kernel_rfl) (by kernel_rfl) (by kernel_rfl) (Free.zero _) (Nat.le_of_ble_eq_true rfl) (cells' := #[.int .i64 0, .int .i64 0, .int .i64 0, .slice none 0 0, .slice none 0 0, .slice none 0 0]) (by kernel_rfl)) ?_
      rintro _ _ _ ⟨rfl, rfl, rfl⟩
      refine WL.restQ 2 [4, 5] (L' := [(4, .pointer (some ⟨b1, 0, none⟩)), (5, .int .i64 12)]) (by kernel_rfl) ?_
      refine WP.dropAt 0 ?_
      refine WP.ret ?_
      refine QP.thenR ?_
      obtain rfl := Option.some.inj h
      refine QP.addNil ?_
      refine QP.addNil ?_
      refine QP.addNil ?_
      refine QP.front (i := 3) rfl ?_
      refine QP.front (i := 1) rfl ?_
      refine QP.front (i := 2) rfl ?_
      refine QP.front (i := 3) rfl ?_
      exact QP.returnedM (rs := [.cell 4 54, .tmp 5]) (by kernel_rfl) (ResAll.cons (Res1.box (p := 4) (i := 3) (o := 0) (agg := true) (by rfl) ag54 (by kernel_rfl) (fun h => by cases h) (Nat.le_of_ble_eq_true rfl) (v := .agg #[.int .i64 0, .int .i64 0, .int .i64 0, .slice none ([] : List Int).length 0, .slice none ([] : List Int).length 0, .slice none ([] : List T39).length 0]) (by kernel_rfl)) (ResAll.cons (Res1.tmp (t := 5) (v := .int .i64 12) (by kernel_rfl)) ResAll.nil)) (by kernel_rfl) (fun W hI => ⟨_, _, _, rfl, ⟨none, 0, [], none, 0, [], none, 0, [], rfl, (Ow.nil (kInt .i64) _), (Ow.nil (kInt .i64) _), (Ow.nil k39 _), rfl, rfl⟩, (hI.less 3 rfl)⟩)
    · replace hc := (Bool.eq_false_iff.1 hc)
      rw [if_neg hc] at h
      have hc11 := hc
      clear hc
      refine WP.skip ?_
      refine QP.next ?_
      refine WP.pick [1, 4, 6, 7] ?_
      refine WP.seqR ?_
      refine WL.pure 0 3 [1, 4, 6, 38] (L' := [(1, .int .i64 a1), (4, .pointer (some ⟨b1, 0, none⟩)), (6, .int .i64 t2.1), (38, .agg #[.slice AR41 t2.2.1.length cR41, .int .i64 0, .int .i64 0, .int .i64 0, .int .i64 0, .slice none 0 0, .slice none 0 0, .slice none 0 0])]) (by kernel_rfl) (by decide) ?_
      refine WL.op (op := .box 101 (.tmp 38)) (ty := 97) (d := some 39) (g := none) (by kernel_rfl) (by kernel_rfl) (by kernel_rfl) (Does.new (o := .cells #[.slice AR41 t2.2.1.length cR41, .int .i64 0, .int .i64 0, .int .i64 0, .int .i64 0, .slice none 0 0, .slice none 0 0, .slice none 0 0] 101 (0, 0)) (v := fun r => .pointer (some ⟨r, 0, none⟩)) (fun r => by kernel_rfl)) ?_
      rintro _ _ _ ⟨b12, rfl, rfl, rfl⟩
      refine WL.restQ 4 [1, 4, 6, 10] (L' := [(1, .int .i64 a1), (4, .pointer (some ⟨b1, 0, none⟩)), (6, .int .i64 t2.1), (10, .pointer (some ⟨b12, 0, none⟩))]) (by kernel_rfl) ?_
      refine WP.seqR ?_
      refine WL.pure 0 5 [1, 4, 10, 41, 44] (L' := [(1, .int .i64 a1), (4, .pointer (some ⟨b1, 0, none⟩)), (10, .pointer (some ⟨b12, 0, none⟩)), (41, .int .i64 t2.1), (44, .pointer (some ⟨b12, 2, none⟩))]) (by kernel_rfl) (by decide) ?_
      refine WL.op (op := .store 3 (.tmp 44) (.tmp 41)) (ty := 0) (d := none) (g := none) (by kernel_rfl) (by kernel_rfl) (by kernel_rfl) (Does.store_box (i := 0) (b := b12) (o := 2) (v := .int .i64 t2.1) (by rfl) sz3 (by kernel_rfl) (by kernel_rfl) (by kernel_rfl) (Free.zero _) (Nat.le_of_ble_eq_true rfl) (cells' := #[.slice AR41 t2.2.1.length cR41, .int .i64 0, .int .i64 t2.1, .int .i64 0, .int .i64 0, .slice none 0 0, .slice none 0 0, .slice none 0 0]) (by kernel_rfl)) ?_
      rintro _ _ _ ⟨rfl, rfl, rfl⟩
      refine WL.restQ 6 [1, 4, 10] (L' := [(1, .int .i64 a1), (4, .pointer (some ⟨b1, 0, none⟩)), (10, .pointer (some ⟨b12, 0, none⟩))]) (by kernel_rfl) ?_
      refine WP.seq ?_
      refine WP.any (N := 18) (S := [⟨some 45, [10], []⟩, ⟨some 46, [10], []⟩, ⟨some 47, [10], []⟩, ⟨some 48, [47], [2]⟩, ⟨some 49, [48], [3]⟩, ⟨some 50, [49], [4]⟩, ⟨some 51, [10], []⟩, ⟨some 52, [51], [6]⟩, ⟨some 53, [52], [7]⟩, ⟨some 54, [53], [5, 8]⟩, ⟨some 55, [45], [0, 2, 3, 4, 5, 9]⟩, ⟨some 56, [55], [0, 2, 3, 4, 5, 9, 10]⟩, ⟨some 57, [56], [0, 2, 3, 4, 5, 9, 11]⟩, ⟨none, [50, 57], [0, 2, 3, 4, 5, 9, 12]⟩, ⟨some 58, [46], [0, 1, 2, 3, 4, 5, 6, 7, 8, 9, 10, 11, 12, 13]⟩, ⟨some 59, [58], [0, 1, 2, 3, 4, 5, 6, 7, 8, 9, 10, 11, 12, 13, 14]⟩, ⟨some 60, [59], [0, 1, 2, 3, 4, 5, 6, 7, 8, 9, 10, 11, 12, 13, 15]⟩, ⟨none, [54, 60], [0, 1, 2, 3, 4, 5, 6, 7, 8, 9, 10, 11, 12, 13, 16]⟩]) (kw := 5) (G0 := G) (Γ0 := [(b12, .cells #[.slice AR41 t2.2.1.length cR41, .int .i64 0, .int .i64 t2.1, .int .i64 0, .int .i64 0, .slice none 0 0, .slice none 0 0, .slice none 0 0] 101 (0, 0))] :: CR41 :: [(b1, .cells #[.int .i64 0, .int .i64 0, .int .i64 0, .slice none 0 0, .slice none 0 0, .slice none 0 0] 54 (0, 0))] :: Γ) mo (by kernel_rfl) (fun hS => ?_)
      refine WA.pure [0, 1, 2, 3, 4, 6, 7, 8] [1, 4, 10, 45, 46, 49, 53] (m := 10) (b' := 479) (L' := [(1, .int .i64 a1), (4, .pointer (some ⟨b1, 0, none⟩)), (10, .pointer (some ⟨b12, 0, none⟩)), (45, .pointer (some ⟨b12, 0, none⟩)), (46, .pointer (some ⟨b12, 0, none⟩)), (49, .pointer (some ⟨b12, 0, none⟩)), (53, .pointer (some ⟨b12, 0, none⟩))]) (by kernel_rfl) (NoPanic.then (NoPanic.body)) Under.refl hS (by kernel_rfl) ?_
      refine WA.addNil ?_
      refine WA.addNil ?_
      refine WA.addNil ?_
      refine WA.front (i := 1) rfl ?_
      refine WA.front (i := 2) rfl ?_
      refine WA.front (i := 4) rfl ?_
      refine WA.front (i := 4) rfl ?_
      rw [Option.bind_eq_some_iff] at h
      obtain ⟨t13, ht14, h⟩ := h
      refine WA.opK (i := 5) (kw' := 9) (m := 9) (b' := 511) (by kernel_rfl) rfl hS (by kernel_rfl) (op := .call { callee := (.value (.func 66)), args := #[(.tmp 49), (.const (.int .i64 1))], argTypes := #[99, 3] }) (ty := 3) (d := some 50) (g := none) (by kernel_rfl) (by kernel_rfl) (by kernel_rfl) (Does.call (f := 66) (args := [.pointer (some ⟨b12, 0, none⟩), .int .i64 1]) (by kernel_rfl) (fun W hI => (talk_letter_number_calls k (⟨t2.2.1, 0, t2.1, 0, 0, ([] : List Int), ([] : List Int), ([] : List T39)⟩ : T101) 1 b12 AR41 cR41 CR41 HR41 none 0 [] (Ow.nil (kInt .i64) _) none 0 [] (Ow.nil (kInt .i64) _) none 0 [] (Ow.nil k39 _) t13 ht14 hI))) ?_
      rintro _ _ _ ⟨AR15p0_0, cR15p0_0, CR15p0_0, AR15p0_1, cR15p0_1, CR15p0_1, AR15p0_2, cR15p0_2, CR15p0_2, AR15p0_3, cR15p0_3, CR15p0_3, rfl, HR15p0_0, HR15p0_1, HR15p0_2, HR15p0_3, rfl, rfl⟩
      refine ⟨_, _, Under.refl, ?_⟩
      refine WA.front (i := 4) rfl ?_
      refine WA.front (i := 4) rfl ?_
      refine WA.front (i := 4) rfl ?_
      refine WA.front (i := 4) rfl ?_
      refine WA.front (i := 4) rfl ?_
      rw [Option.bind_eq_some_iff] at h
      obtain ⟨t17, ht18, h⟩ := h
      refine WA.opK (i := 9) (kw' := 13) (m := 8) (b' := 1023) (by kernel_rfl) rfl hS (by kernel_rfl) (op := .call { callee := (.value (.func 66)), args := #[(.tmp 53), (.const (.int .i64 1))], argTypes := #[99, 3] }) (ty := 3) (d := some 54) (g := none) (by kernel_rfl) (by kernel_rfl) (by kernel_rfl) (Does.call (f := 66) (args := [.pointer (some ⟨b12, 0, none⟩), .int .i64 1]) (by kernel_rfl) (fun W hI => (talk_letter_number_calls k t13.2 1 b12 AR15p0_0 cR15p0_0 CR15p0_0 HR15p0_0 AR15p0_1 cR15p0_1 CR15p0_1 HR15p0_1 AR15p0_2 cR15p0_2 CR15p0_2 HR15p0_2 AR15p0_3 cR15p0_3 CR15p0_3 HR15p0_3 t17 ht18 hI))) ?_
      rintro _ _ _ ⟨AR19p0_0, cR19p0_0, CR19p0_0, AR19p0_1, cR19p0_1, CR19p0_1, AR19p0_2, cR19p0_2, CR19p0_2, AR19p0_3, cR19p0_3, CR19p0_3, rfl, HR19p0_0, HR19p0_1, HR19p0_2, HR19p0_3, rfl, rfl⟩
      refine ⟨_, _, Under.refl, ?_⟩
      refine WA.pure [10, 11, 12] [1, 4, 10, 46, 50, 54, 57] (m := 5) (b' := 8191) (L' := [(1, .int .i64 a1), (4, .pointer (some ⟨b1, 0, none⟩)), (10, .pointer (some ⟨b12, 0, none⟩)), (46, .pointer (some ⟨b12, 0, none⟩)), (50, .int .i64 t13.1), (54, .int .i64 t17.1), (57, .pointer (some ⟨b12, 3, none⟩))]) (by kernel_rfl) (NoPanic.then (NoPanic.body)) Under.refl hS (by kernel_rfl) ?_
      refine WA.opK (i := 13) (kw' := 17) (m := 4) (b' := 16383) (by kernel_rfl) rfl hS (by kernel_rfl) (op := .store 3 (.tmp 57) (.tmp 50)) (ty := 0) (d := none) (g := none) (by kernel_rfl) (by kernel_rfl) (by kernel_rfl) (Does.store_box (i := 0) (b := b12) (o := 3) (v := .int .i64 t13.1) (by rfl) sz3 (by kernel_rfl) (by kernel_rfl) (by kernel_rfl) (Free.zero _) (Nat.le_of_ble_eq_true rfl) (cells' := #[.slice AR19p0_0 t17.2.f0.length cR19p0_0, .int .i64 t17.2.f1, .int .i64 t17.2.f2, .int .i64 t13.1, .int .i64 t17.2.f4, .slice AR19p0_1 t17.2.f5.length cR19p0_1, .slice AR19p0_2 t17.2.f6.length cR19p0_2, .slice AR19p0_3 t17.2.f7.length cR19p0_3]) (by kernel_rfl)) ?_
      rintro _ _ _ ⟨rfl, rfl, rfl⟩
      refine ⟨_, _, Under.refl, ?_⟩
      refine WA.pure [14, 15, 16] [1, 4, 10, 54, 60] (m := 1) (b' := 131071) (L' := [(1, .int .i64 a1), (4, .pointer (some ⟨b1, 0, none⟩)), (10, .pointer (some ⟨b12, 0, none⟩)), (54, .int .i64 t17.1), (60, .pointer (some ⟨b12, 4, none⟩))]) (by kernel_rfl) (NoPanic.then (NoPanic.body)) Under.refl hS (by kernel_rfl) ?_
      refine WA.opK (i := 17) (kw' := 18) (m := 0) (b' := 262143) (by kernel_rfl) rfl hS (by kernel_rfl) (op := .store 3 (.tmp 60) (.tmp 54)) (ty := 0) (d := none) (g := none) (by kernel_rfl) (by kernel_rfl) (by kernel_rfl) (Does.store_box (i := 0) (b := b12) (o := 4) (v := .int .i64 t17.1) (by rfl) sz3 (by kernel_rfl) (by kernel_rfl) (by kernel_rfl) (Free.zero _) (Nat.le_of_ble_eq_true rfl) (cells' := #[.slice AR19p0_0 t17.2.f0.length cR19p0_0, .int .i64 t17.2.f1, .int .i64 t17.2.f2, .int .i64 t13.1, .int .i64 t17.1, .slice AR19p0_1 t17.2.f5.length cR19p0_1, .slice AR19p0_2 t17.2.f6.length cR19p0_2, .slice AR19p0_3 t17.2.f7.length cR19p0_3]) (by kernel_rfl)) ?_
      rintro _ _ _ ⟨rfl, rfl, rfl⟩
      refine ⟨_, _, Under.refl, ?_⟩
      refine WA.done hS (by kernel_rfl) ?_
      refine QP.pick [1, 4, 10] ?_
      refine QP.next ?_
      refine WP.seqR ?_
      refine WL.pure 0 3 [1, 4, 10, 63] (L' := [(1, .int .i64 a1), (4, .pointer (some ⟨b1, 0, none⟩)), (10, .pointer (some ⟨b12, 0, none⟩)), (63, .pointer (some ⟨b12, 0, none⟩))]) (by kernel_rfl) (by decide) ?_
      refine WL.front (i := 4) rfl ?_
      refine WL.front (i := 4) rfl ?_
      refine WL.front (i := 4) rfl ?_
      refine WL.front (i := 4) rfl ?_
      refine WL.front (i := 4) rfl ?_
      rw [Option.bind_eq_some_iff] at h
      obtain ⟨t21, ht22, h⟩ := h
      refine WL.op (op := .call { callee := (.value (.func 66)), args := #[(.tmp 63), (.const (.int .i64 1))], argTypes := #[99, 3] }) (ty := 3) (d := some 64) (g := none) (by kernel_rfl) (by kernel_rfl) (by kernel_rfl) (Does.call (f := 66) (args := [.pointer (some ⟨b12, 0, none⟩), .int .i64 1]) (by kernel_rfl) (fun W hI => (talk_letter_number_calls k (⟨t17.2.f0, t17.2.f1, t17.2.f2, t13.1, t17.1, t17.2.f5, t17.2.f6, t17.2.f7⟩ : T101) 1 b12 AR19p0_0 cR19p0_0 CR19p0_0 HR19p0_0 AR19p0_1 cR19p0_1 CR19p0_1 HR19p0_1 AR19p0_2 cR19p0_2 CR19p0_2 HR19p0_2 AR19p0_3 cR19p0_3 CR19p0_3 HR19p0_3 t21 ht22 hI))) ?_
      rintro _ _ _ ⟨AR23p0_0, cR23p0_0, CR23p0_0, AR23p0_1, cR23p0_1, CR23p0_1, AR23p0_2, cR23p0_2, CR23p0_2, AR23p0_3, cR23p0_3, CR23p0_3, rfl, HR23p0_0, HR23p0_1, HR23p0_2, HR23p0_3, rfl, rfl⟩
      refine WL.restQ 4 [1, 4, 10, 11] (L' := [(1, .int .i64 a1), (4, .pointer (some ⟨b1, 0, none⟩)), (10, .pointer (some ⟨b12, 0, none⟩)), (11, .int .i64 t21.1)]) (by kernel_rfl) ?_
      refine WP.seq ?_
      refine WP.any (N := 20) (S := [⟨some 65, [10], []⟩, ⟨some 66, [10], []⟩, ⟨some 67, [10], []⟩, ⟨some 68, [67], [2]⟩, ⟨some 69, [68], [3]⟩, ⟨some 70, [1], []⟩, ⟨some 71, [69, 70], [4, 5]⟩, ⟨some 72, [10], []⟩, ⟨some 73, [72], [7]⟩, ⟨some 74, [73], [8]⟩, ⟨some 75, [1], []⟩, ⟨some 76, [74, 75], [6, 9, 10]⟩, ⟨some 77, [65], [0, 2, 3, 4, 5, 6, 11]⟩, ⟨some 78, [77], [0, 2, 3, 4, 5, 6, 11, 12]⟩, ⟨some 79, [78], [0, 2, 3, 4, 5, 6, 11, 13]⟩, ⟨none, [71, 79], [0, 2, 3, 4, 5, 6, 11, 14]⟩, ⟨some 80, [66], [0, 1, 2, 3, 4, 5, 6, 7, 8, 9, 10, 11, 12, 13, 14, 15]⟩, ⟨some 81, [80], [0, 1, 2, 3, 4, 5, 6, 7, 8, 9, 10, 11, 12, 13, 14, 15, 16]⟩, ⟨some 82, [81], [0, 1, 2, 3, 4, 5, 6, 7, 8, 9, 10, 11, 12, 13, 14, 15, 17]⟩, ⟨none, [76, 82], [0, 1, 2, 3, 4, 5, 6, 7, 8, 9, 10, 11, 12, 13, 14, 15, 18]⟩]) (kw := 6) (G0 := G) (Γ0 := [(b12, .cells #[.slice AR23p0_0 t21.2.f0.length cR23p0_0, .int .i64 t21.2.f1, .int .i64 t21.2.f2, .int .i64 t21.2.f3, .int .i64 t21.2.f4, .slice AR23p0_1 t21.2.f5.length cR23p0_1, .slice AR23p0_2 t21.2.f6.length cR23p0_2, .slice AR23p0_3 t21.2.f7.length cR23p0_3] 101 (0, 0))] :: CR23p0_0 :: CR23p0_1 :: CR23p0_2 :: CR23p0_3 :: [(b1, .cells #[.int .i64 0, .int .i64 0, .int .i64 0, .slice none 0 0, .slice none 0 0, .slice none 0 0] 54 (0, 0))] :: Γ) mo (by kernel_rfl) (fun hS => ?_)
      refine WA.pure [0, 1, 2, 3, 4, 5, 7, 8, 9, 10] [1, 4, 10, 11, 65, 66, 69, 70, 74, 75] (m := 10) (b' := 1983) (L' := [(1, .int .i64 a1), (4, .pointer (some ⟨b1, 0, none⟩)), (10, .pointer (some ⟨b12, 0, none⟩)), (11, .int .i64 t21.1), (65, .pointer (some ⟨b12, 0, none⟩)), (66, .pointer (some ⟨b12, 0, none⟩)), (69, .pointer (some ⟨b12, 0, none⟩)), (70, .int .i64 a1), (74, .pointer (some ⟨b12, 0, none⟩)), (75, .int .i64 a1)]) (by kernel_rfl) (NoPanic.then (NoPanic.body)) Under.refl hS (by kernel_rfl) ?_
      refine WA.front (i := 4) rfl ?_
      refine WA.front (i := 4) rfl ?_
      refine WA.front (i := 4) rfl ?_
      refine WA.front (i := 4) rfl ?_
      refine WA.front (i := 4) rfl ?_
      rw [Option.bind_eq_some_iff] at h
      obtain ⟨t25, ht26, h⟩ := h
      refine WA.opK (i := 6) (kw' := 11) (m := 9) (b' := 2047) (by kernel_rfl) rfl hS (by kernel_rfl) (op := .call { callee := (.value (.func 67)), args := #[(.tmp 69), (.tmp 70)], argTypes := #[99, 3] }) (ty := 32) (d := some 71) (g := none) (by kernel_rfl) (by kernel_rfl) (by kernel_rfl) (Does.call (f := 67) (args := [.pointer (some ⟨b12, 0, none⟩), .int .i64 a1]) (by kernel_rfl) (fun W hI => (talk_letter_vector_calls k t21.2 a1 b12 AR23p0_0 cR23p0_0 CR23p0_0 HR23p0_0 AR23p0_1 cR23p0_1 CR23p0_1 HR23p0_1 AR23p0_2 cR23p0_2 CR23p0_2 HR23p0_2 AR23p0_3 cR23p0_3 CR23p0_3 HR23p0_3 t25 ht26 hI))) ?_
      rintro _ _ _ ⟨AR27, cR27, CR27, AR27p0_0, cR27p0_0, CR27p0_0, AR27p0_1, cR27p0_1, CR27p0_1, AR27p0_2, cR27p0_2, CR27p0_2, AR27p0_3, cR27p0_3, CR27p0_3, rfl, HR27, HR27p0_0, HR27p0_1, HR27p0_2, HR27p0_3, rfl, rfl⟩
      refine ⟨_, _, Under.refl, ?_⟩
      refine WA.front (i := 5) rfl ?_
      refine WA.front (i := 5) rfl ?_
      refine WA.front (i := 5) rfl ?_
      refine WA.front (i := 5) rfl ?_
      refine WA.front (i := 5) rfl ?_
      rw [Option.bind_eq_some_iff] at h
      obtain ⟨t29, ht30, h⟩ := h
      refine WA.opK (i := 11) (kw' := 15) (m := 8) (b' := 4095) (by kernel_rfl) rfl hS (by kernel_rfl) (op := .call { callee := (.value (.func 67)), args := #[(.tmp 74), (.tmp 75)], argTypes := #[99, 3] }) (ty := 32) (d := some 76) (g := none) (by kernel_rfl) (by kernel_rfl) (by kernel_rfl) (Does.call (f := 67) (args := [.pointer (some ⟨b12, 0, none⟩), .int .i64 a1]) (by kernel_rfl) (fun W hI => (talk_letter_vector_calls k t25.2 a1 b12 AR27p0_0 cR27p0_0 CR27p0_0 HR27p0_0 AR27p0_1 cR27p0_1 CR27p0_1 HR27p0_1 AR27p0_2 cR27p0_2 CR27p0_2 HR27p0_2 AR27p0_3 cR27p0_3 CR27p0_3 HR27p0_3 t29 ht30 hI))) ?_
      rintro _ _ _ ⟨AR31, cR31, CR31, AR31p0_0, cR31p0_0, CR31p0_0, AR31p0_1, cR31p0_1, CR31p0_1, AR31p0_2, cR31p0_2, CR31p0_2, AR31p0_3, cR31p0_3, CR31p0_3, rfl, HR31, HR31p0_0, HR31p0_1, HR31p0_2, HR31p0_3, rfl, rfl⟩
      refine ⟨_, _, Under.refl, ?_⟩
      refine WA.pure [12, 13, 14] [1, 4, 10, 11, 66, 71, 76, 79] (m := 5) (b' := 32767) (L' := [(1, .int .i64 a1), (4, .pointer (some ⟨b1, 0, none⟩)), (10, .pointer (some ⟨b12, 0, none⟩)), (11, .int .i64 t21.1), (66, .pointer (some ⟨b12, 0, none⟩)), (71, .slice AR27 t25.1.length cR27), (76, .slice AR31 t29.1.length cR31), (79, .pointer (some ⟨b12, 5, none⟩))]) (by kernel_rfl) (NoPanic.then (NoPanic.body)) Under.refl hS (by kernel_rfl) ?_
      refine WA.opK (i := 15) (kw' := 19) (m := 4) (b' := 65535) (by kernel_rfl) rfl hS (by kernel_rfl) (op := .store 32 (.tmp 79) (.tmp 71)) (ty := 0) (d := none) (g := none) (by kernel_rfl) (by kernel_rfl) (by kernel_rfl) (Does.store_box (i := 1) (b := b12) (o := 5) (v := .slice AR27 t25.1.length cR27) (by rfl) sz32 (by kernel_rfl) (by kernel_rfl) (by kernel_rfl) (Free.zero _) (Nat.le_of_ble_eq_true rfl) (cells' := #[.slice AR31p0_0 t29.2.f0.length cR31p0_0, .int .i64 t29.2.f1, .int .i64 t29.2.f2, .int .i64 t29.2.f3, .int .i64 t29.2.f4, .slice AR27 t25.1.length cR27, .slice AR31p0_2 t29.2.f6.length cR31p0_2, .slice AR31p0_3 t29.2.f7.length cR31p0_3]) (by kernel_rfl)) ?_
      rintro _ _ _ ⟨rfl, rfl, rfl⟩
      refine ⟨_, _, Under.refl, ?_⟩
      refine WA.pure [16, 17, 18] [1, 4, 10, 11, 76, 82] (m := 1) (b' := 524287) (L' := [(1, .int .i64 a1), (4, .pointer (some ⟨b1, 0, none⟩)), (10, .pointer (some ⟨b12, 0, none⟩)), (11, .int .i64 t21.1), (76, .slice AR31 t29.1.length cR31), (82, .pointer (some ⟨b12, 6, none⟩))]) (by kernel_rfl) (NoPanic.then (NoPanic.body)) Under.refl hS (by kernel_rfl) ?_
      refine WA.opK (i := 19) (kw' := 20) (m := 0) (b' := 1048575) (by kernel_rfl) rfl hS (by kernel_rfl) (op := .store 32 (.tmp 82) (.tmp 76)) (ty := 0) (d := none) (g := none) (by kernel_rfl) (by kernel_rfl) (by kernel_rfl) (Does.store_box (i := 1) (b := b12) (o := 6) (v := .slice AR31 t29.1.length cR31) (by rfl) sz32 (by kernel_rfl) (by kernel_rfl) (by kernel_rfl) (Free.zero _) (Nat.le_of_ble_eq_true rfl) (cells' := #[.slice AR31p0_0 t29.2.f0.length cR31p0_0, .int .i64 t29.2.f1, .int .i64 t29.2.f2, .int .i64 t29.2.f3, .int .i64 t29.2.f4, .slice AR27 t25.1.length cR27, .slice AR31 t29.1.length cR31, .slice AR31p0_3 t29.2.f7.length cR31p0_3]) (by kernel_rfl)) ?_
      rintro _ _ _ ⟨rfl, rfl, rfl⟩
      refine ⟨_, _, Under.refl, ?_⟩
      refine WA.done hS (by kernel_rfl) ?_
      refine QP.pick [1, 4, 10, 11] ?_
      refine QP.next ?_
      refine WP.dropAt 4 ?_
      refine WP.dropAt 3 ?_
      refine WP.seq ?_
      rw [Option.bind_eq_some_iff] at h
      obtain ⟨os33, h, hk34⟩ := h
      refine WP.cut (fun L' G' Γ' => ∃ s33 : Bool × T101, s33 = os33 ∧ ∃ (As33_2_f0 : Option Addr), ∃ (cs33_2_f0 : Nat), ∃ (Cs33_2_f0 : Chunk), ∃ (As33_2_f5 : Option Addr), ∃ (cs33_2_f5 : Nat), ∃ (Cs33_2_f5 : Chunk), ∃ (As33_2_f6 : Option Addr), ∃ (cs33_2_f6 : Nat), ∃ (Cs33_2_f6 : Chunk), ∃ (As33_2_f7 : Option Addr), ∃ (cs33_2_f7 : Nat), ∃ (Cs33_2_f7 : Chunk), L' = [(4, .pointer (some ⟨b1, 0, none⟩)), (10, .pointer (some ⟨b12, 0, none⟩)), (103, .bool s33.1)] ∧ G = G' ∧ [(b12, .cells #[.slice As33_2_f0 s33.2.f0.length cs33_2_f0, .int .i64 s33.2.f1, .int .i64 s33.2.f2, .int .i64 s33.2.f3, .int .i64 s33.2.f4, .slice As33_2_f5 s33.2.f5.length cs33_2_f5, .slice As33_2_f6 s33.2.f6.length cs33_2_f6, .slice As33_2_f7 s33.2.f7.length cs33_2_f7] 101 (0, 0))] :: Cs33_2_f0 :: Cs33_2_f5 :: Cs33_2_f6 :: Cs33_2_f7 :: [(b1, .cells #[.int .i64 0, .int .i64 0, .int .i64 0, .slice none 0 0, .slice none 0 0, .slice none 0 0] 54 (0, 0))] :: Γ = Γ' ∧ Ow (kInt .u8) G As33_2_f0 cs33_2_f0 s33.2.f0 Cs33_2_f0 ∧ Ow (kInt .i64) G As33_2_f5 cs33_2_f5 s33.2.f5 Cs33_2_f5 ∧ Ow (kInt .i64) G As33_2_f6 cs33_2_f6 s33.2.f6 Cs33_2_f6 ∧ Ow k39 G As33_2_f7 cs33_2_f7 s33.2.f7 Cs33_2_f7) ?_ ?_
      · clear hk34
        refine WP.region ?_
        refine WL.pure 0 4 [1, 4, 10, 86] (L' := [(1, .int .i64 a1), (4, .pointer (some ⟨b1, 0, none⟩)), (10, .pointer (some ⟨b12, 0, none⟩)), (86, .bool (t21.1 != a1))]) (by kernel_rfl) (by decide) ?_
        refine WL.split 86 (b := (t21.1 != a1)) (by kernel_rfl) (fun hc => ?_) (fun hc => ?_)
        · replace hc := (bne_iff_ne.1 hc)
          rw [if_pos hc] at h
          have hc35 := hc
          clear hc
          refine WL.rest 4 [4, 10, 103] (L' := [(4, .pointer (some ⟨b1, 0, none⟩)), (10, .pointer (some ⟨b12, 0, none⟩)), (103, .bool true)]) (by kernel_rfl) ?_
          refine QP.front (i := 5) rfl ?_
          refine QP.front (i := 4) rfl ?_
          refine QP.front (i := 2) rfl ?_
          refine QP.front (i := 5) rfl ?_
          refine QP.front (i := 5) rfl ?_
          refine QP.front (i := 5) rfl ?_
          refine QP.pick [4, 10, 103] ?_
          exact QP.meet ⟨_, Option.some.inj h, AR31p0_0, cR31p0_0, CR31p0_0, AR27, cR27, CR27, AR31, cR31, CR31, AR31p0_3, cR31p0_3, CR31p0_3, rfl, rfl, rfl, HR31p0_0, HR27, HR31, HR31p0_3⟩
        · replace hc := (not_not_intro (bne_eq_false_iff_eq.1 hc))
          rw [if_neg hc] at h
          have hc35 := hc
          clear hc
          refine WL.pure 4 8 [1, 4, 10, 86, 87, 90] (L' := [(1, .int .i64 a1), (4, .pointer (some ⟨b1, 0, none⟩)), (10, .pointer (some ⟨b12, 0, none⟩)), (86, .bool false), (87, .pointer (some ⟨b12, 0, none⟩)), (90, .pointer (some ⟨b12, 0, none⟩))]) (by kernel_rfl) (by decide) ?_
          refine WL.front (i := 3) rfl ?_
          refine WL.front (i := 1) rfl ?_
          refine WL.front (i := 4) rfl ?_
          refine WL.front (i := 4) rfl ?_
          refine WL.front (i := 4) rfl ?_
          rw [Option.bind_eq_some_iff] at h
          obtain ⟨t36, ht37, h⟩ := h
          refine WL.op (op := .call { callee := (.value (.func 66)), args := #[(.tmp 90), (.const (.int .i64 1))], argTypes := #[99, 3] }) (ty := 3) (d := some 91) (g := some (3, false)) (by kernel_rfl) (by kernel_rfl) (by kernel_rfl) (Does.call (f := 66) (args := [.pointer (some ⟨b12, 0, none⟩), .int .i64 1]) (by kernel_rfl) (fun W hI => (talk_letter_number_calls k (⟨t29.2.f0, t29.2.f1, t29.2.f2, t29.2.f3, t29.2.f4, t25.1, t29.1, t29.2.f7⟩ : T101) 1 b12 AR31p0_0 cR31p0_0 CR31p0_0 HR31p0_0 AR27 cR27 CR27 HR27 AR31 cR31 CR31 HR31 AR31p0_3 cR31p0_3 CR31p0_3 HR31p0_3 t36 ht37 hI))) ?_
          rintro _ _ _ ⟨AR38p0_0, cR38p0_0, CR38p0_0, AR38p0_1, cR38p0_1, CR38p0_1, AR38p0_2, cR38p0_2, CR38p0_2, AR38p0_3, cR38p0_3, CR38p0_3, rfl, HR38p0_0, HR38p0_1, HR38p0_2, HR38p0_3, rfl, rfl⟩
          refine WL.front (i := 4) rfl ?_
          refine WL.front (i := 4) rfl ?_
          refine WL.front (i := 4) rfl ?_
          refine WL.front (i := 4) rfl ?_
          refine WL.front (i := 4) rfl ?_
          rw [Option.bind_eq_some_iff] at h
          obtain ⟨t40, ht41, h⟩ := h
          refine WL.op (op := .call { callee := (.value (.func 68)), args := #[(.tmp 87), (.tmp 91)], argTypes := #[97, 3] }) (ty := 4) (d := some 92) (g := some (3, false)) (by kernel_rfl) (by kernel_rfl) (by kernel_rfl) (Does.call (f := 68) (args := [.pointer (some ⟨b12, 0, none⟩), .int .i64 t36.1]) (by kernel_rfl) (fun W hI => (talk_reader_records_calls HT k t36.2 t36.1 b12 AR38p0_0 cR38p0_0 CR38p0_0 HR38p0_0 AR38p0_1 cR38p0_1 CR38p0_1 HR38p0_1 AR38p0_2 cR38p0_2 CR38p0_2 HR38p0_2 AR38p0_3 cR38p0_3 CR38p0_3 HR38p0_3 t40 ht41 hI))) ?_
          rintro _ _ _ ⟨AR42p0_0, cR42p0_0, CR42p0_0, AR42p0_1, cR42p0_1, CR42p0_1, AR42p0_2, cR42p0_2, CR42p0_2, AR42p0_3, cR42p0_3, CR42p0_3, rfl, HR42p0_0, HR42p0_1, HR42p0_2, HR42p0_3, rfl, rfl⟩
          refine WL.pure 10 13 [1, 4, 10, 95] (L' := [(1, .int .i64 a1), (4, .pointer (some ⟨b1, 0, none⟩)), (10, .pointer (some ⟨b12, 0, none⟩)), (95, .bool (!t40.1))]) (by kernel_rfl) (by decide) ?_
          refine WL.split 95 (b := (!t40.1)) (by kernel_rfl) (fun hc => ?_) (fun hc => ?_)
          · replace hc := hc
            rw [if_pos hc] at h
            have hc44 := hc
            clear hc
            refine WL.rest 13 [4, 10, 103] (L' := [(4, .pointer (some ⟨b1, 0, none⟩)), (10, .pointer (some ⟨b12, 0, none⟩)), (103, .bool true)]) (by kernel_rfl) ?_
            refine QP.pick [4, 10, 103] ?_
            exact QP.meet ⟨_, Option.some.inj h, AR42p0_0, cR42p0_0, CR42p0_0, AR42p0_1, cR42p0_1, CR42p0_1, AR42p0_2, cR42p0_2, CR42p0_2, AR42p0_3, cR42p0_3, CR42p0_3, rfl, rfl, rfl, HR42p0_0, HR42p0_1, HR42p0_2, HR42p0_3⟩
          · replace hc := (Bool.eq_false_iff.1 hc)
            rw [if_neg hc] at h
            have hc44 := hc
            clear hc
            refine WL.pure 13 16 [1, 4, 10, 95, 98] (L' := [(1, .int .i64 a1), (4, .pointer (some ⟨b1, 0, none⟩)), (10, .pointer (some ⟨b12, 0, none⟩)), (95, .bool false), (98, .pointer (some ⟨b12, 2, none⟩))]) (by kernel_rfl) (by decide) ?_
            refine WL.tell (op := .load 54 (.tmp 98)) (ty := 54) (d := some 99) (g := some (12, false)) (by kernel_rfl) (by kernel_rfl) (by kernel_rfl) (Tells.load_box (i := 0) (b := b12) (o := 2) (agg := true) (by rfl) ag54 (by kernel_rfl) (fun h => by cases h) (Nat.le_of_ble_eq_true rfl) (v := .agg #[.int .i64 t40.2.f2, .int .i64 t40.2.f3, .int .i64 t40.2.f4, .slice AR42p0_1 t40.2.f5.length cR42p0_1, .slice AR42p0_2 t40.2.f6.length cR42p0_2, .slice AR42p0_3 t40.2.f7.length cR42p0_3]) (by kernel_rfl)) ?_
            refine WL.pure 17 18 [4, 10, 95, 99, 100] (L' := [(4, .pointer (some ⟨b1, 0, none⟩)), (10, .pointer (some ⟨b12, 0, none⟩)), (95, .bool false), (99, .agg #[.int .i64 t40.2.f2, .int .i64 t40.2.f3, .int .i64 t40.2.f4, .slice AR42p0_1 t40.2.f5.length cR42p0_1, .slice AR42p0_2 t40.2.f6.length cR42p0_2, .slice AR42p0_3 t40.2.f7.length cR42p0_3]), (100, .int .i64 a1)]) (by kernel_rfl) (by decide) ?_
            rw [Option.bind_eq_some_iff] at h
            obtain ⟨t45, ht46, h⟩ := h
            refine WL.op (op := .call { callee := (.value (.func 29)), args := #[(.tmp 99), (.tmp 100)], argTypes := #[54, 3] }) (ty := 4) (d := some 101) (g := some (12, false)) (by kernel_rfl) (by kernel_rfl) (by kernel_rfl) (Does.call (Φ := fun v' G' Γ' => v' = .bool t45 ∧ G = G' ∧ [(b12, .cells #[.slice AR42p0_0 t40.2.f0.length cR42p0_0, .int .i64 t40.2.f1, .int .i64 t40.2.f2, .int .i64 t40.2.f3, .int .i64 t40.2.f4, .slice AR42p0_1 t40.2.f5.length cR42p0_1, .slice AR42p0_2 t40.2.f6.length cR42p0_2, .slice AR42p0_3 t40.2.f7.length cR42p0_3] 101 (0, 0))] :: CR42p0_0 :: CR42p0_1 :: CR42p0_2 :: CR42p0_3 :: [(b1, .cells #[.int .i64 0, .int .i64 0, .int .i64 0, .slice none 0 0, .slice none 0 0, .slice none 0 0] 54 (0, 0))] :: Γ = Γ') (f := 29) (args := [.agg #[.int .i64 t40.2.f2, .int .i64 t40.2.f3, .int .i64 t40.2.f4, .slice AR42p0_1 t40.2.f5.length cR42p0_1, .slice AR42p0_2 t40.2.f6.length cR42p0_2, .slice AR42p0_3 t40.2.f7.length cR42p0_3], .int .i64 a1]) (by kernel_rfl) (fun W hI => (Calls.lendN (Φ := fun v' N => v' = .bool t45 ∧ N = []) (H := []) (i := 2) rfl hI (fun _ e l49 nl49 hI => by subst e; exact Calls.lendN (Φ := fun v' N => v' = .bool t45 ∧ N = []) (H := []) (i := 3) rfl hI (fun _ e l50 nl50 hI => by subst e; exact Calls.lendN (Φ := fun v' N => v' = .bool t45 ∧ N = []) (H := []) (i := 4) rfl hI (fun _ e l51 nl51 hI => by subst e; exact (((talk_May_calls (((HT.mono l49).mono l50).mono l51) k (⟨t40.2.f2, t40.2.f3, t40.2.f4, t40.2.f5, t40.2.f6, t40.2.f7⟩ : T54) a1 AR42p0_1 cR42p0_1 (((HR42p0_1.rdN l49 nl49).mono l50).mono l51) AR42p0_2 cR42p0_2 (((HR42p0_2.mono l49).rdN l50 nl50).mono l51) AR42p0_3 cR42p0_3 (((HR42p0_3.mono l49).mono l50).rdN l51 nl51) t45 ht46 hI)).mono fun _ _ hr => by obtain ⟨_, _, _, rfl, hd, hI⟩ := hr; obtain ⟨rfl, rfl, rfl⟩ := hd; exact ⟨_, _, _, rfl, ⟨[], ⟨rfl, rfl⟩, rfl, rfl⟩, hI⟩))))).mono fun _ _ hr => by obtain ⟨_, _, _, rfl, ⟨_, hd, rfl, rfl⟩, hI⟩ := hr; obtain ⟨rfl, rfl⟩ := hd; exact ⟨_, _, _, rfl, ⟨rfl, rfl, rfl⟩, hI⟩)) ?_
            rintro _ _ _ ⟨rfl, rfl, rfl⟩
            refine WL.rest 19 [4, 10, 103] (L' := [(4, .pointer (some ⟨b1, 0, none⟩)), (10, .pointer (some ⟨b12, 0, none⟩)), (103, .bool (!t45))]) (by kernel_rfl) ?_
            refine QP.pick [4, 10, 103] ?_
            exact QP.meet ⟨_, Option.some.inj h, AR42p0_0, cR42p0_0, CR42p0_0, AR42p0_1, cR42p0_1, CR42p0_1, AR42p0_2, cR42p0_2, CR42p0_2, AR42p0_3, cR42p0_3, CR42p0_3, rfl, rfl, rfl, HR42p0_0, HR42p0_1, HR42p0_2, HR42p0_3⟩
      · rintro _ _ _ ⟨s33, rfl, As33_2_f0, cs33_2_f0, Cs33_2_f0, As33_2_f5, cs33_2_f5, Cs33_2_f5, As33_2_f6, cs33_2_f6, Cs33_2_f6, As33_2_f7, cs33_2_f7, Cs33_2_f7, rfl, rfl, rfl, Hs33_2_f0, Hs33_2_f5, Hs33_2_f6, Hs33_2_f7⟩
        clear h
        replace h := hk34
        refine WP.cond (b := s33.1) (by kernel_rfl) (fun hc => ?_) (fun hc => ?_)
        · replace hc := hc
          rw [if_pos hc] at h
          have hc52 := hc
          clear hc
          refine WP.seqR ?_
          refine WL.pure 0 1 [4, 104] (L' := [(4, .pointer (some ⟨b1, 0, none⟩)), (104, .agg #[.int .i64 0, .int .i64 0, .int .i64 0, .slice none 0 0, .slice none 0 0, .slice none 0 0])]) (by kernel_rfl) (by decide) ?_
          refine WL.op (op := .store 54 (.tmp 4) (.tmp 104)) (ty := 0) (d := none) (g := none) (by kernel_rfl) (by kernel_rfl) (by kernel_rfl) (Does.store_box (i := 5) (b := b1) (o := 0) (v := .agg #[.int .i64 0, .int .i64 0, .int .i64 0, .slice none 0 0, .slice none 0 0, .slice none 0 0]) (by rfl) sz54 (by kernel_rfl) (by kernel_rfl) (by kernel_rfl) (Free.zero _) (Nat.le_of_ble_eq_true rfl) (cells' := #[.int .i64 0, .int .i64 0, .int .i64 0, .slice none 0 0, .slice none 0 0, .slice none 0 0]) (by kernel_rfl)) ?_
          rintro _ _ _ ⟨rfl, rfl, rfl⟩
          refine WL.restQ 2 [4, 5] (L' := [(4, .pointer (some ⟨b1, 0, none⟩)), (5, .int .i64 12)]) (by kernel_rfl) ?_
          refine WP.dropAt 4 ?_
          refine WP.dropAt 3 ?_
          refine WP.dropAt 2 ?_
          refine WP.dropAt 1 ?_
          refine WP.dropAt 0 ?_
          refine WP.ret ?_
          refine QP.thenR ?_
          obtain rfl := Option.some.inj h
          refine QP.addNil ?_
          refine QP.addNil ?_
          refine QP.addNil ?_
          refine QP.front (i := 3) rfl ?_
          refine QP.front (i := 1) rfl ?_
          refine QP.front (i := 2) rfl ?_
          refine QP.front (i := 3) rfl ?_
          exact QP.returnedM (rs := [.cell 4 54, .tmp 5]) (by kernel_rfl) (ResAll.cons (Res1.box (p := 4) (i := 3) (o := 0) (agg := true) (by rfl) ag54 (by kernel_rfl) (fun h => by cases h) (Nat.le_of_ble_eq_true rfl) (v := .agg #[.int .i64 0, .int .i64 0, .int .i64 0, .slice none ([] : List Int).length 0, .slice none ([] : List Int).length 0, .slice none ([] : List T39).length 0]) (by kernel_rfl)) (ResAll.cons (Res1.tmp (t := 5) (v := .int .i64 12) (by kernel_rfl)) ResAll.nil)) (by kernel_rfl) (fun W hI => ⟨_, _, _, rfl, ⟨none, 0, [], none, 0, [], none, 0, [], rfl, (Ow.nil (kInt .i64) _), (Ow.nil (kInt .i64) _), (Ow.nil k39 _), rfl, rfl⟩, (hI.less 3 rfl)⟩)
        · replace hc := (Bool.eq_false_iff.1 hc)
          rw [if_neg hc] at h
          have hc52 := hc
          clear hc
          refine WP.skip ?_
          refine QP.next ?_
          refine WP.pick [4, 10] ?_
          refine WP.seqR ?_
          refine WL.pure 0 3 [4, 107] (L' := [(4, .pointer (some ⟨b1, 0, none⟩)), (107, .pointer (some ⟨b12, 2, none⟩))]) (by kernel_rfl) (by decide) ?_
          refine WL.tell (op := .load 54 (.tmp 107)) (ty := 54) (d := some 108) (g := none) (by kernel_rfl) (by kernel_rfl) (by kernel_rfl) (Tells.load_box (i := 0) (b := b12) (o := 2) (agg := true) (by rfl) ag54 (by kernel_rfl) (fun h => by cases h) (Nat.le_of_ble_eq_true rfl) (v := .agg #[.int .i64 s33.2.f2, .int .i64 s33.2.f3, .int .i64 s33.2.f4, .slice As33_2_f5 s33.2.f5.length cs33_2_f5, .slice As33_2_f6 s33.2.f6.length cs33_2_f6, .slice As33_2_f7 s33.2.f7.length cs33_2_f7]) (by kernel_rfl)) ?_
          refine WL.op (op := .store 54 (.tmp 4) (.tmp 108)) (ty := 0) (d := none) (g := none) (by kernel_rfl) (by kernel_rfl) (by kernel_rfl) (Does.store_box (i := 5) (b := b1) (o := 0) (v := .agg #[.int .i64 s33.2.f2, .int .i64 s33.2.f3, .int .i64 s33.2.f4, .slice As33_2_f5 s33.2.f5.length cs33_2_f5, .slice As33_2_f6 s33.2.f6.length cs33_2_f6, .slice As33_2_f7 s33.2.f7.length cs33_2_f7]) (by rfl) sz54 (by kernel_rfl) (by kernel_rfl) (by kernel_rfl) (Free.zero _) (Nat.le_of_ble_eq_true rfl) (cells' := #[.int .i64 s33.2.f2, .int .i64 s33.2.f3, .int .i64 s33.2.f4, .slice As33_2_f5 s33.2.f5.length cs33_2_f5, .slice As33_2_f6 s33.2.f6.length cs33_2_f6, .slice As33_2_f7 s33.2.f7.length cs33_2_f7]) (by kernel_rfl)) ?_
          rintro _ _ _ ⟨rfl, rfl, rfl⟩
          refine WL.restQ 5 [4, 5] (L' := [(4, .pointer (some ⟨b1, 0, none⟩)), (5, .int .i64 0)]) (by kernel_rfl) ?_
          refine WP.dropAt 1 ?_
          refine WP.dropAt 0 ?_
          refine WP.ret ?_
          obtain rfl := Option.some.inj h
          exact QP.returnedM (rs := [.cell 4 54, .tmp 5]) (by kernel_rfl) (ResAll.cons (Res1.box (p := 4) (i := 3) (o := 0) (agg := true) (by rfl) ag54 (by kernel_rfl) (fun h => by cases h) (Nat.le_of_ble_eq_true rfl) (v := .agg #[.int .i64 s33.2.f2, .int .i64 s33.2.f3, .int .i64 s33.2.f4, .slice As33_2_f5 s33.2.f5.length cs33_2_f5, .slice As33_2_f6 s33.2.f6.length cs33_2_f6, .slice As33_2_f7 s33.2.f7.length cs33_2_f7]) (by kernel_rfl)) (ResAll.cons (Res1.tmp (t := 5) (v := .int .i64 0) (by kernel_rfl)) ResAll.nil)) (by kernel_rfl) (fun W hI => ⟨_, _, _, rfl, ⟨As33_2_f5, cs33_2_f5, Cs33_2_f5, As33_2_f6, cs33_2_f6, Cs33_2_f6, As33_2_f7, cs33_2_f7, Cs33_2_f7, rfl, Hs33_2_f5, Hs33_2_f6, Hs33_2_f7, rfl, rfl⟩, (hI.less 3 rfl)⟩)

/-! ### grapevine/grapevinelaw0.SameRecords: function 65 -/
def grapevinelaw0_SameRecords_l0 (l0 : List T39) (l1 : List T39) : Nat → Int → Option (Sum Bool Unit)
  | 0, _ => none
  | k + 1, y4 => (if y4 < (l0.length : Int) then (if 0 ≤ y4 ∧ y4 < (l0.length : Int) then (if 0 ≤ y4 ∧ y4 < (l1.length : Int) then (if ¬ (l0.getD y4.toNat z39) = (l1.getD y4.toNat z39) then some (Sum.inl false) else grapevinelaw0_SameRecords_l0 l0 l1 k (IntKind.i64.wrap (y4 + 1))) else none) else none) else some (Sum.inr ()))
def grapevinelaw0_SameRecords (k : Nat) (l0 : List T39) (l1 : List T39) : Option Bool := (if ¬ (l0.length : Int) = (l1.length : Int) then some false else ((grapevinelaw0_SameRecords_l0 l0 l1 k 0).bind fun os2 => match os2 with | Sum.inl r => some r | Sum.inr s2 => some true))
set_option maxHeartbeats 4000000 in
theorem grapevinelaw0_SameRecords_calls {B : World} {G : GMap} {Γ : List Chunk} {W : World} (k : Nat) (l0 : List T39) (l1 : List T39) (Al0 : Option Addr) (cl0 : Nat) (Hl0 : Rd k39 G Al0 cl0 l0) (Al1 : Option Addr) (cl1 : Nat) (Hl1 : Rd k39 G Al1 cl1 l1) (r : Bool) (h : grapevinelaw0_SameRecords k l0 l1 = some r) (hI : Inv B G (Γ) W) :
    Calls Tryd.prog 65 [.slice Al0 l0.length cl0, .slice Al1 l1.length cl1].toArray W (Ret B (fun v G' Γ' => v = .bool r ∧ G = G' ∧ Γ = Γ')) := by
  refine calls_WP (Γ := Γ) (G := G) (B := B) Tryd.func65 rfl (by kernel_rfl) ?_ hI
  clear hI
  unfold grapevinelaw0_SameRecords at h
  refine WP.seqP [0, 1] (L' := [(0, .slice Al0 l0.length cl0), (1, .slice Al1 l1.length cl1)]) (by kernel_rfl) ?_
  refine WP.seq ?_
  refine WP.seqP [0, 1, 10] (L' := [(0, .slice Al0 l0.length cl0), (1, .slice Al1 l1.length cl1), (10, .bool ((l0.length : Int) != (l1.length : Int)))]) (by kernel_rfl) ?_
  refine WP.cond (b := ((l0.length : Int) != (l1.length : Int))) (by kernel_rfl) (fun hc => ?_) (fun hc => ?_)
  · replace hc := (bne_iff_ne.1 hc)
    rw [if_pos hc] at h
    have hc1 := hc
    clear hc
    refine WP.seqP [4] (L' := [(4, .bool false)]) (by kernel_rfl) ?_
    refine WP.ret ?_
    refine QP.thenR ?_
    obtain rfl := Option.some.inj h
    exact QP.returned [4] [.bool false] _ (by kernel_rfl) (by kernel_rfl) (by kernel_rfl) (fun W hI => ⟨_, _, _, rfl, ⟨rfl, rfl, rfl⟩, hI⟩)
  · replace hc := (not_not_intro (bne_eq_false_iff_eq.1 hc))
    rw [if_neg hc] at h
    have hc1 := hc
    clear hc
    refine WP.skip ?_
    refine QP.next ?_
    refine WP.pick [0, 1] ?_
    refine WP.seq ?_
    refine WP.seqP [0, 1, 5] (L' := [(0, .slice Al0 l0.length cl0), (1, .slice Al1 l1.length cl1), (5, .int .i64 0)]) (by kernel_rfl) ?_
    rw [Option.bind_eq_some_iff] at h
    obtain ⟨os2, h, hk3⟩ := h
    refine WP.cutQ (fun L' G' Γ' => ∃ s2 : Unit, Sum.inr s2 = os2 ∧ L' = [] ∧ G = G' ∧ Γ = Γ') ?_ ?_
    · skip
      refine WP.block ?_
      refine WP.pick [0, 1, 5] ?_
      refine WP.loopF (fun kn5 L' G' Γ' => ∃ (y4 : Int), grapevinelaw0_SameRecords_l0 l0 l1 kn5 y4 = some os2 ∧ L' = [(0, .slice Al0 l0.length cl0), (1, .slice Al1 l1.length cl1), (5, .int .i64 y4)] ∧ G = G' ∧ Γ = Γ') ?_ k ⟨0, h, rfl, rfl, rfl⟩
      clear h
      rintro kn6 _ _ _ ⟨y4, h, rfl, rfl, rfl⟩
      cases kn6 with
      | zero => exact absurd h (by simp [grapevinelaw0_SameRecords_l0])
      | succ kn6 =>
        simp only [grapevinelaw0_SameRecords_l0] at h
        refine WP.seq ?_
        refine WP.seqP [0, 1, 5, 14] (L' := [(0, .slice Al0 l0.length cl0), (1, .slice Al1 l1.length cl1), (5, .int .i64 y4), (14, .bool (decide (y4 < (l0.length : Int))))]) (by kernel_rfl) ?_
        refine WP.cond (b := decide (y4 < (l0.length : Int))) (by kernel_rfl) (fun hc => ?_) (fun hc => ?_)
        · replace hc := of_decide_eq_true hc
          rw [if_pos hc] at h
          have hc7 := hc
          clear hc
          refine WP.skip ?_
          refine QP.next ?_
          refine WP.pick [0, 1, 5] ?_
          refine WP.seq ?_
          refine WP.block ?_
          refine WP.seq ?_
          refine WP.any (N := 9) (S := [⟨some 17, [0], []⟩, ⟨some 18, [5], []⟩, ⟨some 19, [17, 18], [0, 1]⟩, ⟨some 20, [19], [2]⟩, ⟨some 21, [1], []⟩, ⟨some 22, [5], []⟩, ⟨some 23, [21, 22], [4, 5]⟩, ⟨some 24, [23], [6]⟩, ⟨some 25, [20, 24], [3, 7]⟩]) (kw := 9) (G0 := G) (Γ0 := Γ) mo (by kernel_rfl) (fun hS => ?_)
          refine WA.pure [0, 1, 4, 5] [0, 1, 5, 17, 18, 21, 22] (m := 5) (b' := 51) (L' := [(0, .slice Al0 l0.length cl0), (1, .slice Al1 l1.length cl1), (5, .int .i64 y4), (17, .slice Al0 l0.length cl0), (18, .int .i64 y4), (21, .slice Al1 l1.length cl1), (22, .int .i64 y4)]) (by kernel_rfl) (NoPanic.then (NoPanic.block (NoPanic.then (NoPanic.then (NoPanic.block (NoPanic.then (NoPanic.then (NoPanic.body)))))))) Under.refl hS (by kernel_rfl) ?_
          by_cases hb8 : 0 ≤ y4 ∧ y4 < (l0.length : Int)
          case neg => rw [if_neg hb8] at h; cases h
          rw [if_pos hb8] at h
          refine WA.tellD [] (i := 2) (m := 4) (b' := 55) (by kernel_rfl) (NoPanic.then (NoPanic.block (NoPanic.then (NoPanic.then (NoPanic.block (NoPanic.then (NoPanic.then (NoPanic.body)))))))) Under.refl hS (by kernel_rfl) (op := .indexAddr 52 (.tmp 17) (.tmp 18)) (ty := 0) (d := some 19) (g := none) (by kernel_rfl) (by kernel_rfl) (by kernel_rfl) (Tells.indexAddr (A := Al0) (n := l0.length) (c := cl0) (k := .i64) (j := y4) (by kernel_rfl) (by kernel_rfl) (Hl0.isSome hb8.1 hb8.2) hb8.1 hb8.2 sl52) ?_
          refine WA.tellDE [] (i := 3) (m := 3) (b' := 63) (by kernel_rfl) (NoPanic.then (NoPanic.block (NoPanic.then (NoPanic.then (NoPanic.block (NoPanic.then (NoPanic.then (NoPanic.body)))))))) Under.refl hS (by kernel_rfl) (op := .load 39 (.tmp 19)) (ty := 39) (d := some 20) (g := none) (by kernel_rfl) (by kernel_rfl) (by kernel_rfl) (Hl0.load (agg := true) hb8.1 hb8.2 z39 ag39 (fun h => by cases h) (by kernel_rfl)) ?_
          rintro _ rfl
          by_cases hb9 : 0 ≤ y4 ∧ y4 < (l1.length : Int)
          case neg => rw [if_neg hb9] at h; cases h
          rw [if_pos hb9] at h
          refine WA.tellD [] (i := 6) (m := 2) (b' := 127) (by kernel_rfl) (NoPanic.then (NoPanic.block (NoPanic.then (NoPanic.then (NoPanic.block (NoPanic.then (NoPanic.then (NoPanic.body)))))))) Under.refl hS (by kernel_rfl) (op := .indexAddr 52 (.tmp 21) (.tmp 22)) (ty := 0) (d := some 23) (g := none) (by kernel_rfl) (by kernel_rfl) (by kernel_rfl) (Tells.indexAddr (A := Al1) (n := l1.length) (c := cl1) (k := .i64) (j := y4) (by kernel_rfl) (by kernel_rfl) (Hl1.isSome hb9.1 hb9.2) hb9.1 hb9.2 sl52) ?_
          refine WA.tellDE [] (i := 7) (m := 1) (b' := 255) (by kernel_rfl) (NoPanic.then (NoPanic.block (NoPanic.then (NoPanic.then (NoPanic.block (NoPanic.then (NoPanic.then (NoPanic.body)))))))) Under.refl hS (by kernel_rfl) (op := .load 39 (.tmp 23)) (ty := 39) (d := some 24) (g := none) (by kernel_rfl) (by kernel_rfl) (by kernel_rfl) (Hl1.load (agg := true) hb9.1 hb9.2 z39 ag39 (fun h => by cases h) (by kernel_rfl)) ?_
          rintro _ rfl
          refine WA.tellD [] (i := 8) (m := 0) (b' := 511) (by kernel_rfl) (NoPanic.then (NoPanic.block (NoPanic.then (NoPanic.then (NoPanic.block (NoPanic.then (NoPanic.then (NoPanic.body)))))))) Under.refl hS (by kernel_rfl) (op := .binOp .neq 39 (.tmp 20) (.tmp 24) 39) (ty := 4) (d := some 25) (g := none) (by kernel_rfl) (by kernel_rfl) (by kernel_rfl) (Tells.neAgg (xs := #[.int .i64 ((l0.getD y4.toNat z39).f0), .int .i64 ((l0.getD y4.toNat z39).f1), .int .i64 ((l0.getD y4.toNat z39).f2), .int .i64 ((l0.getD y4.toNat z39).f3), .string ((l0.getD y4.toNat z39).f4)]) (ys := #[.int .i64 ((l1.getD y4.toNat z39).f0), .int .i64 ((l1.getD y4.toNat z39).f1), .int .i64 ((l1.getD y4.toNat z39).f2), .int .i64 ((l1.getD y4.toNat z39).f3), .string ((l1.getD y4.toNat z39).f4)]) (ls := [.int ((l0.getD y4.toNat z39).f0) ((l1.getD y4.toNat z39).f0), .int ((l0.getD y4.toNat z39).f1) ((l1.getD y4.toNat z39).f1), .int ((l0.getD y4.toNat z39).f2) ((l1.getD y4.toNat z39).f2), .int ((l0.getD y4.toNat z39).f3) ((l1.getD y4.toNat z39).f3), .str ((l0.getD y4.toNat z39).f4) ((l1.getD y4.toNat z39).f4)]) (by kernel_rfl) (by kernel_rfl) (by kernel_rfl) eg39) ?_
          refine WA.reput 25 (v := .bool (!([.int ((l0.getD y4.toNat z39).f0) ((l1.getD y4.toNat z39).f0), .int ((l0.getD y4.toNat z39).f1) ((l1.getD y4.toNat z39).f1), .int ((l0.getD y4.toNat z39).f2) ((l1.getD y4.toNat z39).f2), .int ((l0.getD y4.toNat z39).f3) ((l1.getD y4.toNat z39).f3), .str ((l0.getD y4.toNat z39).f4) ((l1.getD y4.toNat z39).f4)].all Lf.ok))) (v' := .bool (!decide ((l0.getD y4.toNat z39) = (l1.getD y4.toNat z39)))) (by kernel_rfl) (by exact (congrArg (fun z => Value.bool (!z)) (eqT39 (l0.getD y4.toNat z39) (l1.getD y4.toNat z39)))) ?_
          refine WA.done hS (by kernel_rfl) ?_
          refine QP.pick [0, 1, 5, 25] ?_
          refine QP.next ?_
          refine WP.cond (b := (!decide ((l0.getD y4.toNat z39) = (l1.getD y4.toNat z39)))) (by kernel_rfl) (fun hc => ?_) (fun hc => ?_)
          · replace hc := (nd_true hc)
            rw [if_pos hc] at h
            have hc10 := hc
            clear hc
            refine WP.seqP [4] (L' := [(4, .bool false)]) (by kernel_rfl) ?_
            refine WP.ret ?_
            refine QP.blockR ?_
            refine QP.thenR ?_
            refine QP.thenR ?_
            refine QP.blockR ?_
            refine QP.thenR ?_
            refine QP.thenR ?_
            obtain rfl := Option.some.inj h
            obtain rfl := Option.some.inj (show some _ = some _ from hk3)
            exact QP.returned [4] [.bool false] _ (by kernel_rfl) (by kernel_rfl) (by kernel_rfl) (fun W hI => ⟨_, _, _, rfl, ⟨rfl, rfl, rfl⟩, hI⟩)
          · replace hc := (nd_false hc)
            rw [if_neg hc] at h
            have hc10 := hc
            clear hc
            refine WP.skip ?_
            refine QP.blockN ?_
            refine QP.next ?_
            refine WP.pick [0, 1, 5] ?_
            refine WP.regionP [0, 1, 5] (L' := [(0, .slice Al0 l0.length cl0), (1, .slice Al1 l1.length cl1), (5, .int .i64 (IntKind.i64.wrap (y4 + 1)))]) (by kernel_rfl) ?_
            refine QP.pick [0, 1, 5] ?_
            exact QP.meet ⟨kn6, Nat.lt_succ_self _, (IntKind.i64.wrap (y4 + 1)), h, rfl, rfl, rfl⟩
        · replace hc := of_decide_eq_false hc
          rw [if_neg hc] at h
          have hc7 := hc
          clear hc
          refine WP.exit ?_
          refine QP.thenE ?_
          refine QP.thenE ?_
          refine QP.blockE ?_
          refine QP.pick [] ?_
          exact QP.meet ⟨_, Option.some.inj h, rfl, rfl, rfl⟩
    · rintro _ _ _ ⟨s2, rfl, rfl, rfl, rfl⟩
      clear h
      replace h := hk3
      refine QP.next ?_
      refine WP.pick [] ?_
      refine WP.seqP [4] (L' := [(4, .bool true)]) (by kernel_rfl) ?_
      refine WP.ret ?_
      obtain rfl := Option.some.inj h
      exact QP.returned [4] [.bool true] _ (by kernel_rfl) (by kernel_rfl) (by kernel_rfl) (fun W hI => ⟨_, _, _, rfl, ⟨rfl, rfl, rfl⟩, hI⟩)

/-! ### grapevine/grapevinelaw0.SameMessage: function 32 -/
def grapevinelaw0_SameMessage (k : Nat) (a0 : T54) (a1 : T54) : Option Bool := ((if a0.f0 = a1.f0 then (if a0.f1 = a1.f1 then (if a0.f2 = a1.f2 then ((grapevinelaw0_SameInts k a0.f3 a1.f3).bind fun t8 => (if t8 = true then ((grapevinelaw0_SameInts k a0.f4 a1.f4).bind fun t13 => (if t13 = true then ((grapevinelaw0_SameRecords k a0.f5 a1.f5).bind fun t18 => some t18) else some false)) else some false)) else some false) else some false) else some false).bind fun s3 => some s3)
set_option maxHeartbeats 4000000 in
theorem grapevinelaw0_SameMessage_calls {B : World} {G : GMap} {Γ : List Chunk} {W : World} (k : Nat) (a0 : T54) (a1 : T54) (Aa0_f3 : Option Addr) (ca0_f3 : Nat) (Ha0_f3 : Rd (kInt .i64) G Aa0_f3 ca0_f3 a0.f3) (Aa0_f4 : Option Addr) (ca0_f4 : Nat) (Ha0_f4 : Rd (kInt .i64) G Aa0_f4 ca0_f4 a0.f4) (Aa0_f5 : Option Addr) (ca0_f5 : Nat) (Ha0_f5 : Rd k39 G Aa0_f5 ca0_f5 a0.f5) (Aa1_f3 : Option Addr) (ca1_f3 : Nat) (Ha1_f3 : Rd (kInt .i64) G Aa1_f3 ca1_f3 a1.f3) (Aa1_f4 : Option Addr) (ca1_f4 : Nat) (Ha1_f4 : Rd (kInt .i64) G Aa1_f4 ca1_f4 a1.f4) (Aa1_f5 : Option Addr) (ca1_f5 : Nat) (Ha1_f5 : Rd k39 G Aa1_f5 ca1_f5 a1.f5) (r : Bool) (h : grapevinelaw0_SameMessage k a0 a1 = some r) (hI : Inv B G (Γ) W) :
    Calls Tryd.prog 32 [.agg #[.int .i64 a0.f0, .int .i64 a0.f1, .int .i64 a0.f2, .slice Aa0_f3 a0.f3.length ca0_f3, .slice Aa0_f4 a0.f4.length ca0_f4, .slice Aa0_f5 a0.f5.length ca0_f5], .agg #[.int .i64 a1.f0, .int .i64 a1.f1, .int .i64 a1.f2, .slice Aa1_f3 a1.f3.length ca1_f3, .slice Aa1_f4 a1.f4.length ca1_f4, .slice Aa1_f5 a1.f5.length ca1_f5]].toArray W (Ret B (fun v G' Γ' => v = .bool r ∧ G = G' ∧ Γ = Γ')) := by
  refine calls_WP (Γ := Γ) (G := G) (B := B) Tryd.func32 rfl (by kernel_rfl) ?_ hI
  clear hI
  unfold grapevinelaw0_SameMessage at h
  refine WP.seqR ?_
  refine WL.op (op := .box 54 (.tmp 0)) (ty := 0) (d := some 2) (g := none) (by kernel_rfl) (by kernel_rfl) (by kernel_rfl) (Does.new (o := .cells #[.int .i64 a0.f0, .int .i64 a0.f1, .int .i64 a0.f2, .slice Aa0_f3 a0.f3.length ca0_f3, .slice Aa0_f4 a0.f4.length ca0_f4, .slice Aa0_f5 a0.f5.length ca0_f5] 54 (0, 0)) (v := fun r => .pointer (some ⟨r, 0, none⟩)) (fun r => by kernel_rfl)) ?_
  rintro _ _ _ ⟨b1, rfl, rfl, rfl⟩
  refine WL.op (op := .box 54 (.tmp 1)) (ty := 0) (d := some 3) (g := none) (by kernel_rfl) (by kernel_rfl) (by kernel_rfl) (Does.new (o := .cells #[.int .i64 a1.f0, .int .i64 a1.f1, .int .i64 a1.f2, .slice Aa1_f3 a1.f3.length ca1_f3, .slice Aa1_f4 a1.f4.length ca1_f4, .slice Aa1_f5 a1.f5.length ca1_f5] 54 (0, 0)) (v := fun r => .pointer (some ⟨r, 0, none⟩)) (fun r => by kernel_rfl)) ?_
  rintro _ _ _ ⟨b2, rfl, rfl, rfl⟩
  refine WL.restQ 2 [2, 3] (L' := [(2, .pointer (some ⟨b1, 0, none⟩)), (3, .pointer (some ⟨b2, 0, none⟩))]) (by kernel_rfl) ?_
  rw [Option.bind_eq_some_iff] at h
  obtain ⟨os3, h, hk4⟩ := h
  refine WP.cut (fun L' G' Γ' => ∃ s3 : Bool, s3 = os3 ∧ L' = [(4, .bool s3)] ∧ G = G' ∧ Γ = Γ') ?_ ?_
  · clear hk4
    refine WP.region ?_
    refine WL.pure 0 1 [2, 3, 5] (L' := [(2, .pointer (some ⟨b1, 0, none⟩)), (3, .pointer (some ⟨b2, 0, none⟩)), (5, .pointer (some ⟨b1, 0, none⟩))]) (by kernel_rfl) (by decide) ?_
    refine WL.tell (op := .load 3 (.tmp 5)) (ty := 3) (d := some 6) (g := none) (by kernel_rfl) (by kernel_rfl) (by kernel_rfl) (Tells.load_box (i := 1) (b := b1) (o := 0) (agg := false) (by rfl) ag3 (by kernel_rfl) (fun _ => rfl) (Nat.le_of_ble_eq_true rfl) (v := .int .i64 a0.f0) (by kernel_rfl)) ?_
    refine WL.pure 2 3 [2, 3, 6, 7] (L' := [(2, .pointer (some ⟨b1, 0, none⟩)), (3, .pointer (some ⟨b2, 0, none⟩)), (6, .int .i64 a0.f0), (7, .pointer (some ⟨b2, 0, none⟩))]) (by kernel_rfl) (by decide) ?_
    refine WL.tell (op := .load 3 (.tmp 7)) (ty := 3) (d := some 8) (g := none) (by kernel_rfl) (by kernel_rfl) (by kernel_rfl) (Tells.load_box (i := 0) (b := b2) (o := 0) (agg := false) (by rfl) ag3 (by kernel_rfl) (fun _ => rfl) (Nat.le_of_ble_eq_true rfl) (v := .int .i64 a1.f0) (by kernel_rfl)) ?_
    refine WL.pure 4 6 [2, 3, 10] (L' := [(2, .pointer (some ⟨b1, 0, none⟩)), (3, .pointer (some ⟨b2, 0, none⟩)), (10, .bool (a0.f0 == a1.f0))]) (by kernel_rfl) (by decide) ?_
    refine WL.split 10 (b := (a0.f0 == a1.f0)) (by kernel_rfl) (fun hc => ?_) (fun hc => ?_)
    · replace hc := eq_of_beq hc
      rw [if_pos hc] at h
      have hc5 := hc
      clear hc
      refine WL.pure 6 7 [2, 3, 10, 11] (L' := [(2, .pointer (some ⟨b1, 0, none⟩)), (3, .pointer (some ⟨b2, 0, none⟩)), (10, .bool true), (11, .pointer (some ⟨b1, 1, none⟩))]) (by kernel_rfl) (by decide) ?_
      refine WL.tell (op := .load 3 (.tmp 11)) (ty := 3) (d := some 12) (g := some (5, true)) (by kernel_rfl) (by kernel_rfl) (by kernel_rfl) (Tells.load_box (i := 1) (b := b1) (o := 1) (agg := false) (by rfl) ag3 (by kernel_rfl) (fun _ => rfl) (Nat.le_of_ble_eq_true rfl) (v := .int .i64 a0.f1) (by kernel_rfl)) ?_
      refine WL.pure 8 9 [2, 3, 10, 12, 13] (L' := [(2, .pointer (some ⟨b1, 0, none⟩)), (3, .pointer (some ⟨b2, 0, none⟩)), (10, .bool true), (12, .int .i64 a0.f1), (13, .pointer (some ⟨b2, 1, none⟩))]) (by kernel_rfl) (by decide) ?_
      refine WL.tell (op := .load 3 (.tmp 13)) (ty := 3) (d := some 14) (g := some (5, true)) (by kernel_rfl) (by kernel_rfl) (by kernel_rfl) (Tells.load_box (i := 0) (b := b2) (o := 1) (agg := false) (by rfl) ag3 (by kernel_rfl) (fun _ => rfl) (Nat.le_of_ble_eq_true rfl) (v := .int .i64 a1.f1) (by kernel_rfl)) ?_
      refine WL.pure 10 13 [2, 3, 17] (L' := [(2, .pointer (some ⟨b1, 0, none⟩)), (3, .pointer (some ⟨b2, 0, none⟩)), (17, .bool (a0.f1 == a1.f1))]) (by kernel_rfl) (by decide) ?_
      refine WL.split 17 (b := (a0.f1 == a1.f1)) (by kernel_rfl) (fun hc => ?_) (fun hc => ?_)
      · replace hc := eq_of_beq hc
        rw [if_pos hc] at h
        have hc6 := hc
        clear hc
        refine WL.pure 13 14 [2, 3, 17, 18] (L' := [(2, .pointer (some ⟨b1, 0, none⟩)), (3, .pointer (some ⟨b2, 0, none⟩)), (17, .bool true), (18, .pointer (some ⟨b1, 2, none⟩))]) (by kernel_rfl) (by decide) ?_
        refine WL.tell (op := .load 3 (.tmp 18)) (ty := 3) (d := some 19) (g := some (12, true)) (by kernel_rfl) (by kernel_rfl) (by kernel_rfl) (Tells.load_box (i := 1) (b := b1) (o := 2) (agg := false) (by rfl) ag3 (by kernel_rfl) (fun _ => rfl) (Nat.le_of_ble_eq_true rfl) (v := .int .i64 a0.f2) (by kernel_rfl)) ?_
        refine WL.pure 15 16 [2, 3, 17, 19, 20] (L' := [(2, .pointer (some ⟨b1, 0, none⟩)), (3, .pointer (some ⟨b2, 0, none⟩)), (17, .bool true), (19, .int .i64 a0.f2), (20, .pointer (some ⟨b2, 2, none⟩))]) (by kernel_rfl) (by decide) ?_
        refine WL.tell (op := .load 3 (.tmp 20)) (ty := 3) (d := some 21) (g := some (12, true)) (by kernel_rfl) (by kernel_rfl) (by kernel_rfl) (Tells.load_box (i := 0) (b := b2) (o := 2) (agg := false) (by rfl) ag3 (by kernel_rfl) (fun _ => rfl) (Nat.le_of_ble_eq_true rfl) (v := .int .i64 a1.f2) (by kernel_rfl)) ?_
        refine WL.pure 17 20 [2, 3, 24] (L' := [(2, .pointer (some ⟨b1, 0, none⟩)), (3, .pointer (some ⟨b2, 0, none⟩)), (24, .bool (a0.f2 == a1.f2))]) (by kernel_rfl) (by decide) ?_
        refine WL.split 24 (b := (a0.f2 == a1.f2)) (by kernel_rfl) (fun hc => ?_) (fun hc => ?_)
        · replace hc := eq_of_beq hc
          rw [if_pos hc] at h
          have hc7 := hc
          clear hc
          refine WL.pure 20 21 [2, 3, 24, 25] (L' := [(2, .pointer (some ⟨b1, 0, none⟩)), (3, .pointer (some ⟨b2, 0, none⟩)), (24, .bool true), (25, .pointer (some ⟨b1, 3, none⟩))]) (by kernel_rfl) (by decide) ?_
          refine WL.tell (op := .load 32 (.tmp 25)) (ty := 32) (d := some 26) (g := some (19, true)) (by kernel_rfl) (by kernel_rfl) (by kernel_rfl) (Tells.load_box (i := 1) (b := b1) (o := 3) (agg := false) (by rfl) ag32 (by kernel_rfl) (fun _ => rfl) (Nat.le_of_ble_eq_true rfl) (v := .slice Aa0_f3 a0.f3.length ca0_f3) (by kernel_rfl)) ?_
          refine WL.pure 22 23 [2, 3, 24, 26, 27] (L' := [(2, .pointer (some ⟨b1, 0, none⟩)), (3, .pointer (some ⟨b2, 0, none⟩)), (24, .bool true), (26, .slice Aa0_f3 a0.f3.length ca0_f3), (27, .pointer (some ⟨b2, 3, none⟩))]) (by kernel_rfl) (by decide) ?_
          refine WL.tell (op := .load 32 (.tmp 27)) (ty := 32) (d := some 28) (g := some (19, true)) (by kernel_rfl) (by kernel_rfl) (by kernel_rfl) (Tells.load_box (i := 0) (b := b2) (o := 3) (agg := false) (by rfl) ag32 (by kernel_rfl) (fun _ => rfl) (Nat.le_of_ble_eq_true rfl) (v := .slice Aa1_f3 a1.f3.length ca1_f3) (by kernel_rfl)) ?_
          rw [Option.bind_eq_some_iff] at h
          obtain ⟨t8, ht9, h⟩ := h
          refine WL.op (op := .call { callee := (.value (.func 41)), args := #[(.tmp 26), (.tmp 28)], argTypes := #[32, 32] }) (ty := 4) (d := some 29) (g := some (19, true)) (by kernel_rfl) (by kernel_rfl) (by kernel_rfl) (Does.call (f := 41) (args := [.slice Aa0_f3 a0.f3.length ca0_f3, .slice Aa1_f3 a1.f3.length ca1_f3]) (by kernel_rfl) (fun W hI => (grapevinelaw0_SameInts_calls k a0.f3 a1.f3 Aa0_f3 ca0_f3 Ha0_f3 Aa1_f3 ca1_f3 Ha1_f3 t8 ht9 hI))) ?_
          rintro _ _ _ ⟨rfl, rfl, rfl⟩
          refine WL.pure 25 27 [2, 3, 31] (L' := [(2, .pointer (some ⟨b1, 0, none⟩)), (3, .pointer (some ⟨b2, 0, none⟩)), (31, .bool t8)]) (by kernel_rfl) (by decide) ?_
          refine WL.split 31 (b := t8) (by kernel_rfl) (fun hc => ?_) (fun hc => ?_)
          · replace hc := hc
            rw [if_pos hc] at h
            have hc12 := hc
            clear hc
            refine WL.pure 27 28 [2, 3, 31, 32] (L' := [(2, .pointer (some ⟨b1, 0, none⟩)), (3, .pointer (some ⟨b2, 0, none⟩)), (31, .bool true), (32, .pointer (some ⟨b1, 4, none⟩))]) (by kernel_rfl) (by decide) ?_
            refine WL.tell (op := .load 32 (.tmp 32)) (ty := 32) (d := some 33) (g := some (26, true)) (by kernel_rfl) (by kernel_rfl) (by kernel_rfl) (Tells.load_box (i := 1) (b := b1) (o := 4) (agg := false) (by rfl) ag32 (by kernel_rfl) (fun _ => rfl) (Nat.le_of_ble_eq_true rfl) (v := .slice Aa0_f4 a0.f4.length ca0_f4) (by kernel_rfl)) ?_
            refine WL.pure 29 30 [2, 3, 31, 33, 34] (L' := [(2, .pointer (some ⟨b1, 0, none⟩)), (3, .pointer (some ⟨b2, 0, none⟩)), (31, .bool true), (33, .slice Aa0_f4 a0.f4.length ca0_f4), (34, .pointer (some ⟨b2, 4, none⟩))]) (by kernel_rfl) (by decide) ?_
            refine WL.tell (op := .load 32 (.tmp 34)) (ty := 32) (d := some 35) (g := some (26, true)) (by kernel_rfl) (by kernel_rfl) (by kernel_rfl) (Tells.load_box (i := 0) (b := b2) (o := 4) (agg := false) (by rfl) ag32 (by kernel_rfl) (fun _ => rfl) (Nat.le_of_ble_eq_true rfl) (v := .slice Aa1_f4 a1.f4.length ca1_f4) (by kernel_rfl)) ?_
            rw [Option.bind_eq_some_iff] at h
            obtain ⟨t13, ht14, h⟩ := h
            refine WL.op (op := .call { callee := (.value (.func 41)), args := #[(.tmp 33), (.tmp 35)], argTypes := #[32, 32] }) (ty := 4) (d := some 36) (g := some (26, true)) (by kernel_rfl) (by kernel_rfl) (by kernel_rfl) (Does.call (f := 41) (args := [.slice Aa0_f4 a0.f4.length ca0_f4, .slice Aa1_f4 a1.f4.length ca1_f4]) (by kernel_rfl) (fun W hI => (grapevinelaw0_SameInts_calls k a0.f4 a1.f4 Aa0_f4 ca0_f4 Ha0_f4 Aa1_f4 ca1_f4 Ha1_f4 t13 ht14 hI))) ?_
            rintro _ _ _ ⟨rfl, rfl, rfl⟩
            refine WL.pure 32 34 [2, 3, 38] (L' := [(2, .pointer (some ⟨b1, 0, none⟩)), (3, .pointer (some ⟨b2, 0, none⟩)), (38, .bool t13)]) (by kernel_rfl) (by decide) ?_
            refine WL.split 38 (b := t13) (by kernel_rfl) (fun hc => ?_) (fun hc => ?_)
            · replace hc := hc
              rw [if_pos hc] at h
              have hc17 := hc
              clear hc
              refine WL.pure 34 35 [3, 38, 39] (L' := [(3, .pointer (some ⟨b2, 0, none⟩)), (38, .bool true), (39, .pointer (some ⟨b1, 5, none⟩))]) (by kernel_rfl) (by decide) ?_
              refine WL.tell (op := .load 52 (.tmp 39)) (ty := 52) (d := some 40) (g := some (33, true)) (by kernel_rfl) (by kernel_rfl) (by kernel_rfl) (Tells.load_box (i := 1) (b := b1) (o := 5) (agg := false) (by rfl) ag52 (by kernel_rfl) (fun _ => rfl) (Nat.le_of_ble_eq_true rfl) (v := .slice Aa0_f5 a0.f5.length ca0_f5) (by kernel_rfl)) ?_
              refine WL.pure 36 37 [38, 40, 41] (L' := [(38, .bool true), (40, .slice Aa0_f5 a0.f5.length ca0_f5), (41, .pointer (some ⟨b2, 5, none⟩))]) (by kernel_rfl) (by decide) ?_
              refine WL.tell (op := .load 52 (.tmp 41)) (ty := 52) (d := some 42) (g := some (33, true)) (by kernel_rfl) (by kernel_rfl) (by kernel_rfl) (Tells.load_box (i := 0) (b := b2) (o := 5) (agg := false) (by rfl) ag52 (by kernel_rfl) (fun _ => rfl) (Nat.le_of_ble_eq_true rfl) (v := .slice Aa1_f5 a1.f5.length ca1_f5) (by kernel_rfl)) ?_
              rw [Option.bind_eq_some_iff] at h
              obtain ⟨t18, ht19, h⟩ := h
              refine WL.op (op := .call { callee := (.value (.func 65)), args := #[(.tmp 40), (.tmp 42)], argTypes := #[52, 52] }) (ty := 4) (d := some 43) (g := some (33, true)) (by kernel_rfl) (by kernel_rfl) (by kernel_rfl) (Does.call (f := 65) (args := [.slice Aa0_f5 a0.f5.length ca0_f5, .slice Aa1_f5 a1.f5.length ca1_f5]) (by kernel_rfl) (fun W hI => (grapevinelaw0_SameRecords_calls k a0.f5 a1.f5 Aa0_f5 ca0_f5 Ha0_f5 Aa1_f5 ca1_f5 Ha1_f5 t18 ht19 hI))) ?_
              rintro _ _ _ ⟨rfl, rfl, rfl⟩
              refine WL.rest 39 [4] (L' := [(4, .bool t18)]) (by kernel_rfl) ?_
              refine QP.dropAt 1 ?_
              refine QP.dropAt 0 ?_
              refine QP.pick [4] ?_
              exact QP.meet ⟨_, Option.some.inj h, rfl, rfl, rfl⟩
            · replace hc := (Bool.eq_false_iff.1 hc)
              rw [if_neg hc] at h
              have hc17 := hc
              clear hc
              refine WL.rest 34 [4] (L' := [(4, .bool false)]) (by kernel_rfl) ?_
              refine QP.dropAt 1 ?_
              refine QP.dropAt 0 ?_
              refine QP.pick [4] ?_
              exact QP.meet ⟨_, Option.some.inj h, rfl, rfl, rfl⟩
          · replace hc := (Bool.eq_false_iff.1 hc)
            rw [if_neg hc] at h
            have hc12 := hc
            clear hc
            refine WL.rest 27 [4] (L' := [(4, .bool false)]) (by kernel_rfl) ?_
            refine QP.dropAt 1 ?_
            refine QP.dropAt 0 ?_
            refine QP.pick [4] ?_
            exact QP.meet ⟨_, Option.some.inj h, rfl, rfl, rfl⟩
        · replace hc := ne_of_beq_false hc
          rw [if_neg hc] at h
          have hc7 := hc
          clear hc
          refine WL.rest 20 [4] (L' := [(4, .bool false)]) (by kernel_rfl) ?_
          refine QP.dropAt 1 ?_
          refine QP.dropAt 0 ?_
          refine QP.pick [4] ?_
          exact QP.meet ⟨_, Option.some.inj h, rfl, rfl, rfl⟩
      · replace hc := ne_of_beq_false hc
        rw [if_neg hc] at h
        have hc6 := hc
        clear hc
        refine WL.rest 13 [4] (L' := [(4, .bool false)]) (by kernel_rfl) ?_
        refine QP.dropAt 1 ?_
        refine QP.dropAt 0 ?_
        refine QP.pick [4] ?_
        exact QP.meet ⟨_, Option.some.inj h, rfl, rfl, rfl⟩
    · replace hc := ne_of_beq_false hc
      rw [if_neg hc] at h
      have hc5 := hc
      clear hc
      refine WL.rest 6 [4] (L' := [(4, .bool false)]) (by kernel_rfl) ?_
      refine QP.dropAt 1 ?_
      refine QP.dropAt 0 ?_
      refine QP.pick [4] ?_
      exact QP.meet ⟨_, Option.some.inj h, rfl, rfl, rfl⟩
  · rintro _ _ _ ⟨s3, rfl, rfl, rfl, rfl⟩
    clear h
    replace h := hk4
    refine WP.ret ?_
    obtain rfl := Option.some.inj h
    exact QP.returned [4] [.bool s3] _ (by kernel_rfl) (by kernel_rfl) (by kernel_rfl) (fun W hI => ⟨_, _, _, rfl, ⟨rfl, rfl, rfl⟩, hI⟩)

/-! ### slices.EqualFunc[[]grapevine/api.Record,[]grapevine/api.Record,grapevine/api.Record,grapevine/api.Record]: function 64 -/
def api_Record_l0 (l0 : List T39) (l1 : List T39) : Nat → Int → Option (Sum Bool Unit)
  | 0, _ => none
  | k + 1, y4 => (if y4 < (l0.length : Int) then (if 0 ≤ y4 ∧ y4 < (l0.length : Int) then (if 0 ≤ y4 ∧ y4 < (l1.length : Int) then ((record_Same (⟨(l0.getD y4.toNat z39).f0, (l0.getD y4.toNat z39).f1, (l0.getD y4.toNat z39).f2, (l0.getD y4.toNat z39).f3, (l0.getD y4.toNat z39).f4⟩ : T39) (⟨(l1.getD y4.toNat z39).f0, (l1.getD y4.toNat z39).f1, (l1.getD y4.toNat z39).f2, (l1.getD y4.toNat z39).f3, (l1.getD y4.toNat z39).f4⟩ : T39)).bind fun t12 => (if (!t12) = true then some (Sum.inl false) else api_Record_l0 l0 l1 k (IntKind.i64.wrap (y4 + 1)))) else none) else none) else some (Sum.inr ()))
def api_Record (k : Nat) (l0 : List T39) (l1 : List T39) : Option Bool := (if ¬ (l0.length : Int) = (l1.length : Int) then some false else ((api_Record_l0 l0 l1 k 0).bind fun os2 => match os2 with | Sum.inl r => some r | Sum.inr s2 => some true))
set_option maxHeartbeats 4000000 in
theorem api_Record_calls {B : World} {G : GMap} {Γ : List Chunk} {W : World} (k : Nat) (l0 : List T39) (l1 : List T39) (Al0 : Option Addr) (cl0 : Nat) (Hl0 : Rd k39 G Al0 cl0 l0) (Al1 : Option Addr) (cl1 : Nat) (Hl1 : Rd k39 G Al1 cl1 l1) (r : Bool) (h : api_Record k l0 l1 = some r) (hI : Inv B G (Γ) W) :
    Calls Tryd.prog 64 [.slice Al0 l0.length cl0, .slice Al1 l1.length cl1, .func (.func 52) #[] #[]].toArray W (Ret B (fun v G' Γ' => v = .bool r ∧ G = G' ∧ Γ = Γ')) := by
  refine calls_WP (Γ := Γ) (G := G) (B := B) Tryd.func64 rfl (by kernel_rfl) ?_ hI
  clear hI
  unfold api_Record at h
  refine WP.seqP [0, 1, 2] (L' := [(0, .slice Al0 l0.length cl0), (1, .slice Al1 l1.length cl1), (2, .func (.func 52) #[] #[])]) (by kernel_rfl) ?_
  refine WP.seq ?_
  refine WP.seqP [0, 1, 2, 14] (L' := [(0, .slice Al0 l0.length cl0), (1, .slice Al1 l1.length cl1), (2, .func (.func 52) #[] #[]), (14, .bool ((l0.length : Int) != (l1.length : Int)))]) (by kernel_rfl) ?_
  refine WP.cond (b := ((l0.length : Int) != (l1.length : Int))) (by kernel_rfl) (fun hc => ?_) (fun hc => ?_)
  · replace hc := (bne_iff_ne.1 hc)
    rw [if_pos hc] at h
    have hc1 := hc
    clear hc
    refine WP.seqP [6] (L' := [(6, .bool false)]) (by kernel_rfl) ?_
    refine WP.ret ?_
    refine QP.thenR ?_
    obtain rfl := Option.some.inj h
    exact QP.returned [6] [.bool false] _ (by kernel_rfl) (by kernel_rfl) (by kernel_rfl) (fun W hI => ⟨_, _, _, rfl, ⟨rfl, rfl, rfl⟩, hI⟩)
  · replace hc := (not_not_intro (bne_eq_false_iff_eq.1 hc))
    rw [if_neg hc] at h
    have hc1 := hc
    clear hc
    refine WP.skip ?_
    refine QP.next ?_
    refine WP.pick [0, 1, 2] ?_
    refine WP.seq ?_
    refine WP.seqP [1, 2, 15, 16, 17] (L' := [(1, .slice Al1 l1.length cl1), (2, .func (.func 52) #[] #[]), (15, .slice Al0 l0.length cl0), (16, .int .i64 (l0.length : Int)), (17, .int .i64 0)]) (by kernel_rfl) ?_
    rw [Option.bind_eq_some_iff] at h
    obtain ⟨os2, h, hk3⟩ := h
    refine WP.cutQ (fun L' G' Γ' => ∃ s2 : Unit, Sum.inr s2 = os2 ∧ L' = [] ∧ G = G' ∧ Γ = Γ') ?_ ?_
    · skip
      refine WP.block ?_
      refine WP.pick [1, 2, 15, 16, 17] ?_
      refine WP.loopF (fun kn5 L' G' Γ' => ∃ (y4 : Int), api_Record_l0 l0 l1 kn5 y4 = some os2 ∧ L' = [(1, .slice Al1 l1.length cl1), (2, .func (.func 52) #[] #[]), (15, .slice Al0 l0.length cl0), (16, .int .i64 (l0.length : Int)), (17, .int .i64 y4)] ∧ G = G' ∧ Γ = Γ') ?_ k ⟨0, h, rfl, rfl, rfl⟩
      clear h
      rintro kn6 _ _ _ ⟨y4, h, rfl, rfl, rfl⟩
      cases kn6 with
      | zero => exact absurd h (by simp [api_Record_l0])
      | succ kn6 =>
        simp only [api_Record_l0] at h
        refine WP.seqP [1, 2, 15, 16, 17, 18] (L' := [(1, .slice Al1 l1.length cl1), (2, .func (.func 52) #[] #[]), (15, .slice Al0 l0.length cl0), (16, .int .i64 (l0.length : Int)), (17, .int .i64 y4), (18, .bool (decide (y4 < (l0.length : Int))))]) (by kernel_rfl) ?_
        refine WP.seq ?_
        refine WP.cond (b := decide (y4 < (l0.length : Int))) (by kernel_rfl) (fun hc => ?_) (fun hc => ?_)
        · replace hc := of_decide_eq_true hc
          rw [if_pos hc] at h
          have hc7 := hc
          clear hc
          refine WP.skip ?_
          refine QP.next ?_
          refine WP.pick [1, 2, 15, 16, 17] ?_
          refine WP.seq ?_
          refine WP.block ?_
          refine WP.seqR ?_
          refine WL.pure 0 1 [1, 2, 15, 16, 17, 19] (L' := [(1, .slice Al1 l1.length cl1), (2, .func (.func 52) #[] #[]), (15, .slice Al0 l0.length cl0), (16, .int .i64 (l0.length : Int)), (17, .int .i64 y4), (19, .int .i64 y4)]) (by kernel_rfl) (by decide) ?_
          by_cases hb8 : 0 ≤ y4 ∧ y4 < (l0.length : Int)
          case neg => rw [if_neg hb8] at h; cases h
          rw [if_pos hb8] at h
          refine WL.tell (op := .indexAddr 52 (.tmp 15) (.tmp 17)) (ty := 0) (d := some 20) (g := none) (by kernel_rfl) (by kernel_rfl) (by kernel_rfl) (Tells.indexAddr (A := Al0) (n := l0.length) (c := cl0) (k := .i64) (j := y4) (by kernel_rfl) (by kernel_rfl) (Hl0.isSome hb8.1 hb8.2) hb8.1 hb8.2 sl52) ?_
          refine WL.tellE (op := .load 39 (.tmp 20)) (ty := 39) (d := some 21) (g := none) (by kernel_rfl) (by kernel_rfl) (by kernel_rfl) (Hl0.load (agg := true) hb8.1 hb8.2 z39 ag39 (fun h => by cases h) (by kernel_rfl)) ?_
          rintro _ rfl
          refine WL.op (op := .alloc 39) (ty := 0) (d := some 8) (g := none) (by kernel_rfl) (by kernel_rfl) (by kernel_rfl) (Does.new (o := .cells #[.int .i64 0, .int .i64 0, .int .i64 0, .int .i64 0, .string (⟨#[]⟩ : ByteArray)] 39 (0, 0)) (v := fun r => .pointer (some ⟨r, 0, none⟩)) (fun r => by kernel_rfl)) ?_
          rintro _ _ _ ⟨b9, rfl, rfl, rfl⟩
          refine WL.pure 4 5 [1, 2, 7, 8, 15, 16, 17, 21] (L' := [(1, .slice Al1 l1.length cl1), (2, .func (.func 52) #[] #[]), (7, .int .i64 y4), (8, .pointer (some ⟨b9, 0, none⟩)), (15, .slice Al0 l0.length cl0), (16, .int .i64 (l0.length : Int)), (17, .int .i64 y4), (21, .agg #[.int .i64 ((l0.getD y4.toNat z39).f0), .int .i64 ((l0.getD y4.toNat z39).f1), .int .i64 ((l0.getD y4.toNat z39).f2), .int .i64 ((l0.getD y4.toNat z39).f3), .string ((l0.getD y4.toNat z39).f4)])]) (by kernel_rfl) (by decide) ?_
          refine WL.op (op := .store 39 (.tmp 8) (.tmp 21)) (ty := 0) (d := none) (g := none) (by kernel_rfl) (by kernel_rfl) (by kernel_rfl) (Does.store_box (i := 0) (b := b9) (o := 0) (v := .agg #[.int .i64 ((l0.getD y4.toNat z39).f0), .int .i64 ((l0.getD y4.toNat z39).f1), .int .i64 ((l0.getD y4.toNat z39).f2), .int .i64 ((l0.getD y4.toNat z39).f3), .string ((l0.getD y4.toNat z39).f4)]) (by rfl) sz39 (by kernel_rfl) (by kernel_rfl) (by kernel_rfl) (Free.zero _) (Nat.le_of_ble_eq_true rfl) (cells' := #[.int .i64 ((l0.getD y4.toNat z39).f0), .int .i64 ((l0.getD y4.toNat z39).f1), .int .i64 ((l0.getD y4.toNat z39).f2), .int .i64 ((l0.getD y4.toNat z39).f3), .string ((l0.getD y4.toNat z39).f4)]) (by kernel_rfl)) ?_
          rintro _ _ _ ⟨rfl, rfl, rfl⟩
          refine WL.restQ 6 [1, 2, 7, 8, 15, 16, 17] (L' := [(1, .slice Al1 l1.length cl1), (2, .func (.func 52) #[] #[]), (7, .int .i64 y4), (8, .pointer (some ⟨b9, 0, none⟩)), (15, .slice Al0 l0.length cl0), (16, .int .i64 (l0.length : Int)), (17, .int .i64 y4)]) (by kernel_rfl) ?_
          refine WP.seqR ?_
          refine WL.pure 0 2 [1, 2, 8, 15, 16, 17, 22, 23] (L' := [(1, .slice Al1 l1.length cl1), (2, .func (.func 52) #[] #[]), (8, .pointer (some ⟨b9, 0, none⟩)), (15, .slice Al0 l0.length cl0), (16, .int .i64 (l0.length : Int)), (17, .int .i64 y4), (22, .slice Al1 l1.length cl1), (23, .int .i64 y4)]) (by kernel_rfl) (by decide) ?_
          by_cases hb10 : 0 ≤ y4 ∧ y4 < (l1.length : Int)
          case neg => rw [if_neg hb10] at h; cases h
          rw [if_pos hb10] at h
          refine WL.tell (op := .indexAddr 52 (.tmp 22) (.tmp 23)) (ty := 0) (d := some 24) (g := none) (by kernel_rfl) (by kernel_rfl) (by kernel_rfl) (Tells.indexAddr (A := Al1) (n := l1.length) (c := cl1) (k := .i64) (j := y4) (by kernel_rfl) (by kernel_rfl) (Hl1.isSome hb10.1 hb10.2) hb10.1 hb10.2 sl52) ?_
          refine WL.tellE (op := .load 39 (.tmp 24)) (ty := 39) (d := some 25) (g := none) (by kernel_rfl) (by kernel_rfl) (by kernel_rfl) (Hl1.load (agg := true) hb10.1 hb10.2 z39 ag39 (fun h => by cases h) (by kernel_rfl)) ?_
          rintro _ rfl
          refine WL.op (op := .alloc 39) (ty := 0) (d := some 9) (g := none) (by kernel_rfl) (by kernel_rfl) (by kernel_rfl) (Does.new (o := .cells #[.int .i64 0, .int .i64 0, .int .i64 0, .int .i64 0, .string (⟨#[]⟩ : ByteArray)] 39 (0, 0)) (v := fun r => .pointer (some ⟨r, 0, none⟩)) (fun r => by kernel_rfl)) ?_
          rintro _ _ _ ⟨b11, rfl, rfl, rfl⟩
          refine WL.op (op := .store 39 (.tmp 9) (.tmp 25)) (ty := 0) (d := none) (g := none) (by kernel_rfl) (by kernel_rfl) (by kernel_rfl) (Does.store_box (i := 0) (b := b11) (o := 0) (v := .agg #[.int .i64 ((l1.getD y4.toNat z39).f0), .int .i64 ((l1.getD y4.toNat z39).f1), .int .i64 ((l1.getD y4.toNat z39).f2), .int .i64 ((l1.getD y4.toNat z39).f3), .string ((l1.getD y4.toNat z39).f4)]) (by rfl) sz39 (by kernel_rfl) (by kernel_rfl) (by kernel_rfl) (Free.zero _) (Nat.le_of_ble_eq_true rfl) (cells' := #[.int .i64 ((l1.getD y4.toNat z39).f0), .int .i64 ((l1.getD y4.toNat z39).f1), .int .i64 ((l1.getD y4.toNat z39).f2), .int .i64 ((l1.getD y4.toNat z39).f3), .string ((l1.getD y4.toNat z39).f4)]) (by kernel_rfl)) ?_
          rintro _ _ _ ⟨rfl, rfl, rfl⟩
          refine WL.restQ 6 [1, 2, 8, 9, 15, 16, 17] (L' := [(1, .slice Al1 l1.length cl1), (2, .func (.func 52) #[] #[]), (8, .pointer (some ⟨b9, 0, none⟩)), (9, .pointer (some ⟨b11, 0, none⟩)), (15, .slice Al0 l0.length cl0), (16, .int .i64 (l0.length : Int)), (17, .int .i64 y4)]) (by kernel_rfl) ?_
          refine WP.seqR ?_
          refine WL.pure 0 1 [1, 2, 8, 9, 15, 16, 17, 26] (L' := [(1, .slice Al1 l1.length cl1), (2, .func (.func 52) #[] #[]), (8, .pointer (some ⟨b9, 0, none⟩)), (9, .pointer (some ⟨b11, 0, none⟩)), (15, .slice Al0 l0.length cl0), (16, .int .i64 (l0.length : Int)), (17, .int .i64 y4), (26, .func (.func 52) #[] #[])]) (by kernel_rfl) (by decide) ?_
          refine WL.tell (op := .load 39 (.tmp 8)) (ty := 39) (d := some 27) (g := none) (by kernel_rfl) (by kernel_rfl) (by kernel_rfl) (Tells.load_box (i := 1) (b := b9) (o := 0) (agg := true) (by rfl) ag39 (by kernel_rfl) (fun h => by cases h) (Nat.le_of_ble_eq_true rfl) (v := .agg #[.int .i64 ((l0.getD y4.toNat z39).f0), .int .i64 ((l0.getD y4.toNat z39).f1), .int .i64 ((l0.getD y4.toNat z39).f2), .int .i64 ((l0.getD y4.toNat z39).f3), .string ((l0.getD y4.toNat z39).f4)]) (by kernel_rfl)) ?_
          refine WL.tell (op := .load 39 (.tmp 9)) (ty := 39) (d := some 28) (g := none) (by kernel_rfl) (by kernel_rfl) (by kernel_rfl) (Tells.load_box (i := 0) (b := b11) (o := 0) (agg := true) (by rfl) ag39 (by kernel_rfl) (fun h => by cases h) (Nat.le_of_ble_eq_true rfl) (v := .agg #[.int .i64 ((l1.getD y4.toNat z39).f0), .int .i64 ((l1.getD y4.toNat z39).f1), .int .i64 ((l1.getD y4.toNat z39).f2), .int .i64 ((l1.getD y4.toNat z39).f3), .string ((l1.getD y4.toNat z39).f4)]) (by kernel_rfl)) ?_
          rw [Option.bind_eq_some_iff] at h
          obtain ⟨t12, ht13, h⟩ := h
          refine WL.op (op := .call { callee := (.value (.tmp 26)), args := #[(.tmp 27), (.tmp 28)], argTypes := #[39, 39] }) (ty := 4) (d := some 29) (g := none) (by kernel_rfl) (by kernel_rfl) (by kernel_rfl) (Does.call (f := 52) (args := [.agg #[.int .i64 ((l0.getD y4.toNat z39).f0), .int .i64 ((l0.getD y4.toNat z39).f1), .int .i64 ((l0.getD y4.toNat z39).f2), .int .i64 ((l0.getD y4.toNat z39).f3), .string ((l0.getD y4.toNat z39).f4)], .agg #[.int .i64 ((l1.getD y4.toNat z39).f0), .int .i64 ((l1.getD y4.toNat z39).f1), .int .i64 ((l1.getD y4.toNat z39).f2), .int .i64 ((l1.getD y4.toNat z39).f3), .string ((l1.getD y4.toNat z39).f4)]]) (by kernel_rfl) (fun W hI => (record_Same_calls (⟨(l0.getD y4.toNat z39).f0, (l0.getD y4.toNat z39).f1, (l0.getD y4.toNat z39).f2, (l0.getD y4.toNat z39).f3, (l0.getD y4.toNat z39).f4⟩ : T39) (⟨(l1.getD y4.toNat z39).f0, (l1.getD y4.toNat z39).f1, (l1.getD y4.toNat z39).f2, (l1.getD y4.toNat z39).f3, (l1.getD y4.toNat z39).f4⟩ : T39)  t12 ht13 hI))) ?_
          rintro _ _ _ ⟨rfl, rfl, rfl⟩
          refine WL.restQ 4 [1, 2, 15, 16, 17, 30] (L' := [(1, .slice Al1 l1.length cl1), (2, .func (.func 52) #[] #[]), (15, .slice Al0 l0.length cl0), (16, .int .i64 (l0.length : Int)), (17, .int .i64 y4), (30, .bool (!t12))]) (by kernel_rfl) ?_
          refine WP.dropAt 1 ?_
          refine WP.dropAt 0 ?_
          refine WP.cond (b := (!t12)) (by kernel_rfl) (fun hc => ?_) (fun hc => ?_)
          · replace hc := hc
            rw [if_pos hc] at h
            have hc16 := hc
            clear hc
            refine WP.seqP [6] (L' := [(6, .bool false)]) (by kernel_rfl) ?_
            refine WP.ret ?_
            refine QP.blockR ?_
            refine QP.thenR ?_
            refine QP.thenR ?_
            refine QP.blockR ?_
            refine QP.thenR ?_
            refine QP.thenR ?_
            obtain rfl := Option.some.inj h
            obtain rfl := Option.some.inj (show some _ = some _ from hk3)
            exact QP.returned [6] [.bool false] _ (by kernel_rfl) (by kernel_rfl) (by kernel_rfl) (fun W hI => ⟨_, _, _, rfl, ⟨rfl, rfl, rfl⟩, hI⟩)
          · replace hc := (Bool.eq_false_iff.1 hc)
            rw [if_neg hc] at h
            have hc16 := hc
            clear hc
            refine WP.skip ?_
            refine QP.blockN ?_
            refine QP.next ?_
            refine WP.pick [1, 2, 15, 16, 17] ?_
            refine WP.regionP [1, 2, 15, 16, 17] (L' := [(1, .slice Al1 l1.length cl1), (2, .func (.func 52) #[] #[]), (15, .slice Al0 l0.length cl0), (16, .int .i64 (l0.length : Int)), (17, .int .i64 (IntKind.i64.wrap (y4 + 1)))]) (by kernel_rfl) ?_
            refine QP.pick [1, 2, 15, 16, 17] ?_
            exact QP.meet ⟨kn6, Nat.lt_succ_self _, (IntKind.i64.wrap (y4 + 1)), h, rfl, rfl, rfl⟩
        · replace hc := of_decide_eq_false hc
          rw [if_neg hc] at h
          have hc7 := hc
          clear hc
          refine WP.exit ?_
          refine QP.thenE ?_
          refine QP.thenE ?_
          refine QP.blockE ?_
          refine QP.pick [] ?_
          exact QP.meet ⟨_, Option.some.inj h, rfl, rfl, rfl⟩
    · rintro _ _ _ ⟨s2, rfl, rfl, rfl, rfl⟩
      clear h
      replace h := hk3
      refine QP.next ?_
      refine WP.pick [] ?_
      refine WP.seqP [6] (L' := [(6, .bool true)]) (by kernel_rfl) ?_
      refine WP.ret ?_
      obtain rfl := Option.some.inj h
      exact QP.returned [6] [.bool true] _ (by kernel_rfl) (by kernel_rfl) (by kernel_rfl) (fun W hI => ⟨_, _, _, rfl, ⟨rfl, rfl, rfl⟩, hI⟩)

/-! ### grapevine/talk.Same: function 31 -/
def talk_Same (k : Nat) (a0 : T54) (a1 : T54) : Option Bool := ((if a0.f0 = a1.f0 then (if a0.f1 = a1.f1 then (if a0.f2 = a1.f2 then ((slices_Equal_int_int k a0.f3 a1.f3).bind fun t8 => (if t8 = true then ((slices_Equal_int_int k a0.f4 a1.f4).bind fun t13 => (if t13 = true then ((api_Record k a0.f5 a1.f5).bind fun t18 => some t18) else some false)) else some false)) else some false) else some false) else some false).bind fun s3 => some s3)
set_option maxHeartbeats 4000000 in
theorem talk_Same_calls {B : World} {G : GMap} {Γ : List Chunk} {W : World} (k : Nat) (a0 : T54) (a1 : T54) (Aa0_f3 : Option Addr) (ca0_f3 : Nat) (Ha0_f3 : Rd (kInt .i64) G Aa0_f3 ca0_f3 a0.f3) (Aa0_f4 : Option Addr) (ca0_f4 : Nat) (Ha0_f4 : Rd (kInt .i64) G Aa0_f4 ca0_f4 a0.f4) (Aa0_f5 : Option Addr) (ca0_f5 : Nat) (Ha0_f5 : Rd k39 G Aa0_f5 ca0_f5 a0.f5) (Aa1_f3 : Option Addr) (ca1_f3 : Nat) (Ha1_f3 : Rd (kInt .i64) G Aa1_f3 ca1_f3 a1.f3) (Aa1_f4 : Option Addr) (ca1_f4 : Nat) (Ha1_f4 : Rd (kInt .i64) G Aa1_f4 ca1_f4 a1.f4) (Aa1_f5 : Option Addr) (ca1_f5 : Nat) (Ha1_f5 : Rd k39 G Aa1_f5 ca1_f5 a1.f5) (r : Bool) (h : talk_Same k a0 a1 = some r) (hI : Inv B G (Γ) W) :
    Calls Tryd.prog 31 [.agg #[.int .i64 a0.f0, .int .i64 a0.f1, .int .i64 a0.f2, .slice Aa0_f3 a0.f3.length ca0_f3, .slice Aa0_f4 a0.f4.length ca0_f4, .slice Aa0_f5 a0.f5.length ca0_f5], .agg #[.int .i64 a1.f0, .int .i64 a1.f1, .int .i64 a1.f2, .slice Aa1_f3 a1.f3.length ca1_f3, .slice Aa1_f4 a1.f4.length ca1_f4, .slice Aa1_f5 a1.f5.length ca1_f5]].toArray W (Ret B (fun v G' Γ' => v = .bool r ∧ G = G' ∧ Γ = Γ')) := by
  refine calls_WP (Γ := Γ) (G := G) (B := B) Tryd.func31 rfl (by kernel_rfl) ?_ hI
  clear hI
  unfold talk_Same at h
  refine WP.seqR ?_
  refine WL.op (op := .box 54 (.tmp 0)) (ty := 0) (d := some 2) (g := none) (by kernel_rfl) (by kernel_rfl) (by kernel_rfl) (Does.new (o := .cells #[.int .i64 a0.f0, .int .i64 a0.f1, .int .i64 a0.f2, .slice Aa0_f3 a0.f3.length ca0_f3, .slice Aa0_f4 a0.f4.length ca0_f4, .slice Aa0_f5 a0.f5.length ca0_f5] 54 (0, 0)) (v := fun r => .pointer (some ⟨r, 0, none⟩)) (fun r => by kernel_rfl)) ?_
  rintro _ _ _ ⟨b1, rfl, rfl, rfl⟩
  refine WL.op (op := .box 54 (.tmp 1)) (ty := 0) (d := some 3) (g := none) (by kernel_rfl) (by kernel_rfl) (by kernel_rfl) (Does.new (o := .cells #[.int .i64 a1.f0, .int .i64 a1.f1, .int .i64 a1.f2, .slice Aa1_f3 a1.f3.length ca1_f3, .slice Aa1_f4 a1.f4.length ca1_f4, .slice Aa1_f5 a1.f5.length ca1_f5] 54 (0, 0)) (v := fun r => .pointer (some ⟨r, 0, none⟩)) (fun r => by kernel_rfl)) ?_
  rintro _ _ _ ⟨b2, rfl, rfl, rfl⟩
  refine WL.restQ 2 [2, 3] (L' := [(2, .pointer (some ⟨b1, 0, none⟩)), (3, .pointer (some ⟨b2, 0, none⟩))]) (by kernel_rfl) ?_
  rw [Option.bind_eq_some_iff] at h
  obtain ⟨os3, h, hk4⟩ := h
  refine WP.cut (fun L' G' Γ' => ∃ s3 : Bool, s3 = os3 ∧ L' = [(4, .bool s3)] ∧ G = G' ∧ Γ = Γ') ?_ ?_
  · clear hk4
    refine WP.region ?_
    refine WL.pure 0 1 [2, 3, 5] (L' := [(2, .pointer (some ⟨b1, 0, none⟩)), (3, .pointer (some ⟨b2, 0, none⟩)), (5, .pointer (some ⟨b1, 0, none⟩))]) (by kernel_rfl) (by decide) ?_
    refine WL.tell (op := .load 3 (.tmp 5)) (ty := 3) (d := some 6) (g := none) (by kernel_rfl) (by kernel_rfl) (by kernel_rfl) (Tells.load_box (i := 1) (b := b1) (o := 0) (agg := false) (by rfl) ag3 (by kernel_rfl) (fun _ => rfl) (Nat.le_of_ble_eq_true rfl) (v := .int .i64 a0.f0) (by kernel_rfl)) ?_
    refine WL.pure 2 3 [2, 3, 6, 7] (L' := [(2, .pointer (some ⟨b1, 0, none⟩)), (3, .pointer (some ⟨b2, 0, none⟩)), (6, .int .i64 a0.f0), (7, .pointer (some ⟨b2, 0, none⟩))]) (by kernel_rfl) (by decide) ?_
    refine WL.tell (op := .load 3 (.tmp 7)) (ty := 3) (d := some 8) (g := none) (by kernel_rfl) (by kernel_rfl) (by kernel_rfl) (Tells.load_box (i := 0) (b := b2) (o := 0) (agg := false) (by rfl) ag3 (by kernel_rfl) (fun _ => rfl) (Nat.le_of_ble_eq_true rfl) (v := .int .i64 a1.f0) (by kernel_rfl)) ?_
    refine WL.pure 4 6 [2, 3, 10] (L' := [(2, .pointer (some ⟨b1, 0, none⟩)), (3, .pointer (some ⟨b2, 0, none⟩)), (10, .bool (a0.f0 == a1.f0))]) (by kernel_rfl) (by decide) ?_
    refine WL.split 10 (b := (a0.f0 == a1.f0)) (by kernel_rfl) (fun hc => ?_) (fun hc => ?_)
    · replace hc := eq_of_beq hc
      rw [if_pos hc] at h
      have hc5 := hc
      clear hc
      refine WL.pure 6 7 [2, 3, 10, 11] (L' := [(2, .pointer (some ⟨b1, 0, none⟩)), (3, .pointer (some ⟨b2, 0, none⟩)), (10, .bool true), (11, .pointer (some ⟨b1, 1, none⟩))]) (by kernel_rfl) (by decide) ?_
      refine WL.tell (op := .load 3 (.tmp 11)) (ty := 3) (d := some 12) (g := some (5, true)) (by kernel_rfl) (by kernel_rfl) (by kernel_rfl) (Tells.load_box (i := 1) (b := b1) (o := 1) (agg := false) (by rfl) ag3 (by kernel_rfl) (fun _ => rfl) (Nat.le_of_ble_eq_true rfl) (v := .int .i64 a0.f1) (by kernel_rfl)) ?_
      refine WL.pure 8 9 [2, 3, 10, 12, 13] (L' := [(2, .pointer (some ⟨b1, 0, none⟩)), (3, .pointer (some ⟨b2, 0, none⟩)), (10, .bool true), (12, .int .i64 a0.f1), (13, .pointer (some ⟨b2, 1, none⟩))]) (by kernel_rfl) (by decide) ?_
      refine WL.tell (op := .load 3 (.tmp 13)) (ty := 3) (d := some 14) (g := some (5, true)) (by kernel_rfl) (by kernel_rfl) (by kernel_rfl) (Tells.load_box (i := 0) (b := b2) (o := 1) (agg := false) (by rfl) ag3 (by kernel_rfl) (fun _ => rfl) (Nat.le_of_ble_eq_true rfl) (v := .int .i64 a1.f1) (by kernel_rfl)) ?_
      refine WL.pure 10 13 [2, 3, 17] (L' := [(2, .pointer (some ⟨b1, 0, none⟩)), (3, .pointer (some ⟨b2, 0, none⟩)), (17, .bool (a0.f1 == a1.f1))]) (by kernel_rfl) (by decide) ?_
      refine WL.split 17 (b := (a0.f1 == a1.f1)) (by kernel_rfl) (fun hc => ?_) (fun hc => ?_)
      · replace hc := eq_of_beq hc
        rw [if_pos hc] at h
        have hc6 := hc
        clear hc
        refine WL.pure 13 14 [2, 3, 17, 18] (L' := [(2, .pointer (some ⟨b1, 0, none⟩)), (3, .pointer (some ⟨b2, 0, none⟩)), (17, .bool true), (18, .pointer (some ⟨b1, 2, none⟩))]) (by kernel_rfl) (by decide) ?_
        refine WL.tell (op := .load 3 (.tmp 18)) (ty := 3) (d := some 19) (g := some (12, true)) (by kernel_rfl) (by kernel_rfl) (by kernel_rfl) (Tells.load_box (i := 1) (b := b1) (o := 2) (agg := false) (by rfl) ag3 (by kernel_rfl) (fun _ => rfl) (Nat.le_of_ble_eq_true rfl) (v := .int .i64 a0.f2) (by kernel_rfl)) ?_
        refine WL.pure 15 16 [2, 3, 17, 19, 20] (L' := [(2, .pointer (some ⟨b1, 0, none⟩)), (3, .pointer (some ⟨b2, 0, none⟩)), (17, .bool true), (19, .int .i64 a0.f2), (20, .pointer (some ⟨b2, 2, none⟩))]) (by kernel_rfl) (by decide) ?_
        refine WL.tell (op := .load 3 (.tmp 20)) (ty := 3) (d := some 21) (g := some (12, true)) (by kernel_rfl) (by kernel_rfl) (by kernel_rfl) (Tells.load_box (i := 0) (b := b2) (o := 2) (agg := false) (by rfl) ag3 (by kernel_rfl) (fun _ => rfl) (Nat.le_of_ble_eq_true rfl) (v := .int .i64 a1.f2) (by kernel_rfl)) ?_
        refine WL.pure 17 20 [2, 3, 24] (L' := [(2, .pointer (some ⟨b1, 0, none⟩)), (3, .pointer (some ⟨b2, 0, none⟩)), (24, .bool (a0.f2 == a1.f2))]) (by kernel_rfl) (by decide) ?_
        refine WL.split 24 (b := (a0.f2 == a1.f2)) (by kernel_rfl) (fun hc => ?_) (fun hc => ?_)
        · replace hc := eq_of_beq hc
          rw [if_pos hc] at h
          have hc7 := hc
          clear hc
          refine WL.pure 20 21 [2, 3, 24, 25] (L' := [(2, .pointer (some ⟨b1, 0, none⟩)), (3, .pointer (some ⟨b2, 0, none⟩)), (24, .bool true), (25, .pointer (some ⟨b1, 3, none⟩))]) (by kernel_rfl) (by decide) ?_
          refine WL.tell (op := .load 32 (.tmp 25)) (ty := 32) (d := some 26) (g := some (19, true)) (by kernel_rfl) (by kernel_rfl) (by kernel_rfl) (Tells.load_box (i := 1) (b := b1) (o := 3) (agg := false) (by rfl) ag32 (by kernel_rfl) (fun _ => rfl) (Nat.le_of_ble_eq_true rfl) (v := .slice Aa0_f3 a0.f3.length ca0_f3) (by kernel_rfl)) ?_
          refine WL.pure 22 23 [2, 3, 24, 26, 27] (L' := [(2, .pointer (some ⟨b1, 0, none⟩)), (3, .pointer (some ⟨b2, 0, none⟩)), (24, .bool true), (26, .slice Aa0_f3 a0.f3.length ca0_f3), (27, .pointer (some ⟨b2, 3, none⟩))]) (by kernel_rfl) (by decide) ?_
          refine WL.tell (op := .load 32 (.tmp 27)) (ty := 32) (d := some 28) (g := some (19, true)) (by kernel_rfl) (by kernel_rfl) (by kernel_rfl) (Tells.load_box (i := 0) (b := b2) (o := 3) (agg := false) (by rfl) ag32 (by kernel_rfl) (fun _ => rfl) (Nat.le_of_ble_eq_true rfl) (v := .slice Aa1_f3 a1.f3.length ca1_f3) (by kernel_rfl)) ?_
          rw [Option.bind_eq_some_iff] at h
          obtain ⟨t8, ht9, h⟩ := h
          refine WL.op (op := .call { callee := (.value (.func 51)), args := #[(.tmp 26), (.tmp 28)], argTypes := #[32, 32] }) (ty := 4) (d := some 29) (g := some (19, true)) (by kernel_rfl) (by kernel_rfl) (by kernel_rfl) (Does.call (f := 51) (args := [.slice Aa0_f3 a0.f3.length ca0_f3, .slice Aa1_f3 a1.f3.length ca1_f3]) (by kernel_rfl) (fun W hI => (slices_Equal_int_int_calls k a0.f3 a1.f3 Aa0_f3 ca0_f3 Ha0_f3 Aa1_f3 ca1_f3 Ha1_f3 t8 ht9 hI))) ?_
          rintro _ _ _ ⟨rfl, rfl, rfl⟩
          refine WL.pure 25 27 [2, 3, 31] (L' := [(2, .pointer (some ⟨b1, 0, none⟩)), (3, .pointer (some ⟨b2, 0, none⟩)), (31, .bool t8)]) (by kernel_rfl) (by decide) ?_
          refine WL.split 31 (b := t8) (by kernel_rfl) (fun hc => ?_) (fun hc => ?_)
          · replace hc := hc
            rw [if_pos hc] at h
            have hc12 := hc
            clear hc
            refine WL.pure 27 28 [2, 3, 31, 32] (L' := [(2, .pointer (some ⟨b1, 0, none⟩)), (3, .pointer (some ⟨b2, 0, none⟩)), (31, .bool true), (32, .pointer (some ⟨b1, 4, none⟩))]) (by kernel_rfl) (by decide) ?_
            refine WL.tell (op := .load 32 (.tmp 32)) (ty := 32) (d := some 33) (g := some (26, true)) (by kernel_rfl) (by kernel_rfl) (by kernel_rfl) (Tells.load_box (i := 1) (b := b1) (o := 4) (agg := false) (by rfl) ag32 (by kernel_rfl) (fun _ => rfl) (Nat.le_of_ble_eq_true rfl) (v := .slice Aa0_f4 a0.f4.length ca0_f4) (by kernel_rfl)) ?_
            refine WL.pure 29 30 [2, 3, 31, 33, 34] (L' := [(2, .pointer (some ⟨b1, 0, none⟩)), (3, .pointer (some ⟨b2, 0, none⟩)), (31, .bool true), (33, .slice Aa0_f4 a0.f4.length ca0_f4), (34, .pointer (some ⟨b2, 4, none⟩))]) (by kernel_rfl) (by decide) ?_
            refine WL.tell (op := .load 32 (.tmp 34)) (ty := 32) (d := some 35) (g := some (26, true)) (by kernel_rfl) (by kernel_rfl) (by kernel_rfl) (Tells.load_box (i := 0) (b := b2) (o := 4) (agg := false) (by rfl) ag32 (by kernel_rfl) (fun _ => rfl) (Nat.le_of_ble_eq_true rfl) (v := .slice Aa1_f4 a1.f4.length ca1_f4) (by kernel_rfl)) ?_
            rw [Option.bind_eq_some_iff] at h
            obtain ⟨t13, ht14, h⟩ := h
            refine WL.op (op := .call { callee := (.value (.func 51)), args := #[(.tmp 33), (.tmp 35)], argTypes := #[32, 32] }) (ty := 4) (d := some 36) (g := some (26, true)) (by kernel_rfl) (by kernel_rfl) (by kernel_rfl) (Does.call (f := 51) (args := [.slice Aa0_f4 a0.f4.length ca0_f4, .slice Aa1_f4 a1.f4.length ca1_f4]) (by kernel_rfl) (fun W hI => (slices_Equal_int_int_calls k a0.f4 a1.f4 Aa0_f4 ca0_f4 Ha0_f4 Aa1_f4 ca1_f4 Ha1_f4 t13 ht14 hI))) ?_
            rintro _ _ _ ⟨rfl, rfl, rfl⟩
            refine WL.pure 32 34 [2, 3, 38] (L' := [(2, .pointer (some ⟨b1, 0, none⟩)), (3, .pointer (some ⟨b2, 0, none⟩)), (38, .bool t13)]) (by kernel_rfl) (by decide) ?_
            refine WL.split 38 (b := t13) (by kernel_rfl) (fun hc => ?_) (fun hc => ?_)
            · replace hc := hc
              rw [if_pos hc] at h
              have hc17 := hc
              clear hc
              refine WL.pure 34 35 [3, 38, 39] (L' := [(3, .pointer (some ⟨b2, 0, none⟩)), (38, .bool true), (39, .pointer (some ⟨b1, 5, none⟩))]) (by kernel_rfl) (by decide) ?_
              refine WL.tell (op := .load 52 (.tmp 39)) (ty := 52) (d := some 40) (g := some (33, true)) (by kernel_rfl) (by kernel_rfl) (by kernel_rfl) (Tells.load_box (i := 1) (b := b1) (o := 5) (agg := false) (by rfl) ag52 (by kernel_rfl) (fun _ => rfl) (Nat.le_of_ble_eq_true rfl) (v := .slice Aa0_f5 a0.f5.length ca0_f5) (by kernel_rfl)) ?_
              refine WL.pure 36 37 [38, 40, 41] (L' := [(38, .bool true), (40, .slice Aa0_f5 a0.f5.length ca0_f5), (41, .pointer (some ⟨b2, 5, none⟩))]) (by kernel_rfl) (by decide) ?_
              refine WL.tell (op := .load 52 (.tmp 41)) (ty := 52) (d := some 42) (g := some (33, true)) (by kernel_rfl) (by kernel_rfl) (by kernel_rfl) (Tells.load_box (i := 0) (b := b2) (o := 5) (agg := false) (by rfl) ag52 (by kernel_rfl) (fun _ => rfl) (Nat.le_of_ble_eq_true rfl) (v := .slice Aa1_f5 a1.f5.length ca1_f5) (by kernel_rfl)) ?_
              rw [Option.bind_eq_some_iff] at h
              obtain ⟨t18, ht19, h⟩ := h
              refine WL.op (op := .call { callee := (.value (.func 64)), args := #[(.tmp 40), (.tmp 42), (.func 52)], argTypes := #[52, 52, 87] }) (ty := 4) (d := some 43) (g := some (33, true)) (by kernel_rfl) (by kernel_rfl) (by kernel_rfl) (Does.call (f := 64) (args := [.slice Aa0_f5 a0.f5.length ca0_f5, .slice Aa1_f5 a1.f5.length ca1_f5, .func (.func 52) #[] #[]]) (by kernel_rfl) (fun W hI => (api_Record_calls k a0.f5 a1.f5 Aa0_f5 ca0_f5 Ha0_f5 Aa1_f5 ca1_f5 Ha1_f5 t18 ht19 hI))) ?_
              rintro _ _ _ ⟨rfl, rfl, rfl⟩
              refine WL.rest 39 [4] (L' := [(4, .bool t18)]) (by kernel_rfl) ?_
              refine QP.dropAt 1 ?_
              refine QP.dropAt 0 ?_
              refine QP.pick [4] ?_
              exact QP.meet ⟨_, Option.some.inj h, rfl, rfl, rfl⟩
            · replace hc := (Bool.eq_false_iff.1 hc)
              rw [if_neg hc] at h
              have hc17 := hc
              clear hc
              refine WL.rest 34 [4] (L' := [(4, .bool false)]) (by kernel_rfl) ?_
              refine QP.dropAt 1 ?_
              refine QP.dropAt 0 ?_
              refine QP.pick [4] ?_
              exact QP.meet ⟨_, Option.some.inj h, rfl, rfl, rfl⟩
          · replace hc := (Bool.eq_false_iff.1 hc)
            rw [if_neg hc] at h
            have hc12 := hc
            clear hc
            refine WL.rest 27 [4] (L' := [(4, .bool false)]) (by kernel_rfl) ?_
            refine QP.dropAt 1 ?_
            refine QP.dropAt 0 ?_
            refine QP.pick [4] ?_
            exact QP.meet ⟨_, Option.some.inj h, rfl, rfl, rfl⟩
        · replace hc := ne_of_beq_false hc
          rw [if_neg hc] at h
          have hc7 := hc
          clear hc
          refine WL.rest 20 [4] (L' := [(4, .bool false)]) (by kernel_rfl) ?_
          refine QP.dropAt 1 ?_
          refine QP.dropAt 0 ?_
          refine QP.pick [4] ?_
          exact QP.meet ⟨_, Option.some.inj h, rfl, rfl, rfl⟩
      · replace hc := ne_of_beq_false hc
        rw [if_neg hc] at h
        have hc6 := hc
        clear hc
        refine WL.rest 13 [4] (L' := [(4, .bool false)]) (by kernel_rfl) ?_
        refine QP.dropAt 1 ?_
        refine QP.dropAt 0 ?_
        refine QP.pick [4] ?_
        exact QP.meet ⟨_, Option.some.inj h, rfl, rfl, rfl⟩
    · replace hc := ne_of_beq_false hc
      rw [if_neg hc] at h
      have hc5 := hc
      clear hc
      refine WL.rest 6 [4] (L' := [(4, .bool false)]) (by kernel_rfl) ?_
      refine QP.dropAt 1 ?_
      refine QP.dropAt 0 ?_
      refine QP.pick [4] ?_
      exact QP.meet ⟨_, Option.some.inj h, rfl, rfl, rfl⟩
  · rintro _ _ _ ⟨s3, rfl, rfl, rfl, rfl⟩
    clear h
    replace h := hk4
    refine WP.ret ?_
    obtain rfl := Option.some.inj h
    exact QP.returned [4] [.bool s3] _ (by kernel_rfl) (by kernel_rfl) (by kernel_rfl) (fun W hI => ⟨_, _, _, rfl, ⟨rfl, rfl, rfl⟩, hI⟩)

/-! ### grapevine/grapevinelaw20.awake: function 25 -/
def grapevinelaw20_awake (k : Nat) : Option Bool := ((grapevinelaw20_hello ).bind fun t1 => ((talk_Lay k t1 2).bind fun t5 => ((talk_Read k t5.1 2).bind fun t12 => ((talk_Read k ([] : List Int) 2).bind fun t18 => ((if t5.2 = 0 then (if (t5.1.length : Int) = 24 then (if t12.2 = 0 then ((grapevinelaw20_hello ).bind fun t28 => ((grapevinelaw0_SameMessage k t12.1 t28).bind fun t32 => (if t32 = true then (if t18.2 = 12 then ((grapevinelaw20_hello ).bind fun t44 => ((talk_May k t44 2).bind fun t48 => (if t48 = true then ((grapevinelaw20_hello ).bind fun t56 => ((talk_May k t56 3).bind fun t60 => (if (!t60) = true then ((talk_Same k t12.1 t12.1).bind fun t68 => some t68) else some false))) else some false))) else some false) else some false))) else some false) else some false) else some false).bind fun s23 => some s23)))))
set_option maxHeartbeats 4000000 in
theorem grapevinelaw20_awake_calls {B : World} {G : GMap} {Γ : List Chunk} {W : World} (HT : Tabs B G) (k : Nat) (r : Bool) (h : grapevinelaw20_awake k  = some r) (hI : Inv B G (Γ) W) :
    Calls Tryd.prog 25 [].toArray W (Ret B (fun v G' Γ' => v = .bool r ∧ G = G' ∧ Γ = Γ')) := by
  refine calls_WP (Γ := Γ) (G := G) (B := B) Tryd.func25 rfl (by kernel_rfl) ?_ hI
  clear hI
  unfold grapevinelaw20_awake at h
  refine WP.seqP [] (L' := []) (by kernel_rfl) ?_
  refine WP.seqR ?_
  rw [Option.bind_eq_some_iff] at h
  obtain ⟨t1, ht2, h⟩ := h
  refine WL.op (op := .call { callee := (.value (.func 54)), args := #[], argTypes := #[] }) (ty := 54) (d := some 8) (g := none) (by kernel_rfl) (by kernel_rfl) (by kernel_rfl) (Does.call (f := 54) (args := []) (by kernel_rfl) (fun W hI => (grapevinelaw20_hello_calls   t1 ht2 hI))) ?_
  rintro _ _ _ ⟨AR3_0, cR3_0, CR3_0, AR3_1, cR3_1, CR3_1, AR3_2, cR3_2, CR3_2, rfl, HR3_0, HR3_1, HR3_2, rfl, rfl⟩
  rw [Option.bind_eq_some_iff] at h
  obtain ⟨t5, ht6, h⟩ := h
  refine WL.op (op := .call { callee := (.value (.func 26)), args := #[(.tmp 8), (.const (.int .i64 2))], argTypes := #[54, 3] }) (ty := 44) (d := some 9) (g := none) (by kernel_rfl) (by kernel_rfl) (by kernel_rfl) (Does.call (Φ := fun v' G' Γ' => ∃ (AR70 : Option Addr), ∃ (cR70 : Nat), ∃ (CR70 : Chunk), v' = .tuple #[.slice AR70 t5.1.length cR70, .int .i64 t5.2] ∧ Ow (kInt .u8) G AR70 cR70 t5.1 CR70 ∧ G = G' ∧ CR70 :: CR3_0 :: CR3_1 :: CR3_2 :: Γ = Γ') (f := 26) (args := [.agg #[.int .i64 t1.f0, .int .i64 t1.f1, .int .i64 t1.f2, .slice AR3_0 t1.f3.length cR3_0, .slice AR3_1 t1.f4.length cR3_1, .slice AR3_2 t1.f5.length cR3_2], .int .i64 2]) (by kernel_rfl) (fun W hI => (Calls.lendN (Φ := fun v' N => ∃ (AR70 : Option Addr), ∃ (cR70 : Nat), ∃ (CR70 : Chunk), v' = .tuple #[.slice AR70 t5.1.length cR70, .int .i64 t5.2] ∧ Ow (kInt .u8) G AR70 cR70 t5.1 CR70 ∧ N = [CR70]) (H := []) (i := 0) rfl hI (fun _ e l9 nl9 hI => by subst e; exact Calls.lendN (Φ := fun v' N => ∃ (AR70 : Option Addr), ∃ (cR70 : Nat), ∃ (CR70 : Chunk), v' = .tuple #[.slice AR70 t5.1.length cR70, .int .i64 t5.2] ∧ Ow (kInt .u8) G AR70 cR70 t5.1 CR70 ∧ N = [CR70]) (H := []) (i := 1) rfl hI (fun _ e l10 nl10 hI => by subst e; exact Calls.lendN (Φ := fun v' N => ∃ (AR70 : Option Addr), ∃ (cR70 : Nat), ∃ (CR70 : Chunk), v' = .tuple #[.slice AR70 t5.1.length cR70, .int .i64 t5.2] ∧ Ow (kInt .u8) G AR70 cR70 t5.1 CR70 ∧ N = [CR70]) (H := []) (i := 2) rfl hI (fun _ e l11 nl11 hI => by subst e; exact (((talk_Lay_calls (((HT.mono l9).mono l10).mono l11) k t1 2 AR3_0 cR3_0 (((HR3_0.rdN l9 nl9).mono l10).mono l11) AR3_1 cR3_1 (((HR3_1.mono l9).rdN l10 nl10).mono l11) AR3_2 cR3_2 (((HR3_2.mono l9).mono l10).rdN l11 nl11) t5 ht6 hI)).mono fun _ _ hr => by obtain ⟨_, _, _, rfl, hd, hI⟩ := hr; obtain ⟨AR70, cR70, CR70, rfl, HR70, rfl, rfl⟩ := hd; exact ⟨_, _, _, rfl, ⟨[CR70], ⟨AR70, cR70, CR70, rfl, (HR70.flat (kInt_flat _)), rfl⟩, rfl, rfl⟩, hI⟩))))).mono fun _ _ hr => by obtain ⟨_, _, _, rfl, ⟨_, hd, rfl, rfl⟩, hI⟩ := hr; obtain ⟨AR70, cR70, CR70, rfl, HR70, rfl⟩ := hd; exact ⟨_, _, _, rfl, ⟨AR70, cR70, CR70, rfl, HR70, rfl, rfl⟩, hI⟩)) ?_
  rintro _ _ _ ⟨AR70, cR70, CR70, rfl, HR70, rfl, rfl⟩
  refine WL.restQ 2 [1, 2] (L' := [(1, .slice AR70 t5.1.length cR70), (2, .int .i64 t5.2)]) (by kernel_rfl) ?_
  refine WP.dropAt 3 ?_
  refine WP.dropAt 2 ?_
  refine WP.dropAt 1 ?_
  refine WP.seqR ?_
  refine WL.pure 0 1 [1, 2, 13] (L' := [(1, .slice AR70 t5.1.length cR70), (2, .int .i64 t5.2), (13, .slice AR70 t5.1.length cR70)]) (by kernel_rfl) (by decide) ?_
  rw [Option.bind_eq_some_iff] at h
  obtain ⟨t12, ht13, h⟩ := h
  refine WL.op (op := .call { callee := (.value (.func 34)), args := #[(.tmp 13), (.const (.int .i64 2))], argTypes := #[22, 3] }) (ty := 64) (d := some 14) (g := none) (by kernel_rfl) (by kernel_rfl) (by kernel_rfl) (Does.call (Φ := fun v' G' Γ' => ∃ (AR140_0 : Option Addr), ∃ (cR140_0 : Nat), ∃ (CR140_0 : Chunk), ∃ (AR140_1 : Option Addr), ∃ (cR140_1 : Nat), ∃ (CR140_1 : Chunk), ∃ (AR140_2 : Option Addr), ∃ (cR140_2 : Nat), ∃ (CR140_2 : Chunk), v' = .tuple #[.agg #[.int .i64 t12.1.f0, .int .i64 t12.1.f1, .int .i64 t12.1.f2, .slice AR140_0 t12.1.f3.length cR140_0, .slice AR140_1 t12.1.f4.length cR140_1, .slice AR140_2 t12.1.f5.length cR140_2], .int .i64 t12.2] ∧ Ow (kInt .i64) G AR140_0 cR140_0 t12.1.f3 CR140_0 ∧ Ow (kInt .i64) G AR140_1 cR140_1 t12.1.f4 CR140_1 ∧ Ow k39 G AR140_2 cR140_2 t12.1.f5 CR140_2 ∧ G = G' ∧ CR140_0 :: CR140_1 :: CR140_2 :: CR70 :: Γ = Γ') (f := 34) (args := [.slice AR70 t5.1.length cR70, .int .i64 2]) (by kernel_rfl) (fun W hI => (Calls.lendN (Φ := fun v' N => ∃ (AR140_0 : Option Addr), ∃ (cR140_0 : Nat), ∃ (CR140_0 : Chunk), ∃ (AR140_1 : Option Addr), ∃ (cR140_1 : Nat), ∃ (CR140_1 : Chunk), ∃ (AR140_2 : Option Addr), ∃ (cR140_2 : Nat), ∃ (CR140_2 : Chunk), v' = .tuple #[.agg #[.int .i64 t12.1.f0, .int .i64 t12.1.f1, .int .i64 t12.1.f2, .slice AR140_0 t12.1.f3.length cR140_0, .slice AR140_1 t12.1.f4.length cR140_1, .slice AR140_2 t12.1.f5.length cR140_2], .int .i64 t12.2] ∧ Ow (kInt .i64) G AR140_0 cR140_0 t12.1.f3 CR140_0 ∧ Ow (kInt .i64) G AR140_1 cR140_1 t12.1.f4 CR140_1 ∧ Ow k39 G AR140_2 cR140_2 t12.1.f5 CR140_2 ∧ N = [CR140_0, CR140_1, CR140_2]) (H := []) (i := 0) rfl hI (fun _ e l16 nl16 hI => by subst e; exact (((talk_Read_calls (HT.mono l16) k t5.1 2 AR70 cR70 (HR70.rdN l16 nl16) t12 ht13 hI)).mono fun _ _ hr => by obtain ⟨_, _, _, rfl, hd, hI⟩ := hr; obtain ⟨AR140_0, cR140_0, CR140_0, AR140_1, cR140_1, CR140_1, AR140_2, cR140_2, CR140_2, rfl, HR140_0, HR140_1, HR140_2, rfl, rfl⟩ := hd; exact ⟨_, _, _, rfl, ⟨[CR140_0, CR140_1, CR140_2], ⟨AR140_0, cR140_0, CR140_0, AR140_1, cR140_1, CR140_1, AR140_2, cR140_2, CR140_2, rfl, (HR140_0.flat (kInt_flat _)), (HR140_1.flat (kInt_flat _)), (HR140_2.flat (kFlat_flat _ _ _ _)), rfl⟩, rfl, rfl⟩, hI⟩))).mono fun _ _ hr => by obtain ⟨_, _, _, rfl, ⟨_, hd, rfl, rfl⟩, hI⟩ := hr; obtain ⟨AR140_0, cR140_0, CR140_0, AR140_1, cR140_1, CR140_1, AR140_2, cR140_2, CR140_2, rfl, HR140_0, HR140_1, HR140_2, rfl⟩ := hd; exact ⟨_, _, _, rfl, ⟨AR140_0, cR140_0, CR140_0, AR140_1, cR140_1, CR140_1, AR140_2, cR140_2, CR140_2, rfl, HR140_0, HR140_1, HR140_2, rfl, rfl⟩, hI⟩)) ?_
  rintro _ _ _ ⟨AR140_0, cR140_0, CR140_0, AR140_1, cR140_1, CR140_1, AR140_2, cR140_2, CR140_2, rfl, HR140_0, HR140_1, HR140_2, rfl, rfl⟩
  refine WL.pure 2 5 [1, 2, 15, 16] (L' := [(1, .slice AR70 t5.1.length cR70), (2, .int .i64 t5.2), (15, .agg #[.int .i64 t12.1.f0, .int .i64 t12.1.f1, .int .i64 t12.1.f2, .slice AR140_0 t12.1.f3.length cR140_0, .slice AR140_1 t12.1.f4.length cR140_1, .slice AR140_2 t12.1.f5.length cR140_2]), (16, .int .i64 t12.2)]) (by kernel_rfl) (by decide) ?_
  refine WL.op (op := .alloc 54) (ty := 0) (d := some 3) (g := none) (by kernel_rfl) (by kernel_rfl) (by kernel_rfl) (Does.new (o := .cells #[.int .i64 0, .int .i64 0, .int .i64 0, .slice none 0 0, .slice none 0 0, .slice none 0 0] 54 (0, 0)) (v := fun r => .pointer (some ⟨r, 0, none⟩)) (fun r => by kernel_rfl)) ?_
  rintro _ _ _ ⟨b17, rfl, rfl, rfl⟩
  refine WL.op (op := .store 54 (.tmp 3) (.tmp 15)) (ty := 0) (d := none) (g := none) (by kernel_rfl) (by kernel_rfl) (by kernel_rfl) (Does.store_box (i := 0) (b := b17) (o := 0) (v := .agg #[.int .i64 t12.1.f0, .int .i64 t12.1.f1, .int .i64 t12.1.f2, .slice AR140_0 t12.1.f3.length cR140_0, .slice AR140_1 t12.1.f4.length cR140_1, .slice AR140_2 t12.1.f5.length cR140_2]) (by rfl) sz54 (by kernel_rfl) (by kernel_rfl) (by kernel_rfl) (Free.zero _) (Nat.le_of_ble_eq_true rfl) (cells' := #[.int .i64 t12.1.f0, .int .i64 t12.1.f1, .int .i64 t12.1.f2, .slice AR140_0 t12.1.f3.length cR140_0, .slice AR140_1 t12.1.f4.length cR140_1, .slice AR140_2 t12.1.f5.length cR140_2]) (by kernel_rfl)) ?_
  rintro _ _ _ ⟨rfl, rfl, rfl⟩
  refine WL.restQ 7 [1, 2, 3, 4] (L' := [(1, .slice AR70 t5.1.length cR70), (2, .int .i64 t5.2), (3, .pointer (some ⟨b17, 0, none⟩)), (4, .int .i64 t12.2)]) (by kernel_rfl) ?_
  refine WP.seqR ?_
  rw [Option.bind_eq_some_iff] at h
  obtain ⟨t18, ht19, h⟩ := h
  refine WL.op (op := .call { callee := (.value (.func 34)), args := #[(.const (.slice none 0 0)), (.const (.int .i64 2))], argTypes := #[22, 3] }) (ty := 64) (d := some 18) (g := none) (by kernel_rfl) (by kernel_rfl) (by kernel_rfl) (Does.call (f := 34) (args := [.slice none 0 0, .int .i64 2]) (by kernel_rfl) (fun W hI => (talk_Read_calls HT k ([] : List Int) 2 none 0 (Rd.nil _ _ _ _) t18 ht19 hI))) ?_
  rintro _ _ _ ⟨AR200_0, cR200_0, CR200_0, AR200_1, cR200_1, CR200_1, AR200_2, cR200_2, CR200_2, rfl, HR200_0, HR200_1, HR200_2, rfl, rfl⟩
  refine WL.pure 1 4 [1, 2, 3, 4, 19, 20] (L' := [(1, .slice AR70 t5.1.length cR70), (2, .int .i64 t5.2), (3, .pointer (some ⟨b17, 0, none⟩)), (4, .int .i64 t12.2), (19, .agg #[.int .i64 t18.1.f0, .int .i64 t18.1.f1, .int .i64 t18.1.f2, .slice AR200_0 t18.1.f3.length cR200_0, .slice AR200_1 t18.1.f4.length cR200_1, .slice AR200_2 t18.1.f5.length cR200_2]), (20, .int .i64 t18.2)]) (by kernel_rfl) (by decide) ?_
  refine WL.op (op := .alloc 54) (ty := 0) (d := some 5) (g := none) (by kernel_rfl) (by kernel_rfl) (by kernel_rfl) (Does.new (o := .cells #[.int .i64 0, .int .i64 0, .int .i64 0, .slice none 0 0, .slice none 0 0, .slice none 0 0] 54 (0, 0)) (v := fun r => .pointer (some ⟨r, 0, none⟩)) (fun r => by kernel_rfl)) ?_
  rintro _ _ _ ⟨b22, rfl, rfl, rfl⟩
  refine WL.op (op := .store 54 (.tmp 5) (.tmp 19)) (ty := 0) (d := none) (g := none) (by kernel_rfl) (by kernel_rfl) (by kernel_rfl) (Does.store_box (i := 0) (b := b22) (o := 0) (v := .agg #[.int .i64 t18.1.f0, .int .i64 t18.1.f1, .int .i64 t18.1.f2, .slice AR200_0 t18.1.f3.length cR200_0, .slice AR200_1 t18.1.f4.length cR200_1, .slice AR200_2 t18.1.f5.length cR200_2]) (by rfl) sz54 (by kernel_rfl) (by kernel_rfl) (by kernel_rfl) (Free.zero _) (Nat.le_of_ble_eq_true rfl) (cells' := #[.int .i64 t18.1.f0, .int .i64 t18.1.f1, .int .i64 t18.1.f2, .slice AR200_0 t18.1.f3.length cR200_0, .slice AR200_1 t18.1.f4.length cR200_1, .slice AR200_2 t18.1.f5.length cR200_2]) (by kernel_rfl)) ?_
  rintro _ _ _ ⟨rfl, rfl, rfl⟩
  refine WL.restQ 6 [1, 2, 3, 4, 6] (L' := [(1, .slice AR70 t5.1.length cR70), (2, .int .i64 t5.2), (3, .pointer (some ⟨b17, 0, none⟩)), (4, .int .i64 t12.2), (6, .int .i64 t18.2)]) (by kernel_rfl) ?_
  refine WP.dropAt 3 ?_
  refine WP.dropAt 2 ?_
  refine WP.dropAt 1 ?_
  refine WP.dropAt 0 ?_
  rw [Option.bind_eq_some_iff] at h
  obtain ⟨os23, h, hk24⟩ := h
  refine WP.cut (fun L' G' Γ' => ∃ s23 : Bool, s23 = os23 ∧ L' = [(0, .bool s23)] ∧ G = G' ∧ Γ = Γ') ?_ ?_
  · clear hk24
    skip
    refine WP.any (N := 35) (S := [⟨some 21, [2], []⟩, ⟨some 22, [21], [0]⟩, ⟨some 23, [22], [1]⟩, ⟨some 24, [1, 23], [2]⟩, ⟨some 25, [23, 24], [2, 3]⟩, ⟨some 26, [23, 25], [2, 4]⟩, ⟨some 27, [23, 26], [2, 5]⟩, ⟨some 28, [27], [2, 6]⟩, ⟨some 29, [4, 28], [7]⟩, ⟨some 30, [28, 29], [7, 8]⟩, ⟨some 31, [28, 30], [7, 9]⟩, ⟨some 32, [31], [7, 10]⟩, ⟨some 33, [3, 32], [11]⟩, ⟨some 34, [32], [11]⟩, ⟨some 35, [32, 33, 34], [11, 12, 13]⟩, ⟨some 36, [32, 35], [11, 14]⟩, ⟨some 37, [36], [14, 15]⟩, ⟨some 38, [6, 37], [16]⟩, ⟨some 39, [37, 38], [16, 17]⟩, ⟨some 40, [37, 39], [16, 18]⟩, ⟨some 41, [40], [16, 19]⟩, ⟨some 42, [41], [20]⟩, ⟨some 43, [41, 42], [20, 21]⟩, ⟨some 44, [41, 43], [20, 22]⟩, ⟨some 45, [44], [22, 23]⟩, ⟨some 46, [45], [24]⟩, ⟨some 47, [45, 46], [24, 25]⟩, ⟨some 48, [45, 47], [24, 26]⟩, ⟨some 49, [45, 48], [24, 27]⟩, ⟨some 50, [49], [26, 28]⟩, ⟨some 51, [3, 50], [29]⟩, ⟨some 52, [3, 50], [29]⟩, ⟨some 53, [50, 51, 52], [29, 30, 31]⟩, ⟨some 54, [50, 53], [29, 32]⟩, ⟨some 0, [54], [0, 1, 2, 3, 4, 5, 6, 7, 8, 9, 10, 11, 12, 13, 14, 15, 16, 17, 18, 19, 20, 21, 22, 23, 24, 25, 26, 27, 28, 29, 30, 31, 32, 33]⟩]) (kw := 35) (G0 := G) (Γ0 := [(b17, .cells #[.int .i64 t12.1.f0, .int .i64 t12.1.f1, .int .i64 t12.1.f2, .slice AR140_0 t12.1.f3.length cR140_0, .slice AR140_1 t12.1.f4.length cR140_1, .slice AR140_2 t12.1.f5.length cR140_2] 54 (0, 0))] :: CR140_0 :: CR140_1 :: CR140_2 :: CR70 :: Γ) mo (by kernel_rfl) (fun hS => ?_)
    refine WA.pure [0, 1, 2] [1, 3, 4, 6, 23] (m := 32) (b' := 7) (L' := [(1, .slice AR70 t5.1.length cR70), (3, .pointer (some ⟨b17, 0, none⟩)), (4, .int .i64 t12.2), (6, .int .i64 t18.2), (23, .bool (t5.2 == 0))]) (by kernel_rfl) (NoPanic.then (NoPanic.body)) Under.refl hS (by kernel_rfl) ?_
    refine WA.split 23 (b := (t5.2 == 0)) (by kernel_rfl) (fun hc => ?_) (fun hc => ?_)
    · replace hc := eq_of_beq hc
      rw [if_pos hc] at h
      have hc25 := hc
      clear hc
      refine WA.pure [3, 4, 5, 6, 7] [3, 4, 6, 28] (m := 27) (b' := 255) (L' := [(3, .pointer (some ⟨b17, 0, none⟩)), (4, .int .i64 t12.2), (6, .int .i64 t18.2), (28, .bool ((t5.1.length : Int) == 24))]) (by kernel_rfl) (NoPanic.then (NoPanic.body)) Under.refl hS (by kernel_rfl) ?_
      refine WA.split 28 (b := ((t5.1.length : Int) == 24)) (by kernel_rfl) (fun hc => ?_) (fun hc => ?_)
      · replace hc := eq_of_beq hc
        rw [if_pos hc] at h
        have hc26 := hc
        clear hc
        refine WA.pure [8, 9, 10, 11] [3, 6, 32] (m := 23) (b' := 4095) (L' := [(3, .pointer (some ⟨b17, 0, none⟩)), (6, .int .i64 t18.2), (32, .bool (t12.2 == 0))]) (by kernel_rfl) (NoPanic.then (NoPanic.body)) Under.refl hS (by kernel_rfl) ?_
        refine WA.split 32 (b := (t12.2 == 0)) (by kernel_rfl) (fun hc => ?_) (fun hc => ?_)
        · replace hc := eq_of_beq hc
          rw [if_pos hc] at h
          have hc27 := hc
          clear hc
          refine WA.tellD [] (i := 12) (m := 22) (b' := 8191) (by kernel_rfl) (NoPanic.then (NoPanic.body)) Under.refl hS (by kernel_rfl) (op := .load 54 (.tmp 3)) (ty := 54) (d := some 33) (g := some (11, true)) (by kernel_rfl) (by kernel_rfl) (by kernel_rfl) (Tells.load_box (i := 0) (b := b17) (o := 0) (agg := true) (by rfl) ag54 (by kernel_rfl) (fun h => by cases h) (Nat.le_of_ble_eq_true rfl) (v := .agg #[.int .i64 t12.1.f0, .int .i64 t12.1.f1, .int .i64 t12.1.f2, .slice AR140_0 t12.1.f3.length cR140_0, .slice AR140_1 t12.1.f4.length cR140_1, .slice AR140_2 t12.1.f5.length cR140_2]) (by kernel_rfl)) ?_
          rw [Option.bind_eq_some_iff] at h
          obtain ⟨t28, ht29, h⟩ := h
          refine WA.op (i := 13) (m := 21) (b' := 16383) (by kernel_rfl) hS (by kernel_rfl) (op := .call { callee := (.value (.func 54)), args := #[], argTypes := #[] }) (ty := 54) (d := some 34) (g := some (11, true)) (by kernel_rfl) (by kernel_rfl) (by kernel_rfl) (Does.call (f := 54) (args := []) (by kernel_rfl) (fun W hI => (grapevinelaw20_hello_calls   t28 ht29 hI))) ?_
          rintro _ _ _ ⟨AR30_0, cR30_0, CR30_0, AR30_1, cR30_1, CR30_1, AR30_2, cR30_2, CR30_2, rfl, HR30_0, HR30_1, HR30_2, rfl, rfl⟩
          refine ⟨_, _, Under.cons (Under.cons (Under.cons (Under.refl))), Under.refl, ?_⟩
          rw [Option.bind_eq_some_iff] at h
          obtain ⟨t32, ht33, h⟩ := h
          refine WA.op (i := 14) (m := 20) (b' := 32767) (by kernel_rfl) hS (by kernel_rfl) (op := .call { callee := (.value (.func 32)), args := #[(.tmp 33), (.tmp 34)], argTypes := #[54, 54] }) (ty := 4) (d := some 35) (g := some (11, true)) (by kernel_rfl) (by kernel_rfl) (by kernel_rfl) (Does.call (Φ := fun v' G' Γ' => v' = .bool t32 ∧ G = G' ∧ CR30_0 :: CR30_1 :: CR30_2 :: [(b17, .cells #[.int .i64 t12.1.f0, .int .i64 t12.1.f1, .int .i64 t12.1.f2, .slice AR140_0 t12.1.f3.length cR140_0, .slice AR140_1 t12.1.f4.length cR140_1, .slice AR140_2 t12.1.f5.length cR140_2] 54 (0, 0))] :: CR140_0 :: CR140_1 :: CR140_2 :: CR70 :: Γ = Γ') (f := 32) (args := [.agg #[.int .i64 t12.1.f0, .int .i64 t12.1.f1, .int .i64 t12.1.f2, .slice AR140_0 t12.1.f3.length cR140_0, .slice AR140_1 t12.1.f4.length cR140_1, .slice AR140_2 t12.1.f5.length cR140_2], .agg #[.int .i64 t28.f0, .int .i64 t28.f1, .int .i64 t28.f2, .slice AR30_0 t28.f3.length cR30_0, .slice AR30_1 t28.f4.length cR30_1, .slice AR30_2 t28.f5.length cR30_2]]) (by kernel_rfl) (fun W hI => (Calls.lendN (Φ := fun v' N => v' = .bool t32 ∧ N = []) (H := []) (i := 4) rfl hI (fun _ e l36 nl36 hI => by subst e; exact Calls.lendN (Φ := fun v' N => v' = .bool t32 ∧ N = []) (H := []) (i := 5) rfl hI (fun _ e l37 nl37 hI => by subst e; exact Calls.lendN (Φ := fun v' N => v' = .bool t32 ∧ N = []) (H := []) (i := 6) rfl hI (fun _ e l38 nl38 hI => by subst e; exact Calls.lendN (Φ := fun v' N => v' = .bool t32 ∧ N = []) (H := []) (i := 0) rfl hI (fun _ e l39 nl39 hI => by subst e; exact Calls.lendN (Φ := fun v' N => v' = .bool t32 ∧ N = []) (H := []) (i := 1) rfl hI (fun _ e l40 nl40 hI => by subst e; exact Calls.lendN (Φ := fun v' N => v' = .bool t32 ∧ N = []) (H := []) (i := 2) rfl hI (fun _ e l41 nl41 hI => by subst e; exact (((grapevinelaw0_SameMessage_calls k t12.1 t28 AR140_0 cR140_0 ((((((HR140_0.rdN l36 nl36).mono l37).mono l38).mono l39).mono l40).mono l41) AR140_1 cR140_1 ((((((HR140_1.mono l36).rdN l37 nl37).mono l38).mono l39).mono l40).mono l41) AR140_2 cR140_2 ((((((HR140_2.mono l36).mono l37).rdN l38 nl38).mono l39).mono l40).mono l41) AR30_0 cR30_0 ((((((HR30_0.mono l36).mono l37).mono l38).rdN l39 nl39).mono l40).mono l41) AR30_1 cR30_1 ((((((HR30_1.mono l36).mono l37).mono l38).mono l39).rdN l40 nl40).mono l41) AR30_2 cR30_2 ((((((HR30_2.mono l36).mono l37).mono l38).mono l39).mono l40).rdN l41 nl41) t32 ht33 hI)).mono fun _ _ hr => by obtain ⟨_, _, _, rfl, hd, hI⟩ := hr; obtain ⟨rfl, rfl, rfl⟩ := hd; exact ⟨_, _, _, rfl, ⟨[], ⟨rfl, rfl⟩, rfl, rfl⟩, hI⟩)))))))).mono fun _ _ hr => by obtain ⟨_, _, _, rfl, ⟨_, hd, rfl, rfl⟩, hI⟩ := hr; obtain ⟨rfl, rfl⟩ := hd; exact ⟨_, _, _, rfl, ⟨rfl, rfl, rfl⟩, hI⟩)) ?_
          rintro _ _ _ ⟨rfl, rfl, rfl⟩
          refine ⟨_, _, Under.refl, Under.refl, ?_⟩
          refine WA.pure [15, 16] [3, 6, 37] (m := 18) (b' := 131071) (L' := [(3, .pointer (some ⟨b17, 0, none⟩)), (6, .int .i64 t18.2), (37, .bool t32)]) (by kernel_rfl) (NoPanic.then (NoPanic.body)) Under.refl hS (by kernel_rfl) ?_
          refine WA.split 37 (b := t32) (by kernel_rfl) (fun hc => ?_) (fun hc => ?_)
          · replace hc := hc
            rw [if_pos hc] at h
            have hc42 := hc
            clear hc
            refine WA.pure [17, 18, 19, 20] [3, 41] (m := 14) (b' := 2097151) (L' := [(3, .pointer (some ⟨b17, 0, none⟩)), (41, .bool (t18.2 == 12))]) (by kernel_rfl) (NoPanic.then (NoPanic.body)) Under.refl hS (by kernel_rfl) ?_
            refine WA.split 41 (b := (t18.2 == 12)) (by kernel_rfl) (fun hc => ?_) (fun hc => ?_)
            · replace hc := eq_of_beq hc
              rw [if_pos hc] at h
              have hc43 := hc
              clear hc
              rw [Option.bind_eq_some_iff] at h
              obtain ⟨t44, ht45, h⟩ := h
              refine WA.op (i := 21) (m := 13) (b' := 4194303) (by kernel_rfl) hS (by kernel_rfl) (op := .call { callee := (.value (.func 54)), args := #[], argTypes := #[] }) (ty := 54) (d := some 42) (g := some (20, true)) (by kernel_rfl) (by kernel_rfl) (by kernel_rfl) (Does.call (f := 54) (args := []) (by kernel_rfl) (fun W hI => (grapevinelaw20_hello_calls   t44 ht45 hI))) ?_
              rintro _ _ _ ⟨AR46_0, cR46_0, CR46_0, AR46_1, cR46_1, CR46_1, AR46_2, cR46_2, CR46_2, rfl, HR46_0, HR46_1, HR46_2, rfl, rfl⟩
              refine ⟨_, _, Under.cons (Under.cons (Under.cons (Under.refl))), Under.refl, ?_⟩
              rw [Option.bind_eq_some_iff] at h
              obtain ⟨t48, ht49, h⟩ := h
              refine WA.op (i := 22) (m := 12) (b' := 8388607) (by kernel_rfl) hS (by kernel_rfl) (op := .call { callee := (.value (.func 29)), args := #[(.tmp 42), (.const (.int .i64 2))], argTypes := #[54, 3] }) (ty := 4) (d := some 43) (g := some (20, true)) (by kernel_rfl) (by kernel_rfl) (by kernel_rfl) (Does.call (Φ := fun v' G' Γ' => v' = .bool t48 ∧ G = G' ∧ CR46_0 :: CR46_1 :: CR46_2 :: CR30_0 :: CR30_1 :: CR30_2 :: [(b17, .cells #[.int .i64 t12.1.f0, .int .i64 t12.1.f1, .int .i64 t12.1.f2, .slice AR140_0 t12.1.f3.length cR140_0, .slice AR140_1 t12.1.f4.length cR140_1, .slice AR140_2 t12.1.f5.length cR140_2] 54 (0, 0))] :: CR140_0 :: CR140_1 :: CR140_2 :: CR70 :: Γ = Γ') (f := 29) (args := [.agg #[.int .i64 t44.f0, .int .i64 t44.f1, .int .i64 t44.f2, .slice AR46_0 t44.f3.length cR46_0, .slice AR46_1 t44.f4.length cR46_1, .slice AR46_2 t44.f5.length cR46_2], .int .i64 2]) (by kernel_rfl) (fun W hI => (Calls.lendN (Φ := fun v' N => v' = .bool t48 ∧ N = []) (H := []) (i := 0) rfl hI (fun _ e l52 nl52 hI => by subst e; exact Calls.lendN (Φ := fun v' N => v' = .bool t48 ∧ N = []) (H := []) (i := 1) rfl hI (fun _ e l53 nl53 hI => by subst e; exact Calls.lendN (Φ := fun v' N => v' = .bool t48 ∧ N = []) (H := []) (i := 2) rfl hI (fun _ e l54 nl54 hI => by subst e; exact (((talk_May_calls (((HT.mono l52).mono l53).mono l54) k t44 2 AR46_0 cR46_0 (((HR46_0.rdN l52 nl52).mono l53).mono l54) AR46_1 cR46_1 (((HR46_1.mono l52).rdN l53 nl53).mono l54) AR46_2 cR46_2 (((HR46_2.mono l52).mono l53).rdN l54 nl54) t48 ht49 hI)).mono fun _ _ hr => by obtain ⟨_, _, _, rfl, hd, hI⟩ := hr; obtain ⟨rfl, rfl, rfl⟩ := hd; exact ⟨_, _, _, rfl, ⟨[], ⟨rfl, rfl⟩, rfl, rfl⟩, hI⟩))))).mono fun _ _ hr => by obtain ⟨_, _, _, rfl, ⟨_, hd, rfl, rfl⟩, hI⟩ := hr; obtain ⟨rfl, rfl⟩ := hd; exact ⟨_, _, _, rfl, ⟨rfl, rfl, rfl⟩, hI⟩)) ?_
              rintro _ _ _ ⟨rfl, rfl, rfl⟩
              refine ⟨_, _, Under.refl, Under.refl, ?_⟩
              refine WA.pure [23, 24] [3, 45] (m := 10) (b' := 33554431) (L' := [(3, .pointer (some ⟨b17, 0, none⟩)), (45, .bool t48)]) (by kernel_rfl) (NoPanic.then (NoPanic.body)) Under.refl hS (by kernel_rfl) ?_
              refine WA.split 45 (b := t48) (by kernel_rfl) (fun hc => ?_) (fun hc => ?_)
              · replace hc := hc
                rw [if_pos hc] at h
                have hc55 := hc
                clear hc
                rw [Option.bind_eq_some_iff] at h
                obtain ⟨t56, ht57, h⟩ := h
                refine WA.op (i := 25) (m := 9) (b' := 67108863) (by kernel_rfl) hS (by kernel_rfl) (op := .call { callee := (.value (.func 54)), args := #[], argTypes := #[] }) (ty := 54) (d := some 46) (g := some (24, true)) (by kernel_rfl) (by kernel_rfl) (by kernel_rfl) (Does.call (f := 54) (args := []) (by kernel_rfl) (fun W hI => (grapevinelaw20_hello_calls   t56 ht57 hI))) ?_
                rintro _ _ _ ⟨AR58_0, cR58_0, CR58_0, AR58_1, cR58_1, CR58_1, AR58_2, cR58_2, CR58_2, rfl, HR58_0, HR58_1, HR58_2, rfl, rfl⟩
                refine ⟨_, _, Under.cons (Under.cons (Under.cons (Under.refl))), Under.refl, ?_⟩
                rw [Option.bind_eq_some_iff] at h
                obtain ⟨t60, ht61, h⟩ := h
                refine WA.op (i := 26) (m := 8) (b' := 134217727) (by kernel_rfl) hS (by kernel_rfl) (op := .call { callee := (.value (.func 29)), args := #[(.tmp 46), (.const (.int .i64 3))], argTypes := #[54, 3] }) (ty := 4) (d := some 47) (g := some (24, true)) (by kernel_rfl) (by kernel_rfl) (by kernel_rfl) (Does.call (Φ := fun v' G' Γ' => v' = .bool t60 ∧ G = G' ∧ CR58_0 :: CR58_1 :: CR58_2 :: CR46_0 :: CR46_1 :: CR46_2 :: CR30_0 :: CR30_1 :: CR30_2 :: [(b17, .cells #[.int .i64 t12.1.f0, .int .i64 t12.1.f1, .int .i64 t12.1.f2, .slice AR140_0 t12.1.f3.length cR140_0, .slice AR140_1 t12.1.f4.length cR140_1, .slice AR140_2 t12.1.f5.length cR140_2] 54 (0, 0))] :: CR140_0 :: CR140_1 :: CR140_2 :: CR70 :: Γ = Γ') (f := 29) (args := [.agg #[.int .i64 t56.f0, .int .i64 t56.f1, .int .i64 t56.f2, .slice AR58_0 t56.f3.length cR58_0, .slice AR58_1 t56.f4.length cR58_1, .slice AR58_2 t56.f5.length cR58_2], .int .i64 3]) (by kernel_rfl) (fun W hI => (Calls.lendN (Φ := fun v' N => v' = .bool t60 ∧ N = []) (H := []) (i := 0) rfl hI (fun _ e l64 nl64 hI => by subst e; exact Calls.lendN (Φ := fun v' N => v' = .bool t60 ∧ N = []) (H := []) (i := 1) rfl hI (fun _ e l65 nl65 hI => by subst e; exact Calls.lendN (Φ := fun v' N => v' = .bool t60 ∧ N = []) (H := []) (i := 2) rfl hI (fun _ e l66 nl66 hI => by subst e; exact (((talk_May_calls (((HT.mono l64).mono l65).mono l66) k t56 3 AR58_0 cR58_0 (((HR58_0.rdN l64 nl64).mono l65).mono l66) AR58_1 cR58_1 (((HR58_1.mono l64).rdN l65 nl65).mono l66) AR58_2 cR58_2 (((HR58_2.mono l64).mono l65).rdN l66 nl66) t60 ht61 hI)).mono fun _ _ hr => by obtain ⟨_, _, _, rfl, hd, hI⟩ := hr; obtain ⟨rfl, rfl, rfl⟩ := hd; exact ⟨_, _, _, rfl, ⟨[], ⟨rfl, rfl⟩, rfl, rfl⟩, hI⟩))))).mono fun _ _ hr => by obtain ⟨_, _, _, rfl, ⟨_, hd, rfl, rfl⟩, hI⟩ := hr; obtain ⟨rfl, rfl⟩ := hd; exact ⟨_, _, _, rfl, ⟨rfl, rfl, rfl⟩, hI⟩)) ?_
                rintro _ _ _ ⟨rfl, rfl, rfl⟩
                refine ⟨_, _, Under.refl, Under.refl, ?_⟩
                refine WA.pure [27, 28, 29] [3, 50] (m := 5) (b' := 1073741823) (L' := [(3, .pointer (some ⟨b17, 0, none⟩)), (50, .bool (!t60))]) (by kernel_rfl) (NoPanic.then (NoPanic.body)) Under.refl hS (by kernel_rfl) ?_
                refine WA.split 50 (b := (!t60)) (by kernel_rfl) (fun hc => ?_) (fun hc => ?_)
                · replace hc := hc
                  rw [if_pos hc] at h
                  have hc67 := hc
                  clear hc
                  refine WA.tellD [] (i := 30) (m := 4) (b' := 2147483647) (by kernel_rfl) (NoPanic.then (NoPanic.body)) Under.refl hS (by kernel_rfl) (op := .load 54 (.tmp 3)) (ty := 54) (d := some 51) (g := some (29, true)) (by kernel_rfl) (by kernel_rfl) (by kernel_rfl) (Tells.load_box (i := 9) (b := b17) (o := 0) (agg := true) (by rfl) ag54 (by kernel_rfl) (fun h => by cases h) (Nat.le_of_ble_eq_true rfl) (v := .agg #[.int .i64 t12.1.f0, .int .i64 t12.1.f1, .int .i64 t12.1.f2, .slice AR140_0 t12.1.f3.length cR140_0, .slice AR140_1 t12.1.f4.length cR140_1, .slice AR140_2 t12.1.f5.length cR140_2]) (by kernel_rfl)) ?_
                  refine WA.tellD [] (i := 31) (m := 3) (b' := 4294967295) (by kernel_rfl) (NoPanic.then (NoPanic.body)) Under.refl hS (by kernel_rfl) (op := .load 54 (.tmp 3)) (ty := 54) (d := some 52) (g := some (29, true)) (by kernel_rfl) (by kernel_rfl) (by kernel_rfl) (Tells.load_box (i := 9) (b := b17) (o := 0) (agg := true) (by rfl) ag54 (by kernel_rfl) (fun h => by cases h) (Nat.le_of_ble_eq_true rfl) (v := .agg #[.int .i64 t12.1.f0, .int .i64 t12.1.f1, .int .i64 t12.1.f2, .slice AR140_0 t12.1.f3.length cR140_0, .slice AR140_1 t12.1.f4.length cR140_1, .slice AR140_2 t12.1.f5.length cR140_2]) (by kernel_rfl)) ?_
                  rw [Option.bind_eq_some_iff] at h
                  obtain ⟨t68, ht69, h⟩ := h
                  refine WA.op (i := 32) (m := 2) (b' := 8589934591) (by kernel_rfl) hS (by kernel_rfl) (op := .call { callee := (.value (.func 31)), args := #[(.tmp 51), (.tmp 52)], argTypes := #[54, 54] }) (ty := 4) (d := some 53) (g := some (29, true)) (by kernel_rfl) (by kernel_rfl) (by kernel_rfl) (Does.call (Φ := fun v' G' Γ' => v' = .bool t68 ∧ G = G' ∧ CR58_0 :: CR58_1 :: CR58_2 :: CR46_0 :: CR46_1 :: CR46_2 :: CR30_0 :: CR30_1 :: CR30_2 :: [(b17, .cells #[.int .i64 t12.1.f0, .int .i64 t12.1.f1, .int .i64 t12.1.f2, .slice AR140_0 t12.1.f3.length cR140_0, .slice AR140_1 t12.1.f4.length cR140_1, .slice AR140_2 t12.1.f5.length cR140_2] 54 (0, 0))] :: CR140_0 :: CR140_1 :: CR140_2 :: CR70 :: Γ = Γ') (f := 31) (args := [.agg #[.int .i64 t12.1.f0, .int .i64 t12.1.f1, .int .i64 t12.1.f2, .slice AR140_0 t12.1.f3.length cR140_0, .slice AR140_1 t12.1.f4.length cR140_1, .slice AR140_2 t12.1.f5.length cR140_2], .agg #[.int .i64 t12.1.f0, .int .i64 t12.1.f1, .int .i64 t12.1.f2, .slice AR140_0 t12.1.f3.length cR140_0, .slice AR140_1 t12.1.f4.length cR140_1, .slice AR140_2 t12.1.f5.length cR140_2]]) (by kernel_rfl) (fun W hI => (Calls.lendN (Φ := fun v' N => v' = .bool t68 ∧ N = []) (H := []) (i := 10) rfl hI (fun _ e l72 nl72 hI => by subst e; exact Calls.lendN (Φ := fun v' N => v' = .bool t68 ∧ N = []) (H := []) (i := 11) rfl hI (fun _ e l73 nl73 hI => by subst e; exact Calls.lendN (Φ := fun v' N => v' = .bool t68 ∧ N = []) (H := []) (i := 12) rfl hI (fun _ e l74 nl74 hI => by subst e; exact (((talk_Same_calls k t12.1 t12.1 AR140_0 cR140_0 (((HR140_0.rdN l72 nl72).mono l73).mono l74) AR140_1 cR140_1 (((HR140_1.mono l72).rdN l73 nl73).mono l74) AR140_2 cR140_2 (((HR140_2.mono l72).mono l73).rdN l74 nl74) AR140_0 cR140_0 (((HR140_0.rdN l72 nl72).mono l73).mono l74) AR140_1 cR140_1 (((HR140_1.mono l72).rdN l73 nl73).mono l74) AR140_2 cR140_2 (((HR140_2.mono l72).mono l73).rdN l74 nl74) t68 ht69 hI)).mono fun _ _ hr => by obtain ⟨_, _, _, rfl, hd, hI⟩ := hr; obtain ⟨rfl, rfl, rfl⟩ := hd; exact ⟨_, _, _, rfl, ⟨[], ⟨rfl, rfl⟩, rfl, rfl⟩, hI⟩))))).mono fun _ _ hr => by obtain ⟨_, _, _, rfl, ⟨_, hd, rfl, rfl⟩, hI⟩ := hr; obtain ⟨rfl, rfl⟩ := hd; exact ⟨_, _, _, rfl, ⟨rfl, rfl, rfl⟩, hI⟩)) ?_
                  rintro _ _ _ ⟨rfl, rfl, rfl⟩
                  refine ⟨_, _, Under.refl, Under.refl, ?_⟩
                  refine WA.pure [33, 34] [0] (m := 0) (b' := 34359738367) (L' := [(0, .bool t68)]) (by kernel_rfl) (NoPanic.then (NoPanic.body)) Under.refl hS (by kernel_rfl) ?_
                  refine WA.done hS (by kernel_rfl) ?_
                  refine QP.pick [0] ?_
                  refine QP.dropAt 13 ?_
                  refine QP.dropAt 12 ?_
                  refine QP.dropAt 11 ?_
                  refine QP.dropAt 10 ?_
                  refine QP.dropAt 9 ?_
                  refine QP.dropAt 8 ?_
                  refine QP.dropAt 7 ?_
                  refine QP.dropAt 6 ?_
                  refine QP.dropAt 5 ?_
                  refine QP.dropAt 4 ?_
                  refine QP.dropAt 3 ?_
                  refine QP.dropAt 2 ?_
                  refine QP.dropAt 1 ?_
                  refine QP.dropAt 0 ?_
                  refine QP.pick [0] ?_
                  exact QP.meet ⟨_, Option.some.inj h, rfl, rfl, rfl⟩
                · replace hc := (Bool.eq_false_iff.1 hc)
                  rw [if_neg hc] at h
                  have hc67 := hc
                  clear hc
                  refine WA.pure [30, 31, 32, 33, 34] [0] (m := 0) (b' := 34359738367) (L' := [(0, .bool false)]) (by kernel_rfl) (NoPanic.then (NoPanic.body)) Under.refl hS (by kernel_rfl) ?_
                  refine WA.done hS (by kernel_rfl) ?_
                  refine QP.pick [0] ?_
                  refine QP.dropAt 13 ?_
                  refine QP.dropAt 12 ?_
                  refine QP.dropAt 11 ?_
                  refine QP.dropAt 10 ?_
                  refine QP.dropAt 9 ?_
                  refine QP.dropAt 8 ?_
                  refine QP.dropAt 7 ?_
                  refine QP.dropAt 6 ?_
                  refine QP.dropAt 5 ?_
                  refine QP.dropAt 4 ?_
                  refine QP.dropAt 3 ?_
                  refine QP.dropAt 2 ?_
                  refine QP.dropAt 1 ?_
                  refine QP.dropAt 0 ?_
                  refine QP.pick [0] ?_
                  exact QP.meet ⟨_, Option.some.inj h, rfl, rfl, rfl⟩
              · replace hc := (Bool.eq_false_iff.1 hc)
                rw [if_neg hc] at h
                have hc55 := hc
                clear hc
                refine WA.pure [25, 26, 27, 28, 29, 30, 31, 32, 33, 34] [0] (m := 0) (b' := 34359738367) (L' := [(0, .bool false)]) (by kernel_rfl) (NoPanic.then (NoPanic.body)) Under.refl hS (by kernel_rfl) ?_
                refine WA.done hS (by kernel_rfl) ?_
                refine QP.pick [0] ?_
                refine QP.dropAt 10 ?_
                refine QP.dropAt 9 ?_
                refine QP.dropAt 8 ?_
                refine QP.dropAt 7 ?_
                refine QP.dropAt 6 ?_
                refine QP.dropAt 5 ?_
                refine QP.dropAt 4 ?_
                refine QP.dropAt 3 ?_
                refine QP.dropAt 2 ?_
                refine QP.dropAt 1 ?_
                refine QP.dropAt 0 ?_
                refine QP.pick [0] ?_
                exact QP.meet ⟨_, Option.some.inj h, rfl, rfl, rfl⟩
            · replace hc := ne_of_beq_false hc
              rw [if_neg hc] at h
              have hc43 := hc
              clear hc
              refine WA.pure [21, 22, 23, 24, 25, 26, 27, 28, 29, 30, 31, 32, 33, 34] [0] (m := 0) (b' := 34359738367) (L' := [(0, .bool false)]) (by kernel_rfl) (NoPanic.then (NoPanic.body)) Under.refl hS (by kernel_rfl) ?_
              refine WA.done hS (by kernel_rfl) ?_
              refine QP.pick [0] ?_
              refine QP.dropAt 7 ?_
              refine QP.dropAt 6 ?_
              refine QP.dropAt 5 ?_
              refine QP.dropAt 4 ?_
              refine QP.dropAt 3 ?_
              refine QP.dropAt 2 ?_
              refine QP.dropAt 1 ?_
              refine QP.dropAt 0 ?_
              refine QP.pick [0] ?_
              exact QP.meet ⟨_, Option.some.inj h, rfl, rfl, rfl⟩
          · replace hc := (Bool.eq_false_iff.1 hc)
            rw [if_neg hc] at h
            have hc42 := hc
            clear hc
            refine WA.pure [17, 18, 19, 20, 21, 22, 23, 24, 25, 26, 27, 28, 29, 30, 31, 32, 33, 34] [0] (m := 0) (b' := 34359738367) (L' := [(0, .bool false)]) (by kernel_rfl) (NoPanic.then (NoPanic.body)) Under.refl hS (by kernel_rfl) ?_
            refine WA.done hS (by kernel_rfl) ?_
            refine QP.pick [0] ?_
            refine QP.dropAt 7 ?_
            refine QP.dropAt 6 ?_
            refine QP.dropAt 5 ?_
            refine QP.dropAt 4 ?_
            refine QP.dropAt 3 ?_
            refine QP.dropAt 2 ?_
            refine QP.dropAt 1 ?_
            refine QP.dropAt 0 ?_
            refine QP.pick [0] ?_
            exact QP.meet ⟨_, Option.some.inj h, rfl, rfl, rfl⟩
        · replace hc := ne_of_beq_false hc
          rw [if_neg hc] at h
          have hc27 := hc
          clear hc
          refine WA.pure [12, 13, 14, 15, 16, 17, 18, 19, 20, 21, 22, 23, 24, 25, 26, 27, 28, 29, 30, 31, 32, 33, 34] [0] (m := 0) (b' := 34359738367) (L' := [(0, .bool false)]) (by kernel_rfl) (NoPanic.then (NoPanic.body)) Under.refl hS (by kernel_rfl) ?_
          refine WA.done hS (by kernel_rfl) ?_
          refine QP.pick [0] ?_
          refine QP.dropAt 4 ?_
          refine QP.dropAt 3 ?_
          refine QP.dropAt 2 ?_
          refine QP.dropAt 1 ?_
          refine QP.dropAt 0 ?_
          refine QP.pick [0] ?_
          exact QP.meet ⟨_, Option.some.inj h, rfl, rfl, rfl⟩
      · replace hc := ne_of_beq_false hc
        rw [if_neg hc] at h
        have hc26 := hc
        clear hc
        refine WA.pure [8, 9, 10, 11, 12, 13, 14, 15, 16, 17, 18, 19, 20, 21, 22, 23, 24, 25, 26, 27, 28, 29, 30, 31, 32, 33, 34] [0] (m := 0) (b' := 34359738367) (L' := [(0, .bool false)]) (by kernel_rfl) (NoPanic.then (NoPanic.body)) Under.refl hS (by kernel_rfl) ?_
        refine WA.done hS (by kernel_rfl) ?_
        refine QP.pick [0] ?_
        refine QP.dropAt 4 ?_
        refine QP.dropAt 3 ?_
        refine QP.dropAt 2 ?_
        refine QP.dropAt 1 ?_
        refine QP.dropAt 0 ?_
        refine QP.pick [0] ?_
        exact QP.meet ⟨_, Option.some.inj h, rfl, rfl, rfl⟩
    · replace hc := ne_of_beq_false hc
      rw [if_neg hc] at h
      have hc25 := hc
      clear hc
      refine WA.pure [3, 4, 5, 6, 7, 8, 9, 10, 11, 12, 13, 14, 15, 16, 17, 18, 19, 20, 21, 22, 23, 24, 25, 26, 27, 28, 29, 30, 31, 32, 33, 34] [0] (m := 0) (b' := 34359738367) (L' := [(0, .bool false)]) (by kernel_rfl) (NoPanic.then (NoPanic.body)) Under.refl hS (by kernel_rfl) ?_
      refine WA.done hS (by kernel_rfl) ?_
      refine QP.pick [0] ?_
      refine QP.dropAt 4 ?_
      refine QP.dropAt 3 ?_
      refine QP.dropAt 2 ?_
      refine QP.dropAt 1 ?_
      refine QP.dropAt 0 ?_
      refine QP.pick [0] ?_
      exact QP.meet ⟨_, Option.some.inj h, rfl, rfl, rfl⟩
  · rintro _ _ _ ⟨s23, rfl, rfl, rfl, rfl⟩
    clear h
    replace h := hk24
    refine WP.ret ?_
    obtain rfl := Option.some.inj h
    exact QP.returned [0] [.bool s23] _ (by kernel_rfl) (by kernel_rfl) (by kernel_rfl) (fun W hI => ⟨_, _, _, rfl, ⟨rfl, rfl, rfl⟩, hI⟩)
end Go.Proofs.YtfocilpnbiciaaaDoor.Gf
