/- Walks of Go functions: what each tells, as a plain Lean function, and that the Go code comes to it. Written by gg.py of this repo. -/
import Derived.Test.YtfocilpnbiciaaaDoorT
import Derived.Test.YtfocilpnbiciaaaDoorF4
import Derived.Test.YtfocilpnbiciaaaDoorF5
import Derived.Test.YtfocilpnbiciaaaDoorF7
import Derived.Test.YtfocilpnbiciaaaDoorF8
namespace Go.Proofs.YtfocilpnbiciaaaDoor.Gf
open Go Go.Gg
set_option maxRecDepth 100000
set_option linter.unusedVariables false
set_option linter.unusedSimpArgs false

/-! ### grapevine/grapevineref20.vector: function 70 -/
def grapevineref20_vector_l0 (l0 : List Int) (a1 : Int) (a2 : Int) : Nat → (List Int) → Int → Option (List Int)
  | 0, _, _ => none
  | k + 1, y3, y4 => (if y4 < a2 then ((grapevineref4_Get k l0 (IntKind.i64.wrap (a1 + (IntKind.i64.wrap (2 * y4)))) 2).bind fun t8 => (if y3.length + ([t8.1] : List Int).length ≤ 1073741824 then grapevineref20_vector_l0 l0 a1 a2 k (y3 ++ ([t8.1] : List Int)) (IntKind.i64.wrap (y4 + 1)) else none)) else some y3)
def grapevineref20_vector (k : Nat) (l0 : List Int) (a1 : Int) (a2 : Int) : Option (List Int) := ((grapevineref20_vector_l0 l0 a1 a2 k ([] : List Int) 0).bind fun s1 => some s1)
set_option maxHeartbeats 4000000 in
theorem grapevineref20_vector_calls {B : World} {G : GMap} {Γ : List Chunk} {W : World} (k : Nat) (l0 : List Int) (a1 : Int) (a2 : Int) (Al0 : Option Addr) (cl0 : Nat) (Hl0 : Rd (kInt .u8) G Al0 cl0 l0) (r : List Int) (h : grapevineref20_vector k l0 a1 a2 = some r) (hI : Inv B G (Γ) W) :
    Calls Tryd.prog 70 [.slice Al0 l0.length cl0, .int .i64 a1, .int .i64 a2].toArray W (Ret B (fun v G' Γ' => ∃ (AR : Option Addr), ∃ (cR : Nat), ∃ (CR : Chunk), v = .slice AR r.length cR ∧ Ow (kInt .i64) G' AR cR r CR ∧ G = G' ∧ CR :: Γ = Γ')) := by
  refine calls_WP (Γ := Γ) (G := G) (B := B) Tryd.func70 rfl (by kernel_rfl) ?_ hI
  clear hI
  unfold grapevineref20_vector at h
  refine WP.seqP [0, 1, 2] (L' := [(0, .slice Al0 l0.length cl0), (1, .int .i64 a1), (2, .int .i64 a2)]) (by kernel_rfl) ?_
  refine WP.seqP [0, 1, 2, 7] (L' := [(0, .slice Al0 l0.length cl0), (1, .int .i64 a1), (2, .int .i64 a2), (7, .slice none 0 0)]) (by kernel_rfl) ?_
  refine WP.seq ?_
  refine WP.seqP [0, 1, 2, 7, 8] (L' := [(0, .slice Al0 l0.length cl0), (1, .int .i64 a1), (2, .int .i64 a2), (7, .slice none 0 0), (8, .int .i64 0)]) (by kernel_rfl) ?_
  rw [Option.bind_eq_some_iff] at h
  obtain ⟨os1, h, hk2⟩ := h
  refine WP.cutQ (fun L' G' Γ' => ∃ s1 : (List Int), s1 = os1 ∧ ∃ (As1 : Option Addr), ∃ (cs1 : Nat), ∃ (Cs1 : Chunk), L' = [(7, .slice As1 s1.length cs1)] ∧ G = G' ∧ Cs1 :: Γ = Γ' ∧ Ow (kInt .i64) G As1 cs1 s1 Cs1) ?_ ?_
  · clear hk2
    refine WP.block ?_
    refine WP.addNil ?_
    refine WP.pick [0, 1, 2, 7, 8] ?_
    refine WP.loopF (fun kn5 L' G' Γ' => ∃ (y3 : List Int), ∃ (y4 : Int), grapevineref20_vector_l0 l0 a1 a2 kn5 y3 y4 = some os1 ∧ ∃ (Ay3 : Option Addr), ∃ (cy3 : Nat), ∃ (Cy3 : Chunk), L' = [(0, .slice Al0 l0.length cl0), (1, .int .i64 a1), (2, .int .i64 a2), (7, .slice Ay3 y3.length cy3), (8, .int .i64 y4)] ∧ G = G' ∧ Cy3 :: Γ = Γ' ∧ Ow (kInt .i64) G Ay3 cy3 y3 Cy3) ?_ k ⟨([] : List Int), 0, h, none, 0, [], rfl, rfl, rfl, (Ow.nil (kInt .i64) _)⟩
    clear h
    rintro kn6 _ _ _ ⟨y3, y4, h, Ay3, cy3, Cy3, rfl, rfl, rfl, Hy3⟩
    cases kn6 with
    | zero => exact absurd h (by simp [grapevineref20_vector_l0])
    | succ kn6 =>
      simp only [grapevineref20_vector_l0] at h
      refine WP.seq ?_
      refine WP.seqP [0, 1, 2, 7, 8, 13] (L' := [(0, .slice Al0 l0.length cl0), (1, .int .i64 a1), (2, .int .i64 a2), (7, .slice Ay3 y3.length cy3), (8, .int .i64 y4), (13, .bool (decide (y4 < a2)))]) (by kernel_rfl) ?_
      refine WP.cond (b := decide (y4 < a2)) (by kernel_rfl) (fun hc => ?_) (fun hc => ?_)
      · replace hc := of_decide_eq_true hc
        rw [if_pos hc] at h
        have hc7 := hc
        clear hc
        refine WP.skip ?_
        refine QP.next ?_
        refine WP.pick [0, 1, 2, 7, 8] ?_
        refine WP.seq ?_
        refine WP.block ?_
        refine WP.seqR ?_
        refine WL.pure 0 5 [0, 1, 2, 7, 8, 17, 21] (L' := [(0, .slice Al0 l0.length cl0), (1, .int .i64 a1), (2, .int .i64 a2), (7, .slice Ay3 y3.length cy3), (8, .int .i64 y4), (17, .slice Al0 l0.length cl0), (21, .int .i64 (IntKind.i64.wrap (a1 + (IntKind.i64.wrap (2 * y4)))))]) (by kernel_rfl) (by decide) ?_
        rw [Option.bind_eq_some_iff] at h
        obtain ⟨t8, ht9, h⟩ := h
        refine WL.op (op := .call { callee := (.value (.func 49)), args := #[(.tmp 17), (.tmp 21), (.const (.int .i64 2))], argTypes := #[22, 3, 3] }) (ty := 85) (d := some 22) (g := none) (by kernel_rfl) (by kernel_rfl) (by kernel_rfl) (Does.call (f := 49) (args := [.slice Al0 l0.length cl0, .int .i64 (IntKind.i64.wrap (a1 + (IntKind.i64.wrap (2 * y4)))), .int .i64 2]) (by kernel_rfl) (fun W hI => (grapevineref4_Get_calls kn6 l0 (IntKind.i64.wrap (a1 + (IntKind.i64.wrap (2 * y4)))) 2 Al0 cl0 Hl0 t8 ht9 hI))) ?_
        rintro _ _ _ ⟨rfl, rfl, rfl⟩
        refine WL.restQ 6 [0, 1, 2, 7, 8, 9] (L' := [(0, .slice Al0 l0.length cl0), (1, .int .i64 a1), (2, .int .i64 a2), (7, .slice Ay3 y3.length cy3), (8, .int .i64 y4), (9, .int .i64 t8.1)]) (by kernel_rfl) ?_
        refine WP.region ?_
        refine WL.pure 0 2 [0, 1, 2, 7, 8, 25, 26] (L' := [(0, .slice Al0 l0.length cl0), (1, .int .i64 a1), (2, .int .i64 a2), (7, .slice Ay3 y3.length cy3), (8, .int .i64 y4), (25, .slice Ay3 y3.length cy3), (26, .int .i64 t8.1)]) (by kernel_rfl) (by decide) ?_
        refine WL.op (op := .buildSlice 32 1 #[(0, (.tmp 26))]) (ty := 32) (d := some 27) (g := none) (by kernel_rfl) (by kernel_rfl) (by kernel_rfl) (Does.new (o := .cells #[.int .i64 t8.1] 3 (0, 0)) (v := fun r => .slice (some ⟨r, 0, none⟩) 1 1) (fun r => by kernel_rfl)) ?_
        rintro _ _ _ ⟨b12, rfl, rfl, rfl⟩
        have Ho14 : Ow (kInt .i64) G (some ⟨b12, 0, none⟩) 1 ([t8.1] : List Int) [(b12, .cells #[.int .i64 t8.1] 3 (0, 0))] := Ow.lit (kd := (kInt .i64)) (G := G) (b := b12) (T := 3) (xs := ([t8.1] : List Int)) (cs := [.int .i64 t8.1]) (.cons (x := t8.1) (cs := [.int .i64 t8.1]) (by exact rfl) .nil)
        by_cases hb15 : y3.length + ([t8.1] : List Int).length ≤ 1073741824
        case neg => rw [if_neg hb15] at h; cases h
        rw [if_pos hb15] at h
        refine WL.op (op := .call { callee := (.builtin .append), args := #[(.tmp 25), (.tmp 27)], argTypes := #[32, 32] }) (ty := 32) (d := some 28) (g := none) (by kernel_rfl) (by kernel_rfl) (by kernel_rfl) (Ow.append (ys := ([t8.1] : List Int)) (v := .slice (some ⟨b12, 0, none⟩) ([t8.1] : List Int).length 1) Hy3 (i := 1) rfl (by kernel_rfl) (by kernel_rfl) (Ho14.src (i := 0) rfl) sl32 ze3 nt32 (by decide) hb15) ?_
        rintro _ _ _ ⟨rfl, AN16, cN16, CN16, rfl, HN16, rfl⟩
        refine WL.rest 4 [0, 1, 2, 7, 8] (L' := [(0, .slice Al0 l0.length cl0), (1, .int .i64 a1), (2, .int .i64 a2), (7, .slice AN16 (y3 ++ ([t8.1] : List Int)).length cN16), (8, .int .i64 y4)]) (by kernel_rfl) ?_
        refine QP.blockN ?_
        refine QP.next ?_
        refine WP.pick [0, 1, 2, 7, 8] ?_
        refine WP.regionP [0, 1, 2, 7, 8] (L' := [(0, .slice Al0 l0.length cl0), (1, .int .i64 a1), (2, .int .i64 a2), (7, .slice AN16 (y3 ++ ([t8.1] : List Int)).length cN16), (8, .int .i64 (IntKind.i64.wrap (y4 + 1)))]) (by kernel_rfl) ?_
        refine QP.dropAt 0 ?_
        refine QP.pick [0, 1, 2, 7, 8] ?_
        exact QP.meet ⟨kn6, Nat.lt_succ_self _, (y3 ++ ([t8.1] : List Int)), (IntKind.i64.wrap (y4 + 1)), h, AN16, cN16, CN16, rfl, rfl, rfl, HN16⟩
      · replace hc := of_decide_eq_false hc
        rw [if_neg hc] at h
        have hc7 := hc
        clear hc
        refine WP.exit ?_
        refine QP.thenE ?_
        refine QP.thenE ?_
        refine QP.blockE ?_
        refine QP.pick [7] ?_
        exact QP.meet ⟨_, Option.some.inj h, Ay3, cy3, Cy3, rfl, rfl, rfl, Hy3⟩
  · rintro _ _ _ ⟨s1, rfl, As1, cs1, Cs1, rfl, rfl, rfl, Hs1⟩
    clear h
    replace h := hk2
    refine QP.next ?_
    refine WP.pick [7] ?_
    refine WP.seqP [6] (L' := [(6, .slice As1 s1.length cs1)]) (by kernel_rfl) ?_
    refine WP.ret ?_
    obtain rfl := Option.some.inj h
    exact QP.returned [6] [.slice As1 s1.length cs1] _ (by kernel_rfl) (by kernel_rfl) (by kernel_rfl) (fun W hI => ⟨_, _, _, rfl, ⟨As1, cs1, Cs1, rfl, Hs1, rfl, rfl⟩, hI⟩)

/-! ### grapevine/grapevineref20.Read: function 35 -/
def grapevineref20_Read_l0 (a1 : Int) (t2 : Int × (List Int) × Int × Bool) : Nat → Int → Int → T54 → Option (Sum (T54 × Int) T54)
  | 0, _, _, _ => none
  | k + 1, y35, y36, y37 => (if 0 ≤ (IntKind.i64.wrap (3 + (IntKind.i64.wrap (4 * a1)))) ∧ (IntKind.i64.wrap (3 + (IntKind.i64.wrap (4 * a1)))) < (t2.2.1.length : Int) then (if y36 < (IntKind.i64.wrap (t2.2.1.getD (IntKind.i64.wrap (3 + (IntKind.i64.wrap (4 * a1)))).toNat 0)) then ((grapevineref4_Read k t2.2.1 y35).bind fun t42 => (if (!t42.2.2) = true then some (Sum.inl ((⟨0, 0, 0, ([] : List Int), ([] : List Int), ([] : List T39)⟩ : T54), 12)) else (if y37.f5.length + ([t42.1] : List T39).length ≤ 1073741824 then grapevineref20_Read_l0 a1 t2 k t42.2.1 (IntKind.i64.wrap (y36 + 1)) (⟨y37.f0, y37.f1, y37.f2, y37.f3, y37.f4, (y37.f5 ++ ([t42.1] : List T39))⟩ : T54) else none))) else some (Sum.inr y37)) else none)
def grapevineref20_Read (k : Nat) (l0 : List Int) (a1 : Int) : Option (T54 × Int) := ((grapevineref6_Next k l0 0).bind fun t2 => ((if (!t2.2.2.2) = true then some true else ((grapevineref3_Many a1).bind fun t9 => (if (!t9) = true then some true else some (decide ((t2.2.1.length : Int) < (IntKind.i64.wrap (4 + (IntKind.i64.wrap (4 * a1))))))))).bind fun s6 => (if s6 = true then some ((⟨0, 0, 0, ([] : List Int), ([] : List Int), ([] : List T39)⟩ : T54), 12) else ((if 0 ≤ (0 : Int) ∧ (0 : Int) < (t2.2.1.length : Int) then (if 0 ≤ (1 : Int) ∧ (1 : Int) < (t2.2.1.length : Int) then ((grapevineref20_vector k t2.2.1 3 a1).bind fun t20 => ((grapevineref20_vector k t2.2.1 (IntKind.i64.wrap (3 + (IntKind.i64.wrap (2 * a1)))) a1).bind fun t25 => some (⟨t2.1, IntKind.i64.wrap (t2.2.1.getD (0 : Int).toNat 0), IntKind.i64.wrap (t2.2.1.getD (1 : Int).toNat 0), t20, t25, ([] : List T39)⟩ : T54))) else none) else none).bind fun s15 => ((some (IntKind.i64.wrap (4 + (IntKind.i64.wrap (4 * a1))))).bind fun v31 => ((grapevineref20_Read_l0 a1 t2 k v31 0 s15).bind fun os33 => match os33 with | Sum.inl r => some r | Sum.inr s33 => ((grapevineref20_Lay k s33 a1).bind fun t54 => ((if ¬ t54.2 = 0 then some true else some (!((strOfNums t54.1).toList == (strOfNums l0).toList))).bind fun s61 => (if s61 = true then some ((⟨0, 0, 0, ([] : List Int), ([] : List Int), ([] : List T39)⟩ : T54), 12) else some (s33, 0))))))))))
set_option maxHeartbeats 4000000 in
theorem grapevineref20_Read_calls {B : World} {G : GMap} {Γ : List Chunk} {W : World} (HT : Tabs B G) (k : Nat) (l0 : List Int) (a1 : Int) (Al0 : Option Addr) (cl0 : Nat) (Hl0 : Rd (kInt .u8) G Al0 cl0 l0) (r : T54 × Int) (h : grapevineref20_Read k l0 a1 = some r) (hI : Inv B G (Γ) W) :
    Calls Tryd.prog 35 [.slice Al0 l0.length cl0, .int .i64 a1].toArray W (Ret B (fun v G' Γ' => ∃ (AR0_0 : Option Addr), ∃ (cR0_0 : Nat), ∃ (CR0_0 : Chunk), ∃ (AR0_1 : Option Addr), ∃ (cR0_1 : Nat), ∃ (CR0_1 : Chunk), ∃ (AR0_2 : Option Addr), ∃ (cR0_2 : Nat), ∃ (CR0_2 : Chunk), v = .tuple #[.agg #[.int .i64 r.1.f0, .int .i64 r.1.f1, .int .i64 r.1.f2, .slice AR0_0 r.1.f3.length cR0_0, .slice AR0_1 r.1.f4.length cR0_1, .slice AR0_2 r.1.f5.length cR0_2], .int .i64 r.2] ∧ Ow (kInt .i64) G' AR0_0 cR0_0 r.1.f3 CR0_0 ∧ Ow (kInt .i64) G' AR0_1 cR0_1 r.1.f4 CR0_1 ∧ Ow k39 G' AR0_2 cR0_2 r.1.f5 CR0_2 ∧ G = G' ∧ CR0_0 :: CR0_1 :: CR0_2 :: Γ = Γ')) := by
  refine calls_WP (Γ := Γ) (G := G) (B := B) Tryd.func35 rfl (by kernel_rfl) ?_ hI
  clear hI
  unfold grapevineref20_Read at h
  refine WP.seqR ?_
  refine WL.op (op := .alloc 54) (ty := 0) (d := some 4) (g := none) (by kernel_rfl) (by kernel_rfl) (by kernel_rfl) (Does.new (o := .cells #[.int .i64 0, .int .i64 0, .int .i64 0, .slice none 0 0, .slice none 0 0, .slice none 0 0] 54 (0, 0)) (v := fun r => .pointer (some ⟨r, 0, none⟩)) (fun r => by kernel_rfl)) ?_
  rintro _ _ _ ⟨b1, rfl, rfl, rfl⟩
  refine WL.restQ 1 [0, 1, 4] (L' := [(0, .slice Al0 l0.length cl0), (1, .int .i64 a1), (4, .pointer (some ⟨b1, 0, none⟩))]) (by kernel_rfl) ?_
  refine WP.seqR ?_
  refine WL.pure 0 1 [0, 1, 4, 19] (L' := [(0, .slice Al0 l0.length cl0), (1, .int .i64 a1), (4, .pointer (some ⟨b1, 0, none⟩)), (19, .slice Al0 l0.length cl0)]) (by kernel_rfl) (by decide) ?_
  rw [Option.bind_eq_some_iff] at h
  obtain ⟨t2, ht3, h⟩ := h
  refine WL.op (op := .call { callee := (.value (.func 21)), args := #[(.tmp 19), (.const (.int .i64 0))], argTypes := #[22, 3] }) (ty := 47) (d := some 20) (g := none) (by kernel_rfl) (by kernel_rfl) (by kernel_rfl) (Does.call (f := 21) (args := [.slice Al0 l0.length cl0, .int .i64 0]) (by kernel_rfl) (fun W hI => (grapevineref6_Next_calls k l0 0 Al0 cl0 Hl0 t2 ht3 hI))) ?_
  rintro _ _ _ ⟨AR41, cR41, CR41, rfl, HR41, rfl, rfl⟩
  refine WL.restQ 2 [0, 1, 4, 6, 7, 9] (L' := [(0, .slice Al0 l0.length cl0), (1, .int .i64 a1), (4, .pointer (some ⟨b1, 0, none⟩)), (6, .int .i64 t2.1), (7, .slice AR41 t2.2.1.length cR41), (9, .bool t2.2.2.2)]) (by kernel_rfl) ?_
  refine WP.seq ?_
  rw [Option.bind_eq_some_iff] at h
  obtain ⟨os6, h, hk7⟩ := h
  refine WP.cut (fun L' G' Γ' => ∃ s6 : Bool, s6 = os6 ∧ L' = [(0, .slice Al0 l0.length cl0), (1, .int .i64 a1), (4, .pointer (some ⟨b1, 0, none⟩)), (6, .int .i64 t2.1), (7, .slice AR41 t2.2.1.length cR41), (39, .bool s6)] ∧ G = G' ∧ CR41 :: [(b1, .cells #[.int .i64 0, .int .i64 0, .int .i64 0, .slice none 0 0, .slice none 0 0, .slice none 0 0] 54 (0, 0))] :: Γ = Γ') ?_ ?_
  · clear hk7
    refine WP.region ?_
    refine WL.pure 0 3 [0, 1, 4, 6, 7, 27] (L' := [(0, .slice Al0 l0.length cl0), (1, .int .i64 a1), (4, .pointer (some ⟨b1, 0, none⟩)), (6, .int .i64 t2.1), (7, .slice AR41 t2.2.1.length cR41), (27, .bool (!t2.2.2.2))]) (by kernel_rfl) (by decide) ?_
    refine WL.split 27 (b := (!t2.2.2.2)) (by kernel_rfl) (fun hc => ?_) (fun hc => ?_)
    · replace hc := hc
      rw [if_pos hc] at h
      have hc8 := hc
      clear hc
      refine WL.rest 3 [0, 1, 4, 6, 7, 39] (L' := [(0, .slice Al0 l0.length cl0), (1, .int .i64 a1), (4, .pointer (some ⟨b1, 0, none⟩)), (6, .int .i64 t2.1), (7, .slice AR41 t2.2.1.length cR41), (39, .bool true)]) (by kernel_rfl) ?_
      refine QP.pick [0, 1, 4, 6, 7, 39] ?_
      exact QP.meet ⟨_, Option.some.inj h, rfl, rfl, rfl⟩
    · replace hc := (Bool.eq_false_iff.1 hc)
      rw [if_neg hc] at h
      have hc8 := hc
      clear hc
      refine WL.pure 3 4 [0, 1, 4, 6, 7, 27, 28] (L' := [(0, .slice Al0 l0.length cl0), (1, .int .i64 a1), (4, .pointer (some ⟨b1, 0, none⟩)), (6, .int .i64 t2.1), (7, .slice AR41 t2.2.1.length cR41), (27, .bool false), (28, .int .i64 a1)]) (by kernel_rfl) (by decide) ?_
      rw [Option.bind_eq_some_iff] at h
      obtain ⟨t9, ht10, h⟩ := h
      refine WL.op (op := .call { callee := (.value (.func 69)), args := #[(.tmp 28)], argTypes := #[3] }) (ty := 4) (d := some 29) (g := some (2, false)) (by kernel_rfl) (by kernel_rfl) (by kernel_rfl) (Does.call (f := 69) (args := [.int .i64 a1]) (by kernel_rfl) (fun W hI => (grapevineref3_Many_calls a1  t9 ht10 hI))) ?_
      rintro _ _ _ ⟨rfl, rfl, rfl⟩
      refine WL.pure 5 8 [0, 1, 4, 6, 7, 32] (L' := [(0, .slice Al0 l0.length cl0), (1, .int .i64 a1), (4, .pointer (some ⟨b1, 0, none⟩)), (6, .int .i64 t2.1), (7, .slice AR41 t2.2.1.length cR41), (32, .bool (!t9))]) (by kernel_rfl) (by decide) ?_
      refine WL.split 32 (b := (!t9)) (by kernel_rfl) (fun hc => ?_) (fun hc => ?_)
      · replace hc := hc
        rw [if_pos hc] at h
        have hc13 := hc
        clear hc
        refine WL.rest 8 [0, 1, 4, 6, 7, 39] (L' := [(0, .slice Al0 l0.length cl0), (1, .int .i64 a1), (4, .pointer (some ⟨b1, 0, none⟩)), (6, .int .i64 t2.1), (7, .slice AR41 t2.2.1.length cR41), (39, .bool true)]) (by kernel_rfl) ?_
        refine QP.pick [0, 1, 4, 6, 7, 39] ?_
        exact QP.meet ⟨_, Option.some.inj h, rfl, rfl, rfl⟩
      · replace hc := (Bool.eq_false_iff.1 hc)
        rw [if_neg hc] at h
        have hc13 := hc
        clear hc
        refine WL.rest 8 [0, 1, 4, 6, 7, 39] (L' := [(0, .slice Al0 l0.length cl0), (1, .int .i64 a1), (4, .pointer (some ⟨b1, 0, none⟩)), (6, .int .i64 t2.1), (7, .slice AR41 t2.2.1.length cR41), (39, .bool (decide ((t2.2.1.length : Int) < (IntKind.i64.wrap (4 + (IntKind.i64.wrap (4 * a1)))))))]) (by kernel_rfl) ?_
        refine QP.pick [0, 1, 4, 6, 7, 39] ?_
        exact QP.meet ⟨_, Option.some.inj h, rfl, rfl, rfl⟩
  · rintro _ _ _ ⟨s6, rfl, rfl, rfl, rfl⟩
    clear h
    replace h := hk7
    refine WP.cond (b := s6) (by kernel_rfl) (fun hc => ?_) (fun hc => ?_)
    · replace hc := hc
      rw [if_pos hc] at h
      have hc14 := hc
      clear hc
      refine WP.seqR ?_
      refine WL.pure 0 1 [4, 40] (L' := [(4, .pointer (some ⟨b1, 0, none⟩)), (40, .agg #[.int .i64 0, .int .i64 0, .int .i64 0, .slice none 0 0, .slice none 0 0, .slice none 0 0])]) (by kernel_rfl) (by decide) ?_
      refine WL.op (op := .store 54 (.tmp 4) (.tmp 40)) (ty := 0) (d := none) (g := none) (by kernel_rfl) (by kernel_rfl) (by kernel_rfl) (Does.store_box (i := 1) (b := b1) (o := 0) (v := .agg #[.int .i64 0, .int .i64 0, .int .i64 0, .slice none 0 0, .slice none 0 0, .slice none 0 0]) (by rfl) sz54 (by kernel_rfl) (by kernel_rfl) (by kernel_rfl) (Free.zero _) (Nat.le_of_ble_eq_true rfl) (cells' := #[.int .i64 0, .int .i64 0, .int .i64 0, .slice none 0 0, .slice none 0 0, .slice none 0 0]) (by kernel_rfl)) ?_
      rintro _ _ _ ⟨rfl, rfl, rfl⟩
      refine WL.restQ 2 [4, 5] (L' := [(4, .pointer (some ⟨b1, 0, none⟩)), (5, .int .i64 12)]) (by kernel_rfl) ?_
      refine WP.dropAt 0 ?_
      refine WP.ret ?_
      refine QP.thenR ?_
      obtain rfl := Option.some.inj h
      refine QP.addNil ?_
      refine QP.addNil ?_
      refine QP.addNil ?_
      refine QP.front (i := 3) rfl ?_
      refine QP.front (i := 1) rfl ?_
      refine QP.front (i := 2) rfl ?_
      refine QP.front (i := 3) rfl ?_
      exact QP.returnedM (rs := [.cell 4 54, .tmp 5]) (by kernel_rfl) (ResAll.cons (Res1.box (p := 4) (i := 3) (o := 0) (agg := true) (by rfl) ag54 (by kernel_rfl) (fun h => by cases h) (Nat.le_of_ble_eq_true rfl) (v := .agg #[.int .i64 0, .int .i64 0, .int .i64 0, .slice none ([] : List Int).length 0, .slice none ([] : List Int).length 0, .slice none ([] : List T39).length 0]) (by kernel_rfl)) (ResAll.cons (Res1.tmp (t := 5) (v := .int .i64 12) (by kernel_rfl)) ResAll.nil)) (by kernel_rfl) (fun W hI => ⟨_, _, _, rfl, ⟨none, 0, [], none, 0, [], none, 0, [], rfl, (Ow.nil (kInt .i64) _), (Ow.nil (kInt .i64) _), (Ow.nil k39 _), rfl, rfl⟩, (hI.less 3 rfl)⟩)
    · replace hc := (Bool.eq_false_iff.1 hc)
      rw [if_neg hc] at h
      have hc14 := hc
      clear hc
      refine WP.skip ?_
      refine QP.next ?_
      refine WP.pick [0, 1, 4, 6, 7] ?_
      rw [Option.bind_eq_some_iff] at h
      obtain ⟨os15, h, hk17⟩ := h
      refine WP.cut (fun L' G' Γ' => ∃ s15 : T54, s15 = os15 ∧ ∃ (bn16 : Nat), ∃ (As15_f3 : Option Addr), ∃ (cs15_f3 : Nat), ∃ (Cs15_f3 : Chunk), ∃ (As15_f4 : Option Addr), ∃ (cs15_f4 : Nat), ∃ (Cs15_f4 : Chunk), ∃ (As15_f5 : Option Addr), ∃ (cs15_f5 : Nat), ∃ (Cs15_f5 : Chunk), L' = [(0, .slice Al0 l0.length cl0), (1, .int .i64 a1), (4, .pointer (some ⟨b1, 0, none⟩)), (7, .slice AR41 t2.2.1.length cR41), (10, .pointer (some ⟨bn16, 0, none⟩))] ∧ G = G' ∧ [(bn16, .cells #[.int .i64 s15.f0, .int .i64 s15.f1, .int .i64 s15.f2, .slice As15_f3 s15.f3.length cs15_f3, .slice As15_f4 s15.f4.length cs15_f4, .slice As15_f5 s15.f5.length cs15_f5] 54 (0, 0))] :: Cs15_f3 :: Cs15_f4 :: Cs15_f5 :: CR41 :: [(b1, .cells #[.int .i64 0, .int .i64 0, .int .i64 0, .slice none 0 0, .slice none 0 0, .slice none 0 0] 54 (0, 0))] :: Γ = Γ' ∧ Ow (kInt .i64) G As15_f3 cs15_f3 s15.f3 Cs15_f3 ∧ Ow (kInt .i64) G As15_f4 cs15_f4 s15.f4 Cs15_f4 ∧ Ow k39 G As15_f5 cs15_f5 s15.f5 Cs15_f5) ?_ ?_
      · clear hk17
        skip
        refine WP.any (N := 21) (S := [⟨some 41, [6], []⟩, ⟨some 42, [7], []⟩, ⟨some 43, [42], [1]⟩, ⟨some 44, [43], [2]⟩, ⟨some 45, [44], [3]⟩, ⟨some 46, [7], []⟩, ⟨some 47, [46], [5]⟩, ⟨some 48, [47], [6]⟩, ⟨some 49, [48], [7]⟩, ⟨some 50, [7], []⟩, ⟨some 51, [1], []⟩, ⟨some 52, [50, 51], [9, 10]⟩, ⟨some 53, [7], []⟩, ⟨some 54, [1], []⟩, ⟨some 55, [54], [13]⟩, ⟨some 56, [55], [14]⟩, ⟨some 57, [1], []⟩, ⟨some 58, [53, 56, 57], [11, 12, 15, 16]⟩, ⟨some 59, [41, 45, 49, 52, 58], [0, 4, 8, 11, 17]⟩, ⟨some 10, [], []⟩, ⟨none, [10, 59], [0, 1, 2, 3, 4, 5, 6, 7, 8, 9, 10, 11, 12, 13, 14, 15, 16, 17, 18, 19]⟩]) (kw := 20) (G0 := G) (Γ0 := CR41 :: [(b1, .cells #[.int .i64 0, .int .i64 0, .int .i64 0, .slice none 0 0, .slice none 0 0, .slice none 0 0] 54 (0, 0))] :: Γ) mo (by kernel_rfl) (fun hS => ?_)
        refine WA.pure [0, 1, 5, 9, 10, 12, 13, 14, 15, 16] [0, 1, 4, 7, 41, 42, 46, 50, 51, 53, 56, 57] (m := 11) (b' := 128547) (L' := [(0, .slice Al0 l0.length cl0), (1, .int .i64 a1), (4, .pointer (some ⟨b1, 0, none⟩)), (7, .slice AR41 t2.2.1.length cR41), (41, .int .i64 t2.1), (42, .slice AR41 t2.2.1.length cR41), (46, .slice AR41 t2.2.1.length cR41), (50, .slice AR41 t2.2.1.length cR41), (51, .int .i64 a1), (53, .slice AR41 t2.2.1.length cR41), (56, .int .i64 (IntKind.i64.wrap (3 + (IntKind.i64.wrap (2 * a1))))), (57, .int .i64 a1)]) (by kernel_rfl) (NoPanic.then (NoPanic.body)) Under.refl hS (by kernel_rfl) ?_
        by_cases hb18 : 0 ≤ (0 : Int) ∧ (0 : Int) < (t2.2.1.length : Int)
        case neg => rw [if_neg hb18] at h; cases h
        rw [if_pos hb18] at h
        refine WA.tellD [20] (i := 2) (m := 10) (b' := 128551) (by kernel_rfl) (NoPanic.then (NoPanic.body)) Under.refl hS (by kernel_rfl) (op := .indexAddr 22 (.tmp 42) (.const (.int .i64 0))) (ty := 0) (d := some 43) (g := none) (by kernel_rfl) (by kernel_rfl) (by kernel_rfl) (Tells.indexAddr (A := AR41) (n := t2.2.1.length) (c := cR41) (k := .i64) (j := 0) (by kernel_rfl) (by kernel_rfl) (HR41.isSome hb18.1 hb18.2) hb18.1 hb18.2 sl22) ?_
        refine WA.tellDE [20] (i := 3) (m := 9) (b' := 128559) (by kernel_rfl) (NoPanic.then (NoPanic.body)) Under.refl hS (by kernel_rfl) (op := .load 5 (.tmp 43)) (ty := 5) (d := some 44) (g := none) (by kernel_rfl) (by kernel_rfl) (by kernel_rfl) (HR41.load (i := 0) rfl (agg := false) hb18.1 hb18.2 0 ag5 (fun _ => rfl) (by kernel_rfl)) ?_
        rintro _ rfl
        refine WA.pure [4] [0, 1, 4, 7, 41, 45, 46, 50, 51, 53, 56, 57] (m := 8) (b' := 128575) (L' := [(0, .slice Al0 l0.length cl0), (1, .int .i64 a1), (4, .pointer (some ⟨b1, 0, none⟩)), (7, .slice AR41 t2.2.1.length cR41), (41, .int .i64 t2.1), (45, .int .i64 (IntKind.i64.wrap (t2.2.1.getD (0 : Int).toNat 0))), (46, .slice AR41 t2.2.1.length cR41), (50, .slice AR41 t2.2.1.length cR41), (51, .int .i64 a1), (53, .slice AR41 t2.2.1.length cR41), (56, .int .i64 (IntKind.i64.wrap (3 + (IntKind.i64.wrap (2 * a1))))), (57, .int .i64 a1)]) (by kernel_rfl) (NoPanic.then (NoPanic.body)) Under.refl hS (by kernel_rfl) ?_
        by_cases hb19 : 0 ≤ (1 : Int) ∧ (1 : Int) < (t2.2.1.length : Int)
        case neg => rw [if_neg hb19] at h; cases h
        rw [if_pos hb19] at h
        refine WA.tellD [20] (i := 6) (m := 7) (b' := 128639) (by kernel_rfl) (NoPanic.then (NoPanic.body)) Under.refl hS (by kernel_rfl) (op := .indexAddr 22 (.tmp 46) (.const (.int .i64 1))) (ty := 0) (d := some 47) (g := none) (by kernel_rfl) (by kernel_rfl) (by kernel_rfl) (Tells.indexAddr (A := AR41) (n := t2.2.1.length) (c := cR41) (k := .i64) (j := 1) (by kernel_rfl) (by kernel_rfl) (HR41.isSome hb19.1 hb19.2) hb19.1 hb19.2 sl22) ?_
        refine WA.tellDE [20] (i := 7) (m := 6) (b' := 128767) (by kernel_rfl) (NoPanic.then (NoPanic.body)) Under.refl hS (by kernel_rfl) (op := .load 5 (.tmp 47)) (ty := 5) (d := some 48) (g := none) (by kernel_rfl) (by kernel_rfl) (by kernel_rfl) (HR41.load (i := 0) rfl (agg := false) hb19.1 hb19.2 0 ag5 (fun _ => rfl) (by kernel_rfl)) ?_
        rintro _ rfl
        refine WA.pure [8] [0, 1, 4, 7, 41, 45, 49, 50, 51, 53, 56, 57] (m := 5) (b' := 129023) (L' := [(0, .slice Al0 l0.length cl0), (1, .int .i64 a1), (4, .pointer (some ⟨b1, 0, none⟩)), (7, .slice AR41 t2.2.1.length cR41), (41, .int .i64 t2.1), (45, .int .i64 (IntKind.i64.wrap (t2.2.1.getD (0 : Int).toNat 0))), (49, .int .i64 (IntKind.i64.wrap (t2.2.1.getD (1 : Int).toNat 0))), (50, .slice AR41 t2.2.1.length cR41), (51, .int .i64 a1), (53, .slice AR41 t2.2.1.length cR41), (56, .int .i64 (IntKind.i64.wrap (3 + (IntKind.i64.wrap (2 * a1))))), (57, .int .i64 a1)]) (by kernel_rfl) (NoPanic.then (NoPanic.body)) Under.refl hS (by kernel_rfl) ?_
        refine WA.two (i := 11) (j := 19) (m := 4) (by kernel_rfl) hS (by kernel_rfl) ?_ ?_
        · rw [Option.bind_eq_some_iff] at h
          obtain ⟨t20, ht21, h⟩ := h
          refine WO.op (b' := 131071) (by kernel_rfl) (op := .call { callee := (.value (.func 70)), args := #[(.tmp 50), (.const (.int .i64 3)), (.tmp 51)], argTypes := #[22, 3, 3] }) (ty := 32) (d := some 52) (g := none) (by kernel_rfl) (by kernel_rfl) (by kernel_rfl) (Does.call (Φ := fun v' G' Γ' => ∃ (AR22 : Option Addr), ∃ (cR22 : Nat), ∃ (CR22 : Chunk), v' = .slice AR22 t20.length cR22 ∧ Ow (kInt .i64) G AR22 cR22 t20 CR22 ∧ G = G' ∧ CR22 :: CR41 :: [(b1, .cells #[.int .i64 0, .int .i64 0, .int .i64 0, .slice none 0 0, .slice none 0 0, .slice none 0 0] 54 (0, 0))] :: Γ = Γ') (f := 70) (args := [.slice AR41 t2.2.1.length cR41, .int .i64 3, .int .i64 a1]) (by kernel_rfl) (fun W hI => (Calls.lendN (Φ := fun v' N => ∃ (AR22 : Option Addr), ∃ (cR22 : Nat), ∃ (CR22 : Chunk), v' = .slice AR22 t20.length cR22 ∧ Ow (kInt .i64) G AR22 cR22 t20 CR22 ∧ N = [CR22]) (H := []) (i := 0) rfl hI (fun _ e l24 nl24 hI => by subst e; exact (((grapevineref20_vector_calls k t2.2.1 3 a1 AR41 cR41 (HR41.rdN l24 nl24) t20 ht21 hI)).mono fun _ _ hr => by obtain ⟨_, _, _, rfl, hd, hI⟩ := hr; obtain ⟨AR22, cR22, CR22, rfl, HR22, rfl, rfl⟩ := hd; exact ⟨_, _, _, rfl, ⟨[CR22], ⟨AR22, cR22, CR22, rfl, (HR22.flat (kInt_flat _)), rfl⟩, rfl, rfl⟩, hI⟩))).mono fun _ _ hr => by obtain ⟨_, _, _, rfl, ⟨_, hd, rfl, rfl⟩, hI⟩ := hr; obtain ⟨AR22, cR22, CR22, rfl, HR22, rfl⟩ := hd; exact ⟨_, _, _, rfl, ⟨AR22, cR22, CR22, rfl, HR22, rfl, rfl⟩, hI⟩)) ?_
          rintro _ _ _ ⟨AR22, cR22, CR22, rfl, HR22, rfl, rfl⟩
          refine ⟨_, _, Under.cons (Under.refl), Under.refl, ?_⟩
          refine WA.two (i := 17) (j := 19) (m := 3) (by kernel_rfl) hS (by kernel_rfl) ?_ ?_
          · rw [Option.bind_eq_some_iff] at h
            obtain ⟨t25, ht26, h⟩ := h
            refine WO.op (b' := 262143) (by kernel_rfl) (op := .call { callee := (.value (.func 70)), args := #[(.tmp 53), (.tmp 56), (.tmp 57)], argTypes := #[22, 3, 3] }) (ty := 32) (d := some 58) (g := none) (by kernel_rfl) (by kernel_rfl) (by kernel_rfl) (Does.call (Φ := fun v' G' Γ' => ∃ (AR27 : Option Addr), ∃ (cR27 : Nat), ∃ (CR27 : Chunk), v' = .slice AR27 t25.length cR27 ∧ Ow (kInt .i64) G AR27 cR27 t25 CR27 ∧ G = G' ∧ CR27 :: CR22 :: CR41 :: [(b1, .cells #[.int .i64 0, .int .i64 0, .int .i64 0, .slice none 0 0, .slice none 0 0, .slice none 0 0] 54 (0, 0))] :: Γ = Γ') (f := 70) (args := [.slice AR41 t2.2.1.length cR41, .int .i64 (IntKind.i64.wrap (3 + (IntKind.i64.wrap (2 * a1)))), .int .i64 a1]) (by kernel_rfl) (fun W hI => (Calls.lendN (Φ := fun v' N => ∃ (AR27 : Option Addr), ∃ (cR27 : Nat), ∃ (CR27 : Chunk), v' = .slice AR27 t25.length cR27 ∧ Ow (kInt .i64) G AR27 cR27 t25 CR27 ∧ N = [CR27]) (H := []) (i := 1) rfl hI (fun _ e l29 nl29 hI => by subst e; exact (((grapevineref20_vector_calls k t2.2.1 (IntKind.i64.wrap (3 + (IntKind.i64.wrap (2 * a1)))) a1 AR41 cR41 (HR41.rdN l29 nl29) t25 ht26 hI)).mono fun _ _ hr => by obtain ⟨_, _, _, rfl, hd, hI⟩ := hr; obtain ⟨AR27, cR27, CR27, rfl, HR27, rfl, rfl⟩ := hd; exact ⟨_, _, _, rfl, ⟨[CR27], ⟨AR27, cR27, CR27, rfl, (HR27.flat (kInt_flat _)), rfl⟩, rfl, rfl⟩, hI⟩))).mono fun _ _ hr => by obtain ⟨_, _, _, rfl, ⟨_, hd, rfl, rfl⟩, hI⟩ := hr; obtain ⟨AR27, cR27, CR27, rfl, HR27, rfl⟩ := hd; exact ⟨_, _, _, rfl, ⟨AR27, cR27, CR27, rfl, HR27, rfl, rfl⟩, hI⟩)) ?_
            rintro _ _ _ ⟨AR27, cR27, CR27, rfl, HR27, rfl, rfl⟩
            refine ⟨_, _, Under.cons (Under.refl), Under.refl, ?_⟩
            refine WA.pure [18] [0, 1, 4, 7, 59] (m := 2) (b' := 524287) (L' := [(0, .slice Al0 l0.length cl0), (1, .int .i64 a1), (4, .pointer (some ⟨b1, 0, none⟩)), (7, .slice AR41 t2.2.1.length cR41), (59, .agg #[.int .i64 t2.1, .int .i64 (IntKind.i64.wrap (t2.2.1.getD (0 : Int).toNat 0)), .int .i64 (IntKind.i64.wrap (t2.2.1.getD (1 : Int).toNat 0)), .slice AR22 t20.length cR22, .slice AR27 t25.length cR27, .slice none 0 0])]) (by kernel_rfl) (NoPanic.then (NoPanic.body)) Under.refl hS (by kernel_rfl) ?_
            refine WA.op (i := 19) (m := 1) (b' := 1048575) (by kernel_rfl) hS (by kernel_rfl) (op := .alloc 54) (ty := 0) (d := some 10) (g := none) (by kernel_rfl) (by kernel_rfl) (by kernel_rfl) (Does.new (o := .cells #[.int .i64 0, .int .i64 0, .int .i64 0, .slice none 0 0, .slice none 0 0, .slice none 0 0] 54 (0, 0)) (v := fun r => .pointer (some ⟨r, 0, none⟩)) (fun r => by kernel_rfl)) ?_
            rintro _ _ _ ⟨b30, rfl, rfl, rfl⟩
            refine ⟨_, _, Under.cons Under.refl, Under.refl, ?_⟩
            refine WA.opK (i := 20) (kw' := 21) (m := 0) (b' := 2097151) (by kernel_rfl) rfl hS (by kernel_rfl) (op := .store 54 (.tmp 10) (.tmp 59)) (ty := 0) (d := none) (g := none) (by kernel_rfl) (by kernel_rfl) (by kernel_rfl) (Does.store_box (i := 0) (b := b30) (o := 0) (v := .agg #[.int .i64 t2.1, .int .i64 (IntKind.i64.wrap (t2.2.1.getD (0 : Int).toNat 0)), .int .i64 (IntKind.i64.wrap (t2.2.1.getD (1 : Int).toNat 0)), .slice AR22 t20.length cR22, .slice AR27 t25.length cR27, .slice none 0 0]) (by rfl) sz54 (by kernel_rfl) (by kernel_rfl) (by kernel_rfl) (Free.zero _) (Nat.le_of_ble_eq_true rfl) (cells' := #[.int .i64 t2.1, .int .i64 (IntKind.i64.wrap (t2.2.1.getD (0 : Int).toNat 0)), .int .i64 (IntKind.i64.wrap (t2.2.1.getD (1 : Int).toNat 0)), .slice AR22 t20.length cR22, .slice AR27 t25.length cR27, .slice none 0 0]) (by kernel_rfl)) ?_
            rintro _ _ _ ⟨rfl, rfl, rfl⟩
            refine ⟨_, _, Under.refl, ?_⟩
            refine WA.done hS (by kernel_rfl) ?_
            refine QP.pick [0, 1, 4, 7, 10] ?_
            refine QP.addNil ?_
            refine QP.front (i := 5) rfl ?_
            refine QP.front (i := 5) rfl ?_
            refine QP.front (i := 2) rfl ?_
            refine QP.front (i := 4) rfl ?_
            refine QP.front (i := 5) rfl ?_
            refine QP.front (i := 5) rfl ?_
            refine QP.pick [0, 1, 4, 7, 10] ?_
            exact QP.meet ⟨_, Option.some.inj h, b30, AR22, cR22, CR22, AR27, cR27, CR27, none, 0, [], rfl, rfl, rfl, HR22, HR27, (Ow.nil k39 _)⟩
          · refine WO.op (b' := 655359) (by kernel_rfl) (op := .alloc 54) (ty := 0) (d := some 10) (g := none) (by kernel_rfl) (by kernel_rfl) (by kernel_rfl) (Does.new (o := .cells #[.int .i64 0, .int .i64 0, .int .i64 0, .slice none 0 0, .slice none 0 0, .slice none 0 0] 54 (0, 0)) (v := fun r => .pointer (some ⟨r, 0, none⟩)) (fun r => by kernel_rfl)) ?_
            rintro _ _ _ ⟨b25, rfl, rfl, rfl⟩
            refine ⟨_, _, Under.cons Under.refl, Under.refl, ?_⟩
            rw [Option.bind_eq_some_iff] at h
            obtain ⟨t26, ht27, h⟩ := h
            refine WA.op (i := 17) (m := 2) (b' := 786431) (by kernel_rfl) hS (by kernel_rfl) (op := .call { callee := (.value (.func 70)), args := #[(.tmp 53), (.tmp 56), (.tmp 57)], argTypes := #[22, 3, 3] }) (ty := 32) (d := some 58) (g := none) (by kernel_rfl) (by kernel_rfl) (by kernel_rfl) (Does.call (Φ := fun v' G' Γ' => ∃ (AR28 : Option Addr), ∃ (cR28 : Nat), ∃ (CR28 : Chunk), v' = .slice AR28 t26.length cR28 ∧ Ow (kInt .i64) G AR28 cR28 t26 CR28 ∧ G = G' ∧ CR28 :: [(b25, .cells #[.int .i64 0, .int .i64 0, .int .i64 0, .slice none 0 0, .slice none 0 0, .slice none 0 0] 54 (0, 0))] :: CR22 :: CR41 :: [(b1, .cells #[.int .i64 0, .int .i64 0, .int .i64 0, .slice none 0 0, .slice none 0 0, .slice none 0 0] 54 (0, 0))] :: Γ = Γ') (f := 70) (args := [.slice AR41 t2.2.1.length cR41, .int .i64 (IntKind.i64.wrap (3 + (IntKind.i64.wrap (2 * a1)))), .int .i64 a1]) (by kernel_rfl) (fun W hI => (Calls.lendN (Φ := fun v' N => ∃ (AR28 : Option Addr), ∃ (cR28 : Nat), ∃ (CR28 : Chunk), v' = .slice AR28 t26.length cR28 ∧ Ow (kInt .i64) G AR28 cR28 t26 CR28 ∧ N = [CR28]) (H := []) (i := 2) rfl hI (fun _ e l30 nl30 hI => by subst e; exact (((grapevineref20_vector_calls k t2.2.1 (IntKind.i64.wrap (3 + (IntKind.i64.wrap (2 * a1)))) a1 AR41 cR41 (HR41.rdN l30 nl30) t26 ht27 hI)).mono fun _ _ hr => by obtain ⟨_, _, _, rfl, hd, hI⟩ := hr; obtain ⟨AR28, cR28, CR28, rfl, HR28, rfl, rfl⟩ := hd; exact ⟨_, _, _, rfl, ⟨[CR28], ⟨AR28, cR28, CR28, rfl, (HR28.flat (kInt_flat _)), rfl⟩, rfl, rfl⟩, hI⟩))).mono fun _ _ hr => by obtain ⟨_, _, _, rfl, ⟨_, hd, rfl, rfl⟩, hI⟩ := hr; obtain ⟨AR28, cR28, CR28, rfl, HR28, rfl⟩ := hd; exact ⟨_, _, _, rfl, ⟨AR28, cR28, CR28, rfl, HR28, rfl, rfl⟩, hI⟩)) ?_
            rintro _ _ _ ⟨AR28, cR28, CR28, rfl, HR28, rfl, rfl⟩
            refine ⟨_, _, Under.cons (Under.refl), Under.refl, ?_⟩
            refine WA.pure [18] [0, 1, 4, 7, 10, 59] (m := 1) (b' := 1048575) (L' := [(0, .slice Al0 l0.length cl0), (1, .int .i64 a1), (4, .pointer (some ⟨b1, 0, none⟩)), (7, .slice AR41 t2.2.1.length cR41), (10, .pointer (some ⟨b25, 0, none⟩)), (59, .agg #[.int .i64 t2.1, .int .i64 (IntKind.i64.wrap (t2.2.1.getD (0 : Int).toNat 0)), .int .i64 (IntKind.i64.wrap (t2.2.1.getD (1 : Int).toNat 0)), .slice AR22 t20.length cR22, .slice AR28 t26.length cR28, .slice none 0 0])]) (by kernel_rfl) (NoPanic.then (NoPanic.body)) Under.refl hS (by kernel_rfl) ?_
            refine WA.opK (i := 20) (kw' := 21) (m := 0) (b' := 2097151) (by kernel_rfl) rfl hS (by kernel_rfl) (op := .store 54 (.tmp 10) (.tmp 59)) (ty := 0) (d := none) (g := none) (by kernel_rfl) (by kernel_rfl) (by kernel_rfl) (Does.store_box (i := 1) (b := b25) (o := 0) (v := .agg #[.int .i64 t2.1, .int .i64 (IntKind.i64.wrap (t2.2.1.getD (0 : Int).toNat 0)), .int .i64 (IntKind.i64.wrap (t2.2.1.getD (1 : Int).toNat 0)), .slice AR22 t20.length cR22, .slice AR28 t26.length cR28, .slice none 0 0]) (by rfl) sz54 (by kernel_rfl) (by kernel_rfl) (by kernel_rfl) (Free.zero _) (Nat.le_of_ble_eq_true rfl) (cells' := #[.int .i64 t2.1, .int .i64 (IntKind.i64.wrap (t2.2.1.getD (0 : Int).toNat 0)), .int .i64 (IntKind.i64.wrap (t2.2.1.getD (1 : Int).toNat 0)), .slice AR22 t20.length cR22, .slice AR28 t26.length cR28, .slice none 0 0]) (by kernel_rfl)) ?_
            rintro _ _ _ ⟨rfl, rfl, rfl⟩
            refine ⟨_, _, Under.refl, ?_⟩
            refine WA.done hS (by kernel_rfl) ?_
            refine QP.pick [0, 1, 4, 7, 10] ?_
            refine QP.addNil ?_
            refine QP.front (i := 5) rfl ?_
            refine QP.front (i := 5) rfl ?_
            refine QP.front (i := 2) rfl ?_
            refine QP.front (i := 3) rfl ?_
            refine QP.front (i := 5) rfl ?_
            refine QP.front (i := 5) rfl ?_
            refine QP.pick [0, 1, 4, 7, 10] ?_
            exact QP.meet ⟨_, Option.some.inj h, b25, AR22, cR22, CR22, AR28, cR28, CR28, none, 0, [], rfl, rfl, rfl, HR22, HR28, (Ow.nil k39 _)⟩
        · refine WO.op (b' := 653311) (by kernel_rfl) (op := .alloc 54) (ty := 0) (d := some 10) (g := none) (by kernel_rfl) (by kernel_rfl) (by kernel_rfl) (Does.new (o := .cells #[.int .i64 0, .int .i64 0, .int .i64 0, .slice none 0 0, .slice none 0 0, .slice none 0 0] 54 (0, 0)) (v := fun r => .pointer (some ⟨r, 0, none⟩)) (fun r => by kernel_rfl)) ?_
          rintro _ _ _ ⟨b20, rfl, rfl, rfl⟩
          refine ⟨_, _, Under.cons Under.refl, Under.refl, ?_⟩
          rw [Option.bind_eq_some_iff] at h
          obtain ⟨t21, ht22, h⟩ := h
          refine WA.op (i := 11) (m := 3) (b' := 655359) (by kernel_rfl) hS (by kernel_rfl) (op := .call { callee := (.value (.func 70)), args := #[(.tmp 50), (.const (.int .i64 3)), (.tmp 51)], argTypes := #[22, 3, 3] }) (ty := 32) (d := some 52) (g := none) (by kernel_rfl) (by kernel_rfl) (by kernel_rfl) (Does.call (Φ := fun v' G' Γ' => ∃ (AR23 : Option Addr), ∃ (cR23 : Nat), ∃ (CR23 : Chunk), v' = .slice AR23 t21.length cR23 ∧ Ow (kInt .i64) G AR23 cR23 t21 CR23 ∧ G = G' ∧ CR23 :: [(b20, .cells #[.int .i64 0, .int .i64 0, .int .i64 0, .slice none 0 0, .slice none 0 0, .slice none 0 0] 54 (0, 0))] :: CR41 :: [(b1, .cells #[.int .i64 0, .int .i64 0, .int .i64 0, .slice none 0 0, .slice none 0 0, .slice none 0 0] 54 (0, 0))] :: Γ = Γ') (f := 70) (args := [.slice AR41 t2.2.1.length cR41, .int .i64 3, .int .i64 a1]) (by kernel_rfl) (fun W hI => (Calls.lendN (Φ := fun v' N => ∃ (AR23 : Option Addr), ∃ (cR23 : Nat), ∃ (CR23 : Chunk), v' = .slice AR23 t21.length cR23 ∧ Ow (kInt .i64) G AR23 cR23 t21 CR23 ∧ N = [CR23]) (H := []) (i := 1) rfl hI (fun _ e l25 nl25 hI => by subst e; exact (((grapevineref20_vector_calls k t2.2.1 3 a1 AR41 cR41 (HR41.rdN l25 nl25) t21 ht22 hI)).mono fun _ _ hr => by obtain ⟨_, _, _, rfl, hd, hI⟩ := hr; obtain ⟨AR23, cR23, CR23, rfl, HR23, rfl, rfl⟩ := hd; exact ⟨_, _, _, rfl, ⟨[CR23], ⟨AR23, cR23, CR23, rfl, (HR23.flat (kInt_flat _)), rfl⟩, rfl, rfl⟩, hI⟩))).mono fun _ _ hr => by obtain ⟨_, _, _, rfl, ⟨_, hd, rfl, rfl⟩, hI⟩ := hr; obtain ⟨AR23, cR23, CR23, rfl, HR23, rfl⟩ := hd; exact ⟨_, _, _, rfl, ⟨AR23, cR23, CR23, rfl, HR23, rfl, rfl⟩, hI⟩)) ?_
          rintro _ _ _ ⟨AR23, cR23, CR23, rfl, HR23, rfl, rfl⟩
          refine ⟨_, _, Under.cons (Under.refl), Under.refl, ?_⟩
          rw [Option.bind_eq_some_iff] at h
          obtain ⟨t26, ht27, h⟩ := h
          refine WA.op (i := 17) (m := 2) (b' := 786431) (by kernel_rfl) hS (by kernel_rfl) (op := .call { callee := (.value (.func 70)), args := #[(.tmp 53), (.tmp 56), (.tmp 57)], argTypes := #[22, 3, 3] }) (ty := 32) (d := some 58) (g := none) (by kernel_rfl) (by kernel_rfl) (by kernel_rfl) (Does.call (Φ := fun v' G' Γ' => ∃ (AR28 : Option Addr), ∃ (cR28 : Nat), ∃ (CR28 : Chunk), v' = .slice AR28 t26.length cR28 ∧ Ow (kInt .i64) G AR28 cR28 t26 CR28 ∧ G = G' ∧ CR28 :: CR23 :: [(b20, .cells #[.int .i64 0, .int .i64 0, .int .i64 0, .slice none 0 0, .slice none 0 0, .slice none 0 0] 54 (0, 0))] :: CR41 :: [(b1, .cells #[.int .i64 0, .int .i64 0, .int .i64 0, .slice none 0 0, .slice none 0 0, .slice none 0 0] 54 (0, 0))] :: Γ = Γ') (f := 70) (args := [.slice AR41 t2.2.1.length cR41, .int .i64 (IntKind.i64.wrap (3 + (IntKind.i64.wrap (2 * a1)))), .int .i64 a1]) (by kernel_rfl) (fun W hI => (Calls.lendN (Φ := fun v' N => ∃ (AR28 : Option Addr), ∃ (cR28 : Nat), ∃ (CR28 : Chunk), v' = .slice AR28 t26.length cR28 ∧ Ow (kInt .i64) G AR28 cR28 t26 CR28 ∧ N = [CR28]) (H := []) (i := 2) rfl hI (fun _ e l30 nl30 hI => by subst e; exact (((grapevineref20_vector_calls k t2.2.1 (IntKind.i64.wrap (3 + (IntKind.i64.wrap (2 * a1)))) a1 AR41 cR41 (HR41.rdN l30 nl30) t26 ht27 hI)).mono fun _ _ hr => by obtain ⟨_, _, _, rfl, hd, hI⟩ := hr; obtain ⟨AR28, cR28, CR28, rfl, HR28, rfl, rfl⟩ := hd; exact ⟨_, _, _, rfl, ⟨[CR28], ⟨AR28, cR28, CR28, rfl, (HR28.flat (kInt_flat _)), rfl⟩, rfl, rfl⟩, hI⟩))).mono fun _ _ hr => by obtain ⟨_, _, _, rfl, ⟨_, hd, rfl, rfl⟩, hI⟩ := hr; obtain ⟨AR28, cR28, CR28, rfl, HR28, rfl⟩ := hd; exact ⟨_, _, _, rfl, ⟨AR28, cR28, CR28, rfl, HR28, rfl, rfl⟩, hI⟩)) ?_
          rintro _ _ _ ⟨AR28, cR28, CR28, rfl, HR28, rfl, rfl⟩
          refine ⟨_, _, Under.cons (Under.refl), Under.refl, ?_⟩
          refine WA.pure [18] [0, 1, 4, 7, 10, 59] (m := 1) (b' := 1048575) (L' := [(0, .slice Al0 l0.length cl0), (1, .int .i64 a1), (4, .pointer (some ⟨b1, 0, none⟩)), (7, .slice AR41 t2.2.1.length cR41), (10, .pointer (some ⟨b20, 0, none⟩)), (59, .agg #[.int .i64 t2.1, .int .i64 (IntKind.i64.wrap (t2.2.1.getD (0 : Int).toNat 0)), .int .i64 (IntKind.i64.wrap (t2.2.1.getD (1 : Int).toNat 0)), .slice AR23 t21.length cR23, .slice AR28 t26.length cR28, .slice none 0 0])]) (by kernel_rfl) (NoPanic.then (NoPanic.body)) Under.refl hS (by kernel_rfl) ?_
          refine WA.opK (i := 20) (kw' := 21) (m := 0) (b' := 2097151) (by kernel_rfl) rfl hS (by kernel_rfl) (op := .store 54 (.tmp 10) (.tmp 59)) (ty := 0) (d := none) (g := none) (by kernel_rfl) (by kernel_rfl) (by kernel_rfl) (Does.store_box (i := 2) (b := b20) (o := 0) (v := .agg #[.int .i64 t2.1, .int .i64 (IntKind.i64.wrap (t2.2.1.getD (0 : Int).toNat 0)), .int .i64 (IntKind.i64.wrap (t2.2.1.getD (1 : Int).toNat 0)), .slice AR23 t21.length cR23, .slice AR28 t26.length cR28, .slice none 0 0]) (by rfl) sz54 (by kernel_rfl) (by kernel_rfl) (by kernel_rfl) (Free.zero _) (Nat.le_of_ble_eq_true rfl) (cells' := #[.int .i64 t2.1, .int .i64 (IntKind.i64.wrap (t2.2.1.getD (0 : Int).toNat 0)), .int .i64 (IntKind.i64.wrap (t2.2.1.getD (1 : Int).toNat 0)), .slice AR23 t21.length cR23, .slice AR28 t26.length cR28, .slice none 0 0]) (by kernel_rfl)) ?_
          rintro _ _ _ ⟨rfl, rfl, rfl⟩
          refine ⟨_, _, Under.refl, ?_⟩
          refine WA.done hS (by kernel_rfl) ?_
          refine QP.pick [0, 1, 4, 7, 10] ?_
          refine QP.addNil ?_
          refine QP.front (i := 5) rfl ?_
          refine QP.front (i := 5) rfl ?_
          refine QP.front (i := 2) rfl ?_
          refine QP.front (i := 3) rfl ?_
          refine QP.front (i := 4) rfl ?_
          refine QP.front (i := 5) rfl ?_
          refine QP.pick [0, 1, 4, 7, 10] ?_
          exact QP.meet ⟨_, Option.some.inj h, b20, AR23, cR23, CR23, AR28, cR28, CR28, none, 0, [], rfl, rfl, rfl, HR23, HR28, (Ow.nil k39 _)⟩
      · rintro _ _ _ ⟨s15, rfl, bn16, As15_f3, cs15_f3, Cs15_f3, As15_f4, cs15_f4, Cs15_f4, As15_f5, cs15_f5, Cs15_f5, rfl, rfl, rfl, Hs15_f3, Hs15_f4, Hs15_f5⟩
        clear h
        replace h := hk17
        refine WP.seqP [0, 1, 4, 7, 10, 11] (L' := [(0, .slice Al0 l0.length cl0), (1, .int .i64 a1), (4, .pointer (some ⟨b1, 0, none⟩)), (7, .slice AR41 t2.2.1.length cR41), (10, .pointer (some ⟨bn16, 0, none⟩)), (11, .int .i64 (IntKind.i64.wrap (4 + (IntKind.i64.wrap (4 * a1)))))]) (by kernel_rfl) ?_
        obtain ⟨v31, hv32, h⟩ := Option.bind_eq_some_iff.1 h
        replace hv32 := Option.some.inj hv32
        refine WP.reput 11 (v := .int .i64 (IntKind.i64.wrap (4 + (IntKind.i64.wrap (4 * a1))))) (v' := .int .i64 v31) (by kernel_rfl) (by subst hv32; rfl) ?_
        refine WP.pick [0, 1, 4, 7, 10, 11] ?_
        refine WP.seq ?_
        refine WP.seqP [0, 1, 4, 7, 10, 11, 12] (L' := [(0, .slice Al0 l0.length cl0), (1, .int .i64 a1), (4, .pointer (some ⟨b1, 0, none⟩)), (7, .slice AR41 t2.2.1.length cR41), (10, .pointer (some ⟨bn16, 0, none⟩)), (11, .int .i64 v31), (12, .int .i64 0)]) (by kernel_rfl) ?_
        rw [Option.bind_eq_some_iff] at h
        obtain ⟨os33, h, hk34⟩ := h
        refine WP.cutQ (fun L' G' Γ' => ∃ s33 : T54, Sum.inr s33 = os33 ∧ ∃ (As33_f3 : Option Addr), ∃ (cs33_f3 : Nat), ∃ (Cs33_f3 : Chunk), ∃ (As33_f4 : Option Addr), ∃ (cs33_f4 : Nat), ∃ (Cs33_f4 : Chunk), ∃ (As33_f5 : Option Addr), ∃ (cs33_f5 : Nat), ∃ (Cs33_f5 : Chunk), L' = [(0, .slice Al0 l0.length cl0), (1, .int .i64 a1), (4, .pointer (some ⟨b1, 0, none⟩)), (10, .pointer (some ⟨bn16, 0, none⟩))] ∧ G = G' ∧ [(bn16, .cells #[.int .i64 s33.f0, .int .i64 s33.f1, .int .i64 s33.f2, .slice As33_f3 s33.f3.length cs33_f3, .slice As33_f4 s33.f4.length cs33_f4, .slice As33_f5 s33.f5.length cs33_f5] 54 (0, 0))] :: Cs33_f3 :: Cs33_f4 :: Cs33_f5 :: [(b1, .cells #[.int .i64 0, .int .i64 0, .int .i64 0, .slice none 0 0, .slice none 0 0, .slice none 0 0] 54 (0, 0))] :: Γ = Γ' ∧ Ow (kInt .i64) G As33_f3 cs33_f3 s33.f3 Cs33_f3 ∧ Ow (kInt .i64) G As33_f4 cs33_f4 s33.f4 Cs33_f4 ∧ Ow k39 G As33_f5 cs33_f5 s33.f5 Cs33_f5) ?_ ?_
        · skip
          refine WP.block ?_
          refine WP.pick [0, 1, 4, 7, 10, 11, 12] ?_
          refine WP.loopF (fun kn38 L' G' Γ' => ∃ (y35 : Int), ∃ (y36 : Int), ∃ (y37 : T54), grapevineref20_Read_l0 a1 t2 kn38 y35 y36 y37 = some os33 ∧ ∃ (Ay37_f3 : Option Addr), ∃ (cy37_f3 : Nat), ∃ (Cy37_f3 : Chunk), ∃ (Ay37_f4 : Option Addr), ∃ (cy37_f4 : Nat), ∃ (Cy37_f4 : Chunk), ∃ (Ay37_f5 : Option Addr), ∃ (cy37_f5 : Nat), ∃ (Cy37_f5 : Chunk), L' = [(0, .slice Al0 l0.length cl0), (1, .int .i64 a1), (4, .pointer (some ⟨b1, 0, none⟩)), (7, .slice AR41 t2.2.1.length cR41), (10, .pointer (some ⟨bn16, 0, none⟩)), (11, .int .i64 y35), (12, .int .i64 y36)] ∧ G = G' ∧ [(bn16, .cells #[.int .i64 y37.f0, .int .i64 y37.f1, .int .i64 y37.f2, .slice Ay37_f3 y37.f3.length cy37_f3, .slice Ay37_f4 y37.f4.length cy37_f4, .slice Ay37_f5 y37.f5.length cy37_f5] 54 (0, 0))] :: Cy37_f3 :: Cy37_f4 :: Cy37_f5 :: CR41 :: [(b1, .cells #[.int .i64 0, .int .i64 0, .int .i64 0, .slice none 0 0, .slice none 0 0, .slice none 0 0] 54 (0, 0))] :: Γ = Γ' ∧ Ow (kInt .i64) G Ay37_f3 cy37_f3 y37.f3 Cy37_f3 ∧ Ow (kInt .i64) G Ay37_f4 cy37_f4 y37.f4 Cy37_f4 ∧ Ow k39 G Ay37_f5 cy37_f5 y37.f5 Cy37_f5) ?_ k ⟨v31, 0, s15, h, As15_f3, cs15_f3, Cs15_f3, As15_f4, cs15_f4, Cs15_f4, As15_f5, cs15_f5, Cs15_f5, rfl, rfl, rfl, Hs15_f3, Hs15_f4, Hs15_f5⟩
          clear h
          rintro kn39 _ _ _ ⟨y35, y36, y37, h, Ay37_f3, cy37_f3, Cy37_f3, Ay37_f4, cy37_f4, Cy37_f4, Ay37_f5, cy37_f5, Cy37_f5, rfl, rfl, rfl, Hy37_f3, Hy37_f4, Hy37_f5⟩
          cases kn39 with
          | zero => exact absurd h (by simp [grapevineref20_Read_l0])
          | succ kn39 =>
            simp only [grapevineref20_Read_l0] at h
            refine WP.seq ?_
            refine WP.seqR ?_
            refine WL.pure 0 5 [0, 1, 4, 7, 10, 11, 12, 63, 64, 67] (L' := [(0, .slice Al0 l0.length cl0), (1, .int .i64 a1), (4, .pointer (some ⟨b1, 0, none⟩)), (7, .slice AR41 t2.2.1.length cR41), (10, .pointer (some ⟨bn16, 0, none⟩)), (11, .int .i64 y35), (12, .int .i64 y36), (63, .int .i64 y36), (64, .slice AR41 t2.2.1.length cR41), (67, .int .i64 (IntKind.i64.wrap (3 + (IntKind.i64.wrap (4 * a1)))))]) (by kernel_rfl) (by decide) ?_
            by_cases hb40 : 0 ≤ (IntKind.i64.wrap (3 + (IntKind.i64.wrap (4 * a1)))) ∧ (IntKind.i64.wrap (3 + (IntKind.i64.wrap (4 * a1)))) < (t2.2.1.length : Int)
            case neg => rw [if_neg hb40] at h; cases h
            rw [if_pos hb40] at h
            refine WL.tell (op := .indexAddr 22 (.tmp 64) (.tmp 67)) (ty := 0) (d := some 68) (g := none) (by kernel_rfl) (by kernel_rfl) (by kernel_rfl) (Tells.indexAddr (A := AR41) (n := t2.2.1.length) (c := cR41) (k := .i64) (j := (IntKind.i64.wrap (3 + (IntKind.i64.wrap (4 * a1))))) (by kernel_rfl) (by kernel_rfl) (HR41.isSome hb40.1 hb40.2) hb40.1 hb40.2 sl22) ?_
            refine WL.tellE (op := .load 5 (.tmp 68)) (ty := 5) (d := some 69) (g := none) (by kernel_rfl) (by kernel_rfl) (by kernel_rfl) (HR41.load (i := 4) rfl (agg := false) hb40.1 hb40.2 0 ag5 (fun _ => rfl) (by kernel_rfl)) ?_
            rintro _ rfl
            refine WL.restQ 7 [0, 1, 4, 7, 10, 11, 12, 71] (L' := [(0, .slice Al0 l0.length cl0), (1, .int .i64 a1), (4, .pointer (some ⟨b1, 0, none⟩)), (7, .slice AR41 t2.2.1.length cR41), (10, .pointer (some ⟨bn16, 0, none⟩)), (11, .int .i64 y35), (12, .int .i64 y36), (71, .bool (decide (y36 < (IntKind.i64.wrap (t2.2.1.getD (IntKind.i64.wrap (3 + (IntKind.i64.wrap (4 * a1)))).toNat 0)))))]) (by kernel_rfl) ?_
            refine WP.cond (b := decide (y36 < (IntKind.i64.wrap (t2.2.1.getD (IntKind.i64.wrap (3 + (IntKind.i64.wrap (4 * a1)))).toNat 0)))) (by kernel_rfl) (fun hc => ?_) (fun hc => ?_)
            · replace hc := of_decide_eq_true hc
              rw [if_pos hc] at h
              have hc41 := hc
              clear hc
              refine WP.skip ?_
              refine QP.next ?_
              refine WP.pick [0, 1, 4, 7, 10, 11, 12] ?_
              refine WP.seq ?_
              refine WP.block ?_
              refine WP.seqR ?_
              refine WL.pure 0 2 [0, 1, 4, 7, 10, 12, 75, 76] (L' := [(0, .slice Al0 l0.length cl0), (1, .int .i64 a1), (4, .pointer (some ⟨b1, 0, none⟩)), (7, .slice AR41 t2.2.1.length cR41), (10, .pointer (some ⟨bn16, 0, none⟩)), (12, .int .i64 y36), (75, .slice AR41 t2.2.1.length cR41), (76, .int .i64 y35)]) (by kernel_rfl) (by decide) ?_
              rw [Option.bind_eq_some_iff] at h
              obtain ⟨t42, ht43, h⟩ := h
              refine WL.op (op := .call { callee := (.value (.func 71)), args := #[(.tmp 75), (.tmp 76)], argTypes := #[22, 3] }) (ty := 106) (d := some 77) (g := none) (by kernel_rfl) (by kernel_rfl) (by kernel_rfl) (Does.call (Φ := fun v' G' Γ' => v' = .tuple #[.agg #[.int .i64 t42.1.f0, .int .i64 t42.1.f1, .int .i64 t42.1.f2, .int .i64 t42.1.f3, .string t42.1.f4], .int .i64 t42.2.1, .bool t42.2.2] ∧ G = G' ∧ [(bn16, .cells #[.int .i64 y37.f0, .int .i64 y37.f1, .int .i64 y37.f2, .slice Ay37_f3 y37.f3.length cy37_f3, .slice Ay37_f4 y37.f4.length cy37_f4, .slice Ay37_f5 y37.f5.length cy37_f5] 54 (0, 0))] :: Cy37_f3 :: Cy37_f4 :: Cy37_f5 :: CR41 :: [(b1, .cells #[.int .i64 0, .int .i64 0, .int .i64 0, .slice none 0 0, .slice none 0 0, .slice none 0 0] 54 (0, 0))] :: Γ = Γ') (f := 71) (args := [.slice AR41 t2.2.1.length cR41, .int .i64 y35]) (by kernel_rfl) (fun W hI => (Calls.lendN (Φ := fun v' N => v' = .tuple #[.agg #[.int .i64 t42.1.f0, .int .i64 t42.1.f1, .int .i64 t42.1.f2, .int .i64 t42.1.f3, .string t42.1.f4], .int .i64 t42.2.1, .bool t42.2.2] ∧ N = []) (H := []) (i := 4) rfl hI (fun _ e l46 nl46 hI => by subst e; exact (((grapevineref4_Read_calls (HT.mono l46) kn39 t2.2.1 y35 AR41 cR41 (HR41.rdN l46 nl46) t42 ht43 hI)).mono fun _ _ hr => by obtain ⟨_, _, _, rfl, hd, hI⟩ := hr; obtain ⟨rfl, rfl, rfl⟩ := hd; exact ⟨_, _, _, rfl, ⟨[], ⟨rfl, rfl⟩, rfl, rfl⟩, hI⟩))).mono fun _ _ hr => by obtain ⟨_, _, _, rfl, ⟨_, hd, rfl, rfl⟩, hI⟩ := hr; obtain ⟨rfl, rfl⟩ := hd; exact ⟨_, _, _, rfl, ⟨rfl, rfl, rfl⟩, hI⟩)) ?_
              rintro _ _ _ ⟨rfl, rfl, rfl⟩
              refine WL.pure 3 7 [0, 1, 4, 7, 10, 12, 78, 79, 80] (L' := [(0, .slice Al0 l0.length cl0), (1, .int .i64 a1), (4, .pointer (some ⟨b1, 0, none⟩)), (7, .slice AR41 t2.2.1.length cR41), (10, .pointer (some ⟨bn16, 0, none⟩)), (12, .int .i64 y36), (78, .agg #[.int .i64 t42.1.f0, .int .i64 t42.1.f1, .int .i64 t42.1.f2, .int .i64 t42.1.f3, .string t42.1.f4]), (79, .int .i64 t42.2.1), (80, .bool t42.2.2)]) (by kernel_rfl) (by decide) ?_
              refine WL.op (op := .alloc 39) (ty := 0) (d := some 13) (g := none) (by kernel_rfl) (by kernel_rfl) (by kernel_rfl) (Does.new (o := .cells #[.int .i64 0, .int .i64 0, .int .i64 0, .int .i64 0, .string (⟨#[]⟩ : ByteArray)] 39 (0, 0)) (v := fun r => .pointer (some ⟨r, 0, none⟩)) (fun r => by kernel_rfl)) ?_
              rintro _ _ _ ⟨b47, rfl, rfl, rfl⟩
              refine WL.op (op := .store 39 (.tmp 13) (.tmp 78)) (ty := 0) (d := none) (g := none) (by kernel_rfl) (by kernel_rfl) (by kernel_rfl) (Does.store_box (i := 0) (b := b47) (o := 0) (v := .agg #[.int .i64 t42.1.f0, .int .i64 t42.1.f1, .int .i64 t42.1.f2, .int .i64 t42.1.f3, .string t42.1.f4]) (by rfl) sz39 (by kernel_rfl) (by kernel_rfl) (by kernel_rfl) (Free.zero _) (Nat.le_of_ble_eq_true rfl) (cells' := #[.int .i64 t42.1.f0, .int .i64 t42.1.f1, .int .i64 t42.1.f2, .int .i64 t42.1.f3, .string t42.1.f4]) (by kernel_rfl)) ?_
              rintro _ _ _ ⟨rfl, rfl, rfl⟩
              refine WL.restQ 9 [0, 1, 4, 7, 10, 12, 13, 14, 15] (L' := [(0, .slice Al0 l0.length cl0), (1, .int .i64 a1), (4, .pointer (some ⟨b1, 0, none⟩)), (7, .slice AR41 t2.2.1.length cR41), (10, .pointer (some ⟨bn16, 0, none⟩)), (12, .int .i64 y36), (13, .pointer (some ⟨b47, 0, none⟩)), (14, .int .i64 t42.2.1), (15, .bool t42.2.2)]) (by kernel_rfl) ?_
              refine WP.seq ?_
              refine WP.seqP [0, 1, 4, 7, 10, 12, 13, 14, 82] (L' := [(0, .slice Al0 l0.length cl0), (1, .int .i64 a1), (4, .pointer (some ⟨b1, 0, none⟩)), (7, .slice AR41 t2.2.1.length cR41), (10, .pointer (some ⟨bn16, 0, none⟩)), (12, .int .i64 y36), (13, .pointer (some ⟨b47, 0, none⟩)), (14, .int .i64 t42.2.1), (82, .bool (!t42.2.2))]) (by kernel_rfl) ?_
              refine WP.cond (b := (!t42.2.2)) (by kernel_rfl) (fun hc => ?_) (fun hc => ?_)
              · replace hc := hc
                rw [if_pos hc] at h
                have hc48 := hc
                clear hc
                refine WP.seqR ?_
                refine WL.pure 0 1 [4, 83] (L' := [(4, .pointer (some ⟨b1, 0, none⟩)), (83, .agg #[.int .i64 0, .int .i64 0, .int .i64 0, .slice none 0 0, .slice none 0 0, .slice none 0 0])]) (by kernel_rfl) (by decide) ?_
                refine WL.op (op := .store 54 (.tmp 4) (.tmp 83)) (ty := 0) (d := none) (g := none) (by kernel_rfl) (by kernel_rfl) (by kernel_rfl) (Does.store_box (i := 6) (b := b1) (o := 0) (v := .agg #[.int .i64 0, .int .i64 0, .int .i64 0, .slice none 0 0, .slice none 0 0, .slice none 0 0]) (by rfl) sz54 (by kernel_rfl) (by kernel_rfl) (by kernel_rfl) (Free.zero _) (Nat.le_of_ble_eq_true rfl) (cells' := #[.int .i64 0, .int .i64 0, .int .i64 0, .slice none 0 0, .slice none 0 0, .slice none 0 0]) (by kernel_rfl)) ?_
                rintro _ _ _ ⟨rfl, rfl, rfl⟩
                refine WL.restQ 2 [4, 5] (L' := [(4, .pointer (some ⟨b1, 0, none⟩)), (5, .int .i64 12)]) (by kernel_rfl) ?_
                refine WP.dropAt 5 ?_
                refine WP.dropAt 4 ?_
                refine WP.dropAt 3 ?_
                refine WP.dropAt 2 ?_
                refine WP.dropAt 1 ?_
                refine WP.dropAt 0 ?_
                refine WP.ret ?_
                refine QP.thenR ?_
                refine QP.blockR ?_
                refine QP.thenR ?_
                refine QP.thenR ?_
                refine QP.blockR ?_
                refine QP.thenR ?_
                refine QP.thenR ?_
                obtain rfl := Option.some.inj h
                obtain rfl := Option.some.inj (show some _ = some _ from hk34)
                refine QP.addNil ?_
                refine QP.addNil ?_
                refine QP.addNil ?_
                refine QP.front (i := 3) rfl ?_
                refine QP.front (i := 1) rfl ?_
                refine QP.front (i := 2) rfl ?_
                refine QP.front (i := 3) rfl ?_
                exact QP.returnedM (rs := [.cell 4 54, .tmp 5]) (by kernel_rfl) (ResAll.cons (Res1.box (p := 4) (i := 3) (o := 0) (agg := true) (by rfl) ag54 (by kernel_rfl) (fun h => by cases h) (Nat.le_of_ble_eq_true rfl) (v := .agg #[.int .i64 0, .int .i64 0, .int .i64 0, .slice none ([] : List Int).length 0, .slice none ([] : List Int).length 0, .slice none ([] : List T39).length 0]) (by kernel_rfl)) (ResAll.cons (Res1.tmp (t := 5) (v := .int .i64 12) (by kernel_rfl)) ResAll.nil)) (by kernel_rfl) (fun W hI => ⟨_, _, _, rfl, ⟨none, 0, [], none, 0, [], none, 0, [], rfl, (Ow.nil (kInt .i64) _), (Ow.nil (kInt .i64) _), (Ow.nil k39 _), rfl, rfl⟩, (hI.less 3 rfl)⟩)
              · replace hc := (Bool.eq_false_iff.1 hc)
                rw [if_neg hc] at h
                have hc48 := hc
                clear hc
                refine WP.skip ?_
                refine QP.next ?_
                refine WP.pick [0, 1, 4, 7, 10, 12, 13, 14] ?_
                refine WP.seqR ?_
                refine WL.pure 0 1 [0, 1, 4, 7, 10, 12, 13, 14, 84] (L' := [(0, .slice Al0 l0.length cl0), (1, .int .i64 a1), (4, .pointer (some ⟨b1, 0, none⟩)), (7, .slice AR41 t2.2.1.length cR41), (10, .pointer (some ⟨bn16, 0, none⟩)), (12, .int .i64 y36), (13, .pointer (some ⟨b47, 0, none⟩)), (14, .int .i64 t42.2.1), (84, .pointer (some ⟨bn16, 5, none⟩))]) (by kernel_rfl) (by decide) ?_
                refine WL.tell (op := .load 52 (.tmp 84)) (ty := 52) (d := some 85) (g := none) (by kernel_rfl) (by kernel_rfl) (by kernel_rfl) (Tells.load_box (i := 1) (b := bn16) (o := 5) (agg := false) (by rfl) ag52 (by kernel_rfl) (fun _ => rfl) (Nat.le_of_ble_eq_true rfl) (v := .slice Ay37_f5 y37.f5.length cy37_f5) (by kernel_rfl)) ?_
                refine WL.tell (op := .load 39 (.tmp 13)) (ty := 39) (d := some 86) (g := none) (by kernel_rfl) (by kernel_rfl) (by kernel_rfl) (Tells.load_box (i := 0) (b := b47) (o := 0) (agg := true) (by rfl) ag39 (by kernel_rfl) (fun h => by cases h) (Nat.le_of_ble_eq_true rfl) (v := .agg #[.int .i64 t42.1.f0, .int .i64 t42.1.f1, .int .i64 t42.1.f2, .int .i64 t42.1.f3, .string t42.1.f4]) (by kernel_rfl)) ?_
                refine WL.op (op := .buildSlice 52 1 #[(0, (.tmp 86))]) (ty := 52) (d := some 87) (g := none) (by kernel_rfl) (by kernel_rfl) (by kernel_rfl) (Does.new (o := .cells #[.int .i64 t42.1.f0, .int .i64 t42.1.f1, .int .i64 t42.1.f2, .int .i64 t42.1.f3, .string t42.1.f4] 39 (0, 0)) (v := fun r => .slice (some ⟨r, 0, none⟩) 1 1) (fun r => by kernel_rfl)) ?_
                rintro _ _ _ ⟨b49, rfl, rfl, rfl⟩
                have Ho51 : Ow k39 G (some ⟨b49, 0, none⟩) 1 ([t42.1] : List T39) [(b49, .cells #[.int .i64 t42.1.f0, .int .i64 t42.1.f1, .int .i64 t42.1.f2, .int .i64 t42.1.f3, .string t42.1.f4] 39 (0, 0))] := Ow.lit (kd := k39) (G := G) (b := b49) (T := 39) (xs := ([t42.1] : List T39)) (cs := [.int .i64 t42.1.f0, .int .i64 t42.1.f1, .int .i64 t42.1.f2, .int .i64 t42.1.f3, .string t42.1.f4]) (.cons (x := t42.1) (cs := [.int .i64 t42.1.f0, .int .i64 t42.1.f1, .int .i64 t42.1.f2, .int .i64 t42.1.f3, .string t42.1.f4]) (by exact rfl) .nil)
                by_cases hb52 : y37.f5.length + ([t42.1] : List T39).length ≤ 1073741824
                case neg => rw [if_neg hb52] at h; cases h
                rw [if_pos hb52] at h
                refine WL.op (op := .call { callee := (.builtin .append), args := #[(.tmp 85), (.tmp 87)], argTypes := #[52, 52] }) (ty := 52) (d := some 88) (g := none) (by kernel_rfl) (by kernel_rfl) (by kernel_rfl) (Ow.append (ys := ([t42.1] : List T39)) (v := .slice (some ⟨b49, 0, none⟩) ([t42.1] : List T39).length 1) Hy37_f5 (i := 5) rfl (by kernel_rfl) (by kernel_rfl) (Ho51.src (i := 0) rfl) sl52 ze39 nt52 (by decide) hb52) ?_
                rintro _ _ _ ⟨rfl, AN53, cN53, CN53, rfl, HN53, rfl⟩
                refine WL.pure 5 6 [0, 1, 4, 7, 10, 12, 14, 88, 89] (L' := [(0, .slice Al0 l0.length cl0), (1, .int .i64 a1), (4, .pointer (some ⟨b1, 0, none⟩)), (7, .slice AR41 t2.2.1.length cR41), (10, .pointer (some ⟨bn16, 0, none⟩)), (12, .int .i64 y36), (14, .int .i64 t42.2.1), (88, .slice AN53 (y37.f5 ++ ([t42.1] : List T39)).length cN53), (89, .pointer (some ⟨bn16, 5, none⟩))]) (by kernel_rfl) (by decide) ?_
                refine WL.op (op := .store 52 (.tmp 89) (.tmp 88)) (ty := 0) (d := none) (g := none) (by kernel_rfl) (by kernel_rfl) (by kernel_rfl) (Does.store_box (i := 2) (b := bn16) (o := 5) (v := .slice AN53 (y37.f5 ++ ([t42.1] : List T39)).length cN53) (by rfl) sz52 (by kernel_rfl) (by kernel_rfl) (by kernel_rfl) (Free.zero _) (Nat.le_of_ble_eq_true rfl) (cells' := #[.int .i64 y37.f0, .int .i64 y37.f1, .int .i64 y37.f2, .slice Ay37_f3 y37.f3.length cy37_f3, .slice Ay37_f4 y37.f4.length cy37_f4, .slice AN53 (y37.f5 ++ ([t42.1] : List T39)).length cN53]) (by kernel_rfl)) ?_
                rintro _ _ _ ⟨rfl, rfl, rfl⟩
                refine WL.restQ 7 [0, 1, 4, 7, 10, 12, 14] (L' := [(0, .slice Al0 l0.length cl0), (1, .int .i64 a1), (4, .pointer (some ⟨b1, 0, none⟩)), (7, .slice AR41 t2.2.1.length cR41), (10, .pointer (some ⟨bn16, 0, none⟩)), (12, .int .i64 y36), (14, .int .i64 t42.2.1)]) (by kernel_rfl) ?_
                refine WP.dropAt 1 ?_
                refine WP.dropAt 0 ?_
                refine WP.regionP [0, 1, 4, 7, 10, 11, 12] (L' := [(0, .slice Al0 l0.length cl0), (1, .int .i64 a1), (4, .pointer (some ⟨b1, 0, none⟩)), (7, .slice AR41 t2.2.1.length cR41), (10, .pointer (some ⟨bn16, 0, none⟩)), (11, .int .i64 t42.2.1), (12, .int .i64 y36)]) (by kernel_rfl) ?_
                refine QP.blockN ?_
                refine QP.next ?_
                refine WP.pick [0, 1, 4, 7, 10, 11, 12] ?_
                refine WP.regionP [0, 1, 4, 7, 10, 11, 12] (L' := [(0, .slice Al0 l0.length cl0), (1, .int .i64 a1), (4, .pointer (some ⟨b1, 0, none⟩)), (7, .slice AR41 t2.2.1.length cR41), (10, .pointer (some ⟨bn16, 0, none⟩)), (11, .int .i64 t42.2.1), (12, .int .i64 (IntKind.i64.wrap (y36 + 1)))]) (by kernel_rfl) ?_
                refine QP.front (i := 5) rfl ?_
                refine QP.front (i := 5) rfl ?_
                refine QP.front (i := 5) rfl ?_
                refine QP.front (i := 5) rfl ?_
                refine QP.front (i := 5) rfl ?_
                refine QP.front (i := 5) rfl ?_
                refine QP.pick [0, 1, 4, 7, 10, 11, 12] ?_
                exact QP.meet ⟨kn39, Nat.lt_succ_self _, t42.2.1, (IntKind.i64.wrap (y36 + 1)), (⟨y37.f0, y37.f1, y37.f2, y37.f3, y37.f4, (y37.f5 ++ ([t42.1] : List T39))⟩ : T54), h, Ay37_f3, cy37_f3, Cy37_f3, Ay37_f4, cy37_f4, Cy37_f4, AN53, cN53, CN53, rfl, rfl, rfl, Hy37_f3, Hy37_f4, HN53⟩
            · replace hc := of_decide_eq_false hc
              rw [if_neg hc] at h
              have hc41 := hc
              clear hc
              refine WP.exit ?_
              refine QP.thenE ?_
              refine QP.thenE ?_
              refine QP.blockE ?_
              refine QP.dropAt 4 ?_
              refine QP.pick [0, 1, 4, 10] ?_
              exact QP.meet ⟨_, Option.some.inj h, Ay37_f3, cy37_f3, Cy37_f3, Ay37_f4, cy37_f4, Cy37_f4, Ay37_f5, cy37_f5, Cy37_f5, rfl, rfl, rfl, Hy37_f3, Hy37_f4, Hy37_f5⟩
        · rintro _ _ _ ⟨s33, rfl, As33_f3, cs33_f3, Cs33_f3, As33_f4, cs33_f4, Cs33_f4, As33_f5, cs33_f5, Cs33_f5, rfl, rfl, rfl, Hs33_f3, Hs33_f4, Hs33_f5⟩
          clear h
          replace h := hk34
          refine QP.next ?_
          refine WP.pick [0, 1, 4, 10] ?_
          refine WP.seqR ?_
          refine WL.tell (op := .load 54 (.tmp 10)) (ty := 54) (d := some 92) (g := none) (by kernel_rfl) (by kernel_rfl) (by kernel_rfl) (Tells.load_box (i := 0) (b := bn16) (o := 0) (agg := true) (by rfl) ag54 (by kernel_rfl) (fun h => by cases h) (Nat.le_of_ble_eq_true rfl) (v := .agg #[.int .i64 s33.f0, .int .i64 s33.f1, .int .i64 s33.f2, .slice As33_f3 s33.f3.length cs33_f3, .slice As33_f4 s33.f4.length cs33_f4, .slice As33_f5 s33.f5.length cs33_f5]) (by kernel_rfl)) ?_
          refine WL.pure 1 2 [0, 4, 10, 92, 93] (L' := [(0, .slice Al0 l0.length cl0), (4, .pointer (some ⟨b1, 0, none⟩)), (10, .pointer (some ⟨bn16, 0, none⟩)), (92, .agg #[.int .i64 s33.f0, .int .i64 s33.f1, .int .i64 s33.f2, .slice As33_f3 s33.f3.length cs33_f3, .slice As33_f4 s33.f4.length cs33_f4, .slice As33_f5 s33.f5.length cs33_f5]), (93, .int .i64 a1)]) (by kernel_rfl) (by decide) ?_
          rw [Option.bind_eq_some_iff] at h
          obtain ⟨t54, ht55, h⟩ := h
          refine WL.op (op := .call { callee := (.value (.func 27)), args := #[(.tmp 92), (.tmp 93)], argTypes := #[54, 3] }) (ty := 57) (d := some 94) (g := none) (by kernel_rfl) (by kernel_rfl) (by kernel_rfl) (Does.call (Φ := fun v' G' Γ' => ∃ (AR560 : Option Addr), ∃ (cR560 : Nat), ∃ (CR560 : Chunk), v' = .tuple #[.slice AR560 t54.1.length cR560, .int .i64 t54.2] ∧ Ow (kInt .u8) G AR560 cR560 t54.1 CR560 ∧ G = G' ∧ CR560 :: [(bn16, .cells #[.int .i64 s33.f0, .int .i64 s33.f1, .int .i64 s33.f2, .slice As33_f3 s33.f3.length cs33_f3, .slice As33_f4 s33.f4.length cs33_f4, .slice As33_f5 s33.f5.length cs33_f5] 54 (0, 0))] :: Cs33_f3 :: Cs33_f4 :: Cs33_f5 :: [(b1, .cells #[.int .i64 0, .int .i64 0, .int .i64 0, .slice none 0 0, .slice none 0 0, .slice none 0 0] 54 (0, 0))] :: Γ = Γ') (f := 27) (args := [.agg #[.int .i64 s33.f0, .int .i64 s33.f1, .int .i64 s33.f2, .slice As33_f3 s33.f3.length cs33_f3, .slice As33_f4 s33.f4.length cs33_f4, .slice As33_f5 s33.f5.length cs33_f5], .int .i64 a1]) (by kernel_rfl) (fun W hI => (Calls.lendN (Φ := fun v' N => ∃ (AR560 : Option Addr), ∃ (cR560 : Nat), ∃ (CR560 : Chunk), v' = .tuple #[.slice AR560 t54.1.length cR560, .int .i64 t54.2] ∧ Ow (kInt .u8) G AR560 cR560 t54.1 CR560 ∧ N = [CR560]) (H := []) (i := 1) rfl hI (fun _ e l58 nl58 hI => by subst e; exact Calls.lendN (Φ := fun v' N => ∃ (AR560 : Option Addr), ∃ (cR560 : Nat), ∃ (CR560 : Chunk), v' = .tuple #[.slice AR560 t54.1.length cR560, .int .i64 t54.2] ∧ Ow (kInt .u8) G AR560 cR560 t54.1 CR560 ∧ N = [CR560]) (H := []) (i := 2) rfl hI (fun _ e l59 nl59 hI => by subst e; exact Calls.lendN (Φ := fun v' N => ∃ (AR560 : Option Addr), ∃ (cR560 : Nat), ∃ (CR560 : Chunk), v' = .tuple #[.slice AR560 t54.1.length cR560, .int .i64 t54.2] ∧ Ow (kInt .u8) G AR560 cR560 t54.1 CR560 ∧ N = [CR560]) (H := []) (i := 3) rfl hI (fun _ e l60 nl60 hI => by subst e; exact (((grapevineref20_Lay_calls (((HT.mono l58).mono l59).mono l60) k s33 a1 As33_f3 cs33_f3 (((Hs33_f3.rdN l58 nl58).mono l59).mono l60) As33_f4 cs33_f4 (((Hs33_f4.mono l58).rdN l59 nl59).mono l60) As33_f5 cs33_f5 (((Hs33_f5.mono l58).mono l59).rdN l60 nl60) t54 ht55 hI)).mono fun _ _ hr => by obtain ⟨_, _, _, rfl, hd, hI⟩ := hr; obtain ⟨AR560, cR560, CR560, rfl, HR560, rfl, rfl⟩ := hd; exact ⟨_, _, _, rfl, ⟨[CR560], ⟨AR560, cR560, CR560, rfl, (HR560.flat (kInt_flat _)), rfl⟩, rfl, rfl⟩, hI⟩))))).mono fun _ _ hr => by obtain ⟨_, _, _, rfl, ⟨_, hd, rfl, rfl⟩, hI⟩ := hr; obtain ⟨AR560, cR560, CR560, rfl, HR560, rfl⟩ := hd; exact ⟨_, _, _, rfl, ⟨AR560, cR560, CR560, rfl, HR560, rfl, rfl⟩, hI⟩)) ?_
          rintro _ _ _ ⟨AR560, cR560, CR560, rfl, HR560, rfl, rfl⟩
          refine WL.restQ 3 [0, 4, 10, 16, 17] (L' := [(0, .slice Al0 l0.length cl0), (4, .pointer (some ⟨b1, 0, none⟩)), (10, .pointer (some ⟨bn16, 0, none⟩)), (16, .slice AR560 t54.1.length cR560), (17, .int .i64 t54.2)]) (by kernel_rfl) ?_
          refine WP.seq ?_
          rw [Option.bind_eq_some_iff] at h
          obtain ⟨os61, h, hk62⟩ := h
          refine WP.cut (fun L' G' Γ' => ∃ s61 : Bool, s61 = os61 ∧ L' = [(4, .pointer (some ⟨b1, 0, none⟩)), (10, .pointer (some ⟨bn16, 0, none⟩)), (105, .bool s61)] ∧ G = G' ∧ [(bn16, .cells #[.int .i64 s33.f0, .int .i64 s33.f1, .int .i64 s33.f2, .slice As33_f3 s33.f3.length cs33_f3, .slice As33_f4 s33.f4.length cs33_f4, .slice As33_f5 s33.f5.length cs33_f5] 54 (0, 0))] :: Cs33_f3 :: Cs33_f4 :: Cs33_f5 :: [(b1, .cells #[.int .i64 0, .int .i64 0, .int .i64 0, .slice none 0 0, .slice none 0 0, .slice none 0 0] 54 (0, 0))] :: Γ = Γ') ?_ ?_
          · clear hk62
            refine WP.region ?_
            refine WL.pure 0 3 [0, 4, 10, 16, 99] (L' := [(0, .slice Al0 l0.length cl0), (4, .pointer (some ⟨b1, 0, none⟩)), (10, .pointer (some ⟨bn16, 0, none⟩)), (16, .slice AR560 t54.1.length cR560), (99, .bool (t54.2 != 0))]) (by kernel_rfl) (by decide) ?_
            refine WL.split 99 (b := (t54.2 != 0)) (by kernel_rfl) (fun hc => ?_) (fun hc => ?_)
            · replace hc := (bne_iff_ne.1 hc)
              rw [if_pos hc] at h
              have hc63 := hc
              clear hc
              refine WL.rest 3 [4, 10, 105] (L' := [(4, .pointer (some ⟨b1, 0, none⟩)), (10, .pointer (some ⟨bn16, 0, none⟩)), (105, .bool true)]) (by kernel_rfl) ?_
              refine QP.dropAt 0 ?_
              refine QP.pick [4, 10, 105] ?_
              exact QP.meet ⟨_, Option.some.inj h, rfl, rfl, rfl⟩
            · replace hc := (not_not_intro (bne_eq_false_iff_eq.1 hc))
              rw [if_neg hc] at h
              have hc63 := hc
              clear hc
              refine WL.pure 3 4 [0, 4, 10, 99, 100] (L' := [(0, .slice Al0 l0.length cl0), (4, .pointer (some ⟨b1, 0, none⟩)), (10, .pointer (some ⟨bn16, 0, none⟩)), (99, .bool false), (100, .slice AR560 t54.1.length cR560)]) (by kernel_rfl) (by decide) ?_
              refine WL.tell (op := .convert 22 9 (.tmp 100)) (ty := 9) (d := some 101) (g := some (2, false)) (by kernel_rfl) (by kernel_rfl) (by kernel_rfl) (HR560.str (i := 0) rfl (by kernel_rfl) by22 st9) ?_
              refine WL.pure 5 6 [4, 10, 99, 101, 102] (L' := [(4, .pointer (some ⟨b1, 0, none⟩)), (10, .pointer (some ⟨bn16, 0, none⟩)), (99, .bool false), (101, .string (strOfNums t54.1)), (102, .slice Al0 l0.length cl0)]) (by kernel_rfl) (by decide) ?_
              refine WL.tell (op := .convert 22 9 (.tmp 102)) (ty := 9) (d := some 103) (g := some (2, false)) (by kernel_rfl) (by kernel_rfl) (by kernel_rfl) (Hl0.str (by kernel_rfl) by22 st9) ?_
              refine WL.rest 7 [4, 10, 105] (L' := [(4, .pointer (some ⟨b1, 0, none⟩)), (10, .pointer (some ⟨bn16, 0, none⟩)), (105, .bool (!((strOfNums t54.1).toList == (strOfNums l0).toList)))]) (by kernel_rfl) ?_
              refine QP.dropAt 0 ?_
              refine QP.pick [4, 10, 105] ?_
              exact QP.meet ⟨_, Option.some.inj h, rfl, rfl, rfl⟩
          · rintro _ _ _ ⟨s61, rfl, rfl, rfl, rfl⟩
            clear h
            replace h := hk62
            refine WP.cond (b := s61) (by kernel_rfl) (fun hc => ?_) (fun hc => ?_)
            · replace hc := hc
              rw [if_pos hc] at h
              have hc64 := hc
              clear hc
              refine WP.seqR ?_
              refine WL.pure 0 1 [4, 106] (L' := [(4, .pointer (some ⟨b1, 0, none⟩)), (106, .agg #[.int .i64 0, .int .i64 0, .int .i64 0, .slice none 0 0, .slice none 0 0, .slice none 0 0])]) (by kernel_rfl) (by decide) ?_
              refine WL.op (op := .store 54 (.tmp 4) (.tmp 106)) (ty := 0) (d := none) (g := none) (by kernel_rfl) (by kernel_rfl) (by kernel_rfl) (Does.store_box (i := 4) (b := b1) (o := 0) (v := .agg #[.int .i64 0, .int .i64 0, .int .i64 0, .slice none 0 0, .slice none 0 0, .slice none 0 0]) (by rfl) sz54 (by kernel_rfl) (by kernel_rfl) (by kernel_rfl) (Free.zero _) (Nat.le_of_ble_eq_true rfl) (cells' := #[.int .i64 0, .int .i64 0, .int .i64 0, .slice none 0 0, .slice none 0 0, .slice none 0 0]) (by kernel_rfl)) ?_
              rintro _ _ _ ⟨rfl, rfl, rfl⟩
              refine WL.restQ 2 [4, 5] (L' := [(4, .pointer (some ⟨b1, 0, none⟩)), (5, .int .i64 12)]) (by kernel_rfl) ?_
              refine WP.dropAt 3 ?_
              refine WP.dropAt 2 ?_
              refine WP.dropAt 1 ?_
              refine WP.dropAt 0 ?_
              refine WP.ret ?_
              refine QP.thenR ?_
              obtain rfl := Option.some.inj h
              refine QP.addNil ?_
              refine QP.addNil ?_
              refine QP.addNil ?_
              refine QP.front (i := 3) rfl ?_
              refine QP.front (i := 1) rfl ?_
              refine QP.front (i := 2) rfl ?_
              refine QP.front (i := 3) rfl ?_
              exact QP.returnedM (rs := [.cell 4 54, .tmp 5]) (by kernel_rfl) (ResAll.cons (Res1.box (p := 4) (i := 3) (o := 0) (agg := true) (by rfl) ag54 (by kernel_rfl) (fun h => by cases h) (Nat.le_of_ble_eq_true rfl) (v := .agg #[.int .i64 0, .int .i64 0, .int .i64 0, .slice none ([] : List Int).length 0, .slice none ([] : List Int).length 0, .slice none ([] : List T39).length 0]) (by kernel_rfl)) (ResAll.cons (Res1.tmp (t := 5) (v := .int .i64 12) (by kernel_rfl)) ResAll.nil)) (by kernel_rfl) (fun W hI => ⟨_, _, _, rfl, ⟨none, 0, [], none, 0, [], none, 0, [], rfl, (Ow.nil (kInt .i64) _), (Ow.nil (kInt .i64) _), (Ow.nil k39 _), rfl, rfl⟩, (hI.less 3 rfl)⟩)
            · replace hc := (Bool.eq_false_iff.1 hc)
              rw [if_neg hc] at h
              have hc64 := hc
              clear hc
              refine WP.skip ?_
              refine QP.next ?_
              refine WP.pick [4, 10] ?_
              refine WP.seqR ?_
              refine WL.tell (op := .load 54 (.tmp 10)) (ty := 54) (d := some 107) (g := none) (by kernel_rfl) (by kernel_rfl) (by kernel_rfl) (Tells.load_box (i := 0) (b := bn16) (o := 0) (agg := true) (by rfl) ag54 (by kernel_rfl) (fun h => by cases h) (Nat.le_of_ble_eq_true rfl) (v := .agg #[.int .i64 s33.f0, .int .i64 s33.f1, .int .i64 s33.f2, .slice As33_f3 s33.f3.length cs33_f3, .slice As33_f4 s33.f4.length cs33_f4, .slice As33_f5 s33.f5.length cs33_f5]) (by kernel_rfl)) ?_
              refine WL.op (op := .store 54 (.tmp 4) (.tmp 107)) (ty := 0) (d := none) (g := none) (by kernel_rfl) (by kernel_rfl) (by kernel_rfl) (Does.store_box (i := 4) (b := b1) (o := 0) (v := .agg #[.int .i64 s33.f0, .int .i64 s33.f1, .int .i64 s33.f2, .slice As33_f3 s33.f3.length cs33_f3, .slice As33_f4 s33.f4.length cs33_f4, .slice As33_f5 s33.f5.length cs33_f5]) (by rfl) sz54 (by kernel_rfl) (by kernel_rfl) (by kernel_rfl) (Free.zero _) (Nat.le_of_ble_eq_true rfl) (cells' := #[.int .i64 s33.f0, .int .i64 s33.f1, .int .i64 s33.f2, .slice As33_f3 s33.f3.length cs33_f3, .slice As33_f4 s33.f4.length cs33_f4, .slice As33_f5 s33.f5.length cs33_f5]) (by kernel_rfl)) ?_
              rintro _ _ _ ⟨rfl, rfl, rfl⟩
              refine WL.restQ 2 [4, 5] (L' := [(4, .pointer (some ⟨b1, 0, none⟩)), (5, .int .i64 0)]) (by kernel_rfl) ?_
              refine WP.dropAt 0 ?_
              refine WP.ret ?_
              obtain rfl := Option.some.inj h
              exact QP.returnedM (rs := [.cell 4 54, .tmp 5]) (by kernel_rfl) (ResAll.cons (Res1.box (p := 4) (i := 3) (o := 0) (agg := true) (by rfl) ag54 (by kernel_rfl) (fun h => by cases h) (Nat.le_of_ble_eq_true rfl) (v := .agg #[.int .i64 s33.f0, .int .i64 s33.f1, .int .i64 s33.f2, .slice As33_f3 s33.f3.length cs33_f3, .slice As33_f4 s33.f4.length cs33_f4, .slice As33_f5 s33.f5.length cs33_f5]) (by kernel_rfl)) (ResAll.cons (Res1.tmp (t := 5) (v := .int .i64 0) (by kernel_rfl)) ResAll.nil)) (by kernel_rfl) (fun W hI => ⟨_, _, _, rfl, ⟨As33_f3, cs33_f3, Cs33_f3, As33_f4, cs33_f4, Cs33_f4, As33_f5, cs33_f5, Cs33_f5, rfl, Hs33_f3, Hs33_f4, Hs33_f5, rfl, rfl⟩, (hI.less 3 rfl)⟩)

/-! ### grapevine/grapevinelaw0.OverRecords: function 72 -/
def grapevinelaw0_OverRecords_l0 : Nat → Int → (List T39) → Option (List T39)
  | 0, _, _ => none
  | k + 1, y3, y4 => (if y3 < (y4.length : Int) then (if 0 ≤ y3 ∧ y3 < (y4.length : Int) then grapevinelaw0_OverRecords_l0 k (IntKind.i64.wrap (y3 + 1)) (y4.set y3.toNat (⟨0, 0, 0, 0, (⟨#[111, 118, 101, 114]⟩ : ByteArray)⟩ : T39)) else none) else some y4)
def grapevinelaw0_OverRecords (k : Nat) (l0 : List T39) : Option Unit := ((grapevinelaw0_OverRecords_l0 k 0 l0).bind fun s1 => (if s1.length + ([(⟨0, 0, 0, 0, (⟨#[111, 118, 101, 114]⟩ : ByteArray)⟩ : T39)] : List T39).length ≤ 1073741824 then some () else none))
set_option maxHeartbeats 4000000 in
theorem grapevinelaw0_OverRecords_calls {B : World} {G : GMap} {Γ : List Chunk} {W : World} (k : Nat) (l0 : List T39) (Al0 : Option Addr) (cl0 : Nat) (Cl0 : Chunk) (Hl0 : Ow k39 G Al0 cl0 l0 Cl0) (r : Unit) (h : grapevinelaw0_OverRecords k l0 = some r) (hI : Inv B G (Cl0 :: Γ) W) :
    Calls Tryd.prog 72 [.slice Al0 l0.length cl0].toArray W (Ret B (fun v G' Γ' => v = .tuple #[] ∧ G = G' ∧ Γ = Γ')) := by
  refine calls_WP (Γ := Cl0 :: Γ) (G := G) (B := B) Tryd.func72 rfl (by kernel_rfl) ?_ hI
  clear hI
  unfold grapevinelaw0_OverRecords at h
  refine WP.seq ?_
  refine WP.seqP [0, 2] (L' := [(0, .slice Al0 l0.length cl0), (2, .int .i64 0)]) (by kernel_rfl) ?_
  rw [Option.bind_eq_some_iff] at h
  obtain ⟨os1, h, hk2⟩ := h
  refine WP.cutQ (fun L' G' Γ' => ∃ s1 : (List T39), s1 = os1 ∧ ∃ (As1 : Option Addr), ∃ (cs1 : Nat), ∃ (Cs1 : Chunk), L' = [(0, .slice As1 s1.length cs1)] ∧ G = G' ∧ Cs1 :: Γ = Γ' ∧ Ow k39 G As1 cs1 s1 Cs1) ?_ ?_
  · clear hk2
    refine WP.block ?_
    refine WP.pick [0, 2] ?_
    refine WP.loopF (fun kn5 L' G' Γ' => ∃ (y3 : Int), ∃ (y4 : List T39), grapevinelaw0_OverRecords_l0 kn5 y3 y4 = some os1 ∧ ∃ (Ay4 : Option Addr), ∃ (cy4 : Nat), ∃ (Cy4 : Chunk), L' = [(0, .slice Ay4 y4.length cy4), (2, .int .i64 y3)] ∧ G = G' ∧ Cy4 :: Γ = Γ' ∧ Ow k39 G Ay4 cy4 y4 Cy4) ?_ k ⟨0, l0, h, Al0, cl0, Cl0, rfl, rfl, rfl, Hl0⟩
    clear h
    rintro kn6 _ _ _ ⟨y3, y4, h, Ay4, cy4, Cy4, rfl, rfl, rfl, Hy4⟩
    cases kn6 with
    | zero => exact absurd h (by simp [grapevinelaw0_OverRecords_l0])
    | succ kn6 =>
      simp only [grapevinelaw0_OverRecords_l0] at h
      refine WP.seq ?_
      refine WP.seqP [0, 2, 6] (L' := [(0, .slice Ay4 y4.length cy4), (2, .int .i64 y3), (6, .bool (decide (y3 < (y4.length : Int))))]) (by kernel_rfl) ?_
      refine WP.cond (b := decide (y3 < (y4.length : Int))) (by kernel_rfl) (fun hc => ?_) (fun hc => ?_)
      · replace hc := of_decide_eq_true hc
        rw [if_pos hc] at h
        have hc7 := hc
        clear hc
        refine WP.skip ?_
        refine QP.next ?_
        refine WP.pick [0, 2] ?_
        refine WP.seq ?_
        refine WP.block ?_
        refine WP.region ?_
        refine WL.pure 0 3 [0, 2, 9, 10, 11] (L' := [(0, .slice Ay4 y4.length cy4), (2, .int .i64 y3), (9, .slice Ay4 y4.length cy4), (10, .int .i64 y3), (11, .agg #[.int .i64 0, .int .i64 0, .int .i64 0, .int .i64 0, .string (⟨#[111, 118, 101, 114]⟩ : ByteArray)])]) (by kernel_rfl) (by decide) ?_
        by_cases hb8 : 0 ≤ y3 ∧ y3 < (y4.length : Int)
        case neg => rw [if_neg hb8] at h; cases h
        rw [if_pos hb8] at h
        refine WL.tell (op := .indexAddr 52 (.tmp 9) (.tmp 10)) (ty := 0) (d := some 12) (g := none) (by kernel_rfl) (by kernel_rfl) (by kernel_rfl) (Tells.indexAddr (A := Ay4) (n := y4.length) (c := cy4) (k := .i64) (j := y3) (by kernel_rfl) (by kernel_rfl) (Hy4.isSome hb8.1 hb8.2) hb8.1 hb8.2 sl52) ?_
        refine WL.op (op := .store 39 (.tmp 12) (.tmp 11)) (ty := 0) (d := none) (g := none) (by kernel_rfl) (by kernel_rfl) (by kernel_rfl) (Ow.store Hy4 (i := 0) rfl hb8.1 hb8.2 (z := (⟨0, 0, 0, 0, (⟨#[111, 118, 101, 114]⟩ : ByteArray)⟩ : T39)) (v := .agg #[.int .i64 0, .int .i64 0, .int .i64 0, .int .i64 0, .string (⟨#[111, 118, 101, 114]⟩ : ByteArray)]) (by kernel_rfl) (by kernel_rfl) sz39 (by exact rfl)) ?_
        rintro _ _ _ ⟨rfl, rfl, C9, Ho10, rfl⟩
        refine WL.reput 0 (v := .slice Ay4 y4.length cy4) (v' := .slice Ay4 (y4.set y3.toNat (⟨0, 0, 0, 0, (⟨#[111, 118, 101, 114]⟩ : ByteArray)⟩ : T39)).length cy4) (by kernel_rfl) (by rw [List.length_set]) ?_
        refine WL.rest 5 [0, 2] (L' := [(0, .slice Ay4 (y4.set y3.toNat (⟨0, 0, 0, 0, (⟨#[111, 118, 101, 114]⟩ : ByteArray)⟩ : T39)).length cy4), (2, .int .i64 y3)]) (by kernel_rfl) ?_
        refine QP.blockN ?_
        refine QP.next ?_
        refine WP.pick [0, 2] ?_
        refine WP.regionP [0, 2] (L' := [(0, .slice Ay4 (y4.set y3.toNat (⟨0, 0, 0, 0, (⟨#[111, 118, 101, 114]⟩ : ByteArray)⟩ : T39)).length cy4), (2, .int .i64 (IntKind.i64.wrap (y3 + 1)))]) (by kernel_rfl) ?_
        refine QP.pick [0, 2] ?_
        exact QP.meet ⟨kn6, Nat.lt_succ_self _, (IntKind.i64.wrap (y3 + 1)), (y4.set y3.toNat (⟨0, 0, 0, 0, (⟨#[111, 118, 101, 114]⟩ : ByteArray)⟩ : T39)), h, Ay4, cy4, C9, rfl, rfl, rfl, Ho10⟩
      · replace hc := of_decide_eq_false hc
        rw [if_neg hc] at h
        have hc7 := hc
        clear hc
        refine WP.exit ?_
        refine QP.thenE ?_
        refine QP.thenE ?_
        refine QP.blockE ?_
        refine QP.pick [0] ?_
        exact QP.meet ⟨_, Option.some.inj h, Ay4, cy4, Cy4, rfl, rfl, rfl, Hy4⟩
  · rintro _ _ _ ⟨s1, rfl, As1, cs1, Cs1, rfl, rfl, rfl, Hs1⟩
    clear h
    replace h := hk2
    refine QP.next ?_
    refine WP.pick [0] ?_
    refine WP.region ?_
    refine WL.pure 0 2 [13, 14] (L' := [(13, .slice As1 s1.length cs1), (14, .agg #[.int .i64 0, .int .i64 0, .int .i64 0, .int .i64 0, .string (⟨#[111, 118, 101, 114]⟩ : ByteArray)])]) (by kernel_rfl) (by decide) ?_
    refine WL.op (op := .buildSlice 52 1 #[(0, (.tmp 14))]) (ty := 52) (d := some 15) (g := none) (by kernel_rfl) (by kernel_rfl) (by kernel_rfl) (Does.new (o := .cells #[.int .i64 0, .int .i64 0, .int .i64 0, .int .i64 0, .string (⟨#[111, 118, 101, 114]⟩ : ByteArray)] 39 (0, 0)) (v := fun r => .slice (some ⟨r, 0, none⟩) 1 1) (fun r => by kernel_rfl)) ?_
    rintro _ _ _ ⟨b11, rfl, rfl, rfl⟩
    have Ho13 : Ow k39 G (some ⟨b11, 0, none⟩) 1 ([(⟨0, 0, 0, 0, (⟨#[111, 118, 101, 114]⟩ : ByteArray)⟩ : T39)] : List T39) [(b11, .cells #[.int .i64 0, .int .i64 0, .int .i64 0, .int .i64 0, .string (⟨#[111, 118, 101, 114]⟩ : ByteArray)] 39 (0, 0))] := Ow.lit (kd := k39) (G := G) (b := b11) (T := 39) (xs := ([(⟨0, 0, 0, 0, (⟨#[111, 118, 101, 114]⟩ : ByteArray)⟩ : T39)] : List T39)) (cs := [.int .i64 0, .int .i64 0, .int .i64 0, .int .i64 0, .string (⟨#[111, 118, 101, 114]⟩ : ByteArray)]) (.cons (x := (⟨0, 0, 0, 0, (⟨#[111, 118, 101, 114]⟩ : ByteArray)⟩ : T39)) (cs := [.int .i64 0, .int .i64 0, .int .i64 0, .int .i64 0, .string (⟨#[111, 118, 101, 114]⟩ : ByteArray)]) (by exact rfl) .nil)
    by_cases hb14 : s1.length + ([(⟨0, 0, 0, 0, (⟨#[111, 118, 101, 114]⟩ : ByteArray)⟩ : T39)] : List T39).length ≤ 1073741824
    case neg => rw [if_neg hb14] at h; cases h
    rw [if_pos hb14] at h
    refine WL.op (op := .call { callee := (.builtin .append), args := #[(.tmp 13), (.tmp 15)], argTypes := #[52, 52] }) (ty := 52) (d := some 16) (g := none) (by kernel_rfl) (by kernel_rfl) (by kernel_rfl) (Ow.append (ys := ([(⟨0, 0, 0, 0, (⟨#[111, 118, 101, 114]⟩ : ByteArray)⟩ : T39)] : List T39)) (v := .slice (some ⟨b11, 0, none⟩) ([(⟨0, 0, 0, 0, (⟨#[111, 118, 101, 114]⟩ : ByteArray)⟩ : T39)] : List T39).length 1) Hs1 (i := 1) rfl (by kernel_rfl) (by kernel_rfl) (Ho13.src (i := 0) rfl) sl52 ze39 nt52 (by decide) hb14) ?_
    rintro _ _ _ ⟨rfl, AN15, cN15, CN15, rfl, HN15, rfl⟩
    refine WL.rest 4 [] (L' := []) (by kernel_rfl) ?_
    obtain rfl := Option.some.inj h
    refine QP.dropAt 1 ?_
    refine QP.dropAt 0 ?_
    exact QP.returnedN [] [] _ (by kernel_rfl) (by kernel_rfl) (by kernel_rfl) (fun W hI => ⟨_, _, _, rfl, ⟨rfl, rfl, rfl⟩, hI⟩)

/-! ### grapevine/grapevinelaw0.OverMessage: function 36 -/
def grapevinelaw0_OverMessage (k : Nat) (a0 : T54) : Option Unit := ((grapevinelaw0_OverInts k a0.f3).bind fun t2 => ((grapevinelaw0_OverInts k a0.f4).bind fun t6 => ((grapevinelaw0_OverRecords k a0.f5).bind fun t10 => some ())))
set_option maxHeartbeats 4000000 in
theorem grapevinelaw0_OverMessage_calls {B : World} {G : GMap} {Γ : List Chunk} {W : World} (k : Nat) (a0 : T54) (Aa0_f3 : Option Addr) (ca0_f3 : Nat) (Ca0_f3 : Chunk) (Ha0_f3 : Ow (kInt .i64) G Aa0_f3 ca0_f3 a0.f3 Ca0_f3) (Aa0_f4 : Option Addr) (ca0_f4 : Nat) (Ca0_f4 : Chunk) (Ha0_f4 : Ow (kInt .i64) G Aa0_f4 ca0_f4 a0.f4 Ca0_f4) (Aa0_f5 : Option Addr) (ca0_f5 : Nat) (Ca0_f5 : Chunk) (Ha0_f5 : Ow k39 G Aa0_f5 ca0_f5 a0.f5 Ca0_f5) (r : Unit) (h : grapevinelaw0_OverMessage k a0 = some r) (hI : Inv B G (Ca0_f3 :: Ca0_f4 :: Ca0_f5 :: Γ) W) :
    Calls Tryd.prog 36 [.agg #[.int .i64 a0.f0, .int .i64 a0.f1, .int .i64 a0.f2, .slice Aa0_f3 a0.f3.length ca0_f3, .slice Aa0_f4 a0.f4.length ca0_f4, .slice Aa0_f5 a0.f5.length ca0_f5]].toArray W (Ret B (fun v G' Γ' => v = .tuple #[] ∧ G = G' ∧ Γ = Γ')) := by
  refine calls_WP (Γ := Ca0_f3 :: Ca0_f4 :: Ca0_f5 :: Γ) (G := G) (B := B) Tryd.func36 rfl (by kernel_rfl) ?_ hI
  clear hI
  unfold grapevinelaw0_OverMessage at h
  refine WP.seqR ?_
  refine WL.op (op := .box 54 (.tmp 0)) (ty := 0) (d := some 1) (g := none) (by kernel_rfl) (by kernel_rfl) (by kernel_rfl) (Does.new (o := .cells #[.int .i64 a0.f0, .int .i64 a0.f1, .int .i64 a0.f2, .slice Aa0_f3 a0.f3.length ca0_f3, .slice Aa0_f4 a0.f4.length ca0_f4, .slice Aa0_f5 a0.f5.length ca0_f5] 54 (0, 0)) (v := fun r => .pointer (some ⟨r, 0, none⟩)) (fun r => by kernel_rfl)) ?_
  rintro _ _ _ ⟨b1, rfl, rfl, rfl⟩
  refine WL.restQ 1 [1] (L' := [(1, .pointer (some ⟨b1, 0, none⟩))]) (by kernel_rfl) ?_
  refine WP.seqR ?_
  refine WL.pure 0 1 [1, 2] (L' := [(1, .pointer (some ⟨b1, 0, none⟩)), (2, .pointer (some ⟨b1, 3, none⟩))]) (by kernel_rfl) (by decide) ?_
  refine WL.tell (op := .load 32 (.tmp 2)) (ty := 32) (d := some 3) (g := none) (by kernel_rfl) (by kernel_rfl) (by kernel_rfl) (Tells.load_box (i := 0) (b := b1) (o := 3) (agg := false) (by rfl) ag32 (by kernel_rfl) (fun _ => rfl) (Nat.le_of_ble_eq_true rfl) (v := .slice Aa0_f3 a0.f3.length ca0_f3) (by kernel_rfl)) ?_
  refine WL.front (i := 1) rfl ?_
  rw [Option.bind_eq_some_iff] at h
  obtain ⟨t2, ht3, h⟩ := h
  refine WL.op (op := .call { callee := (.value (.func 42)), args := #[(.tmp 3)], argTypes := #[32] }) (ty := 0) (d := some 4) (g := none) (by kernel_rfl) (by kernel_rfl) (by kernel_rfl) (Does.call (f := 42) (args := [.slice Aa0_f3 a0.f3.length ca0_f3]) (by kernel_rfl) (fun W hI => (grapevinelaw0_OverInts_calls k a0.f3 Aa0_f3 ca0_f3 Ca0_f3 Ha0_f3 t2 ht3 hI))) ?_
  rintro _ _ _ ⟨rfl, rfl, rfl⟩
  refine WL.restQ 3 [1] (L' := [(1, .pointer (some ⟨b1, 0, none⟩))]) (by kernel_rfl) ?_
  refine WP.seqR ?_
  refine WL.pure 0 1 [1, 5] (L' := [(1, .pointer (some ⟨b1, 0, none⟩)), (5, .pointer (some ⟨b1, 4, none⟩))]) (by kernel_rfl) (by decide) ?_
  refine WL.tell (op := .load 32 (.tmp 5)) (ty := 32) (d := some 6) (g := none) (by kernel_rfl) (by kernel_rfl) (by kernel_rfl) (Tells.load_box (i := 0) (b := b1) (o := 4) (agg := false) (by rfl) ag32 (by kernel_rfl) (fun _ => rfl) (Nat.le_of_ble_eq_true rfl) (v := .slice Aa0_f4 a0.f4.length ca0_f4) (by kernel_rfl)) ?_
  refine WL.front (i := 1) rfl ?_
  rw [Option.bind_eq_some_iff] at h
  obtain ⟨t6, ht7, h⟩ := h
  refine WL.op (op := .call { callee := (.value (.func 42)), args := #[(.tmp 6)], argTypes := #[32] }) (ty := 0) (d := some 7) (g := none) (by kernel_rfl) (by kernel_rfl) (by kernel_rfl) (Does.call (f := 42) (args := [.slice Aa0_f4 a0.f4.length ca0_f4]) (by kernel_rfl) (fun W hI => (grapevinelaw0_OverInts_calls k a0.f4 Aa0_f4 ca0_f4 Ca0_f4 Ha0_f4 t6 ht7 hI))) ?_
  rintro _ _ _ ⟨rfl, rfl, rfl⟩
  refine WL.restQ 3 [1] (L' := [(1, .pointer (some ⟨b1, 0, none⟩))]) (by kernel_rfl) ?_
  refine WP.region ?_
  refine WL.pure 0 1 [8] (L' := [(8, .pointer (some ⟨b1, 5, none⟩))]) (by kernel_rfl) (by decide) ?_
  refine WL.tell (op := .load 52 (.tmp 8)) (ty := 52) (d := some 9) (g := none) (by kernel_rfl) (by kernel_rfl) (by kernel_rfl) (Tells.load_box (i := 0) (b := b1) (o := 5) (agg := false) (by rfl) ag52 (by kernel_rfl) (fun _ => rfl) (Nat.le_of_ble_eq_true rfl) (v := .slice Aa0_f5 a0.f5.length ca0_f5) (by kernel_rfl)) ?_
  refine WL.front (i := 1) rfl ?_
  rw [Option.bind_eq_some_iff] at h
  obtain ⟨t10, ht11, h⟩ := h
  refine WL.op (op := .call { callee := (.value (.func 72)), args := #[(.tmp 9)], argTypes := #[52] }) (ty := 0) (d := some 10) (g := none) (by kernel_rfl) (by kernel_rfl) (by kernel_rfl) (Does.call (f := 72) (args := [.slice Aa0_f5 a0.f5.length ca0_f5]) (by kernel_rfl) (fun W hI => (grapevinelaw0_OverRecords_calls k a0.f5 Aa0_f5 ca0_f5 Ca0_f5 Ha0_f5 t10 ht11 hI))) ?_
  rintro _ _ _ ⟨rfl, rfl, rfl⟩
  refine WL.rest 3 [] (L' := []) (by kernel_rfl) ?_
  obtain rfl := Option.some.inj h
  refine QP.dropAt 0 ?_
  exact QP.returnedN [] [] _ (by kernel_rfl) (by kernel_rfl) (by kernel_rfl) (fun W hI => ⟨_, _, _, rfl, ⟨rfl, rfl, rfl⟩, hI⟩)
end Go.Proofs.YtfocilpnbiciaaaDoor.Gf
