/- Walks of Go functions: what each tells, as a plain Lean function, and that the Go code comes to it. Written by gg.py of this repo. -/
import Derived.Test.YtajhihpaccggdaaDoorT
import Derived.Test.YtajhihpaccggdaaDoorF0
import Derived.Test.YtajhihpaccggdaaDoorF1
namespace Go.Proofs.YtajhihpaccggdaaDoor.Gf
open Go Go.Gg
set_option maxRecDepth 100000
set_option linter.unusedVariables false
set_option linter.unusedSimpArgs false

/-! ### grapevine/grapevinelaw12.TreeOrigins: function 6 -/
noncomputable def grapevinelaw12_TreeOrigins_l0 (a2 : Int) (a3 : Int) (t14 : Int × T97) : Nat → (List Int) → Int → Option (List Int)
  | 0, _, _ => none
  | k + 1, y24, y25 => (if y25 < 8 then ((tree_Tree_Sum k t14.2 y25 a2 a3).bind fun t29 => (if y24.length + ([t29.1] : List Int).length ≤ 1073741824 then grapevinelaw12_TreeOrigins_l0 a2 a3 t14 k (y24 ++ ([t29.1] : List Int)) (IntKind.i64.wrap (y25 + 1)) else none)) else some y24)
noncomputable def grapevinelaw12_TreeOrigins_l1 (l0 : List T36) (t18 : Int) : Nat → Int → Int → T97 → Option (Int × T97)
  | 0, _, _, _ => none
  | k + 1, y44, y45, y46 => (if y45 < (l0.length : Int) then (if 0 ≤ y45 ∧ y45 < (l0.length : Int) then (if ((l0.getD y45.toNat z36).f0) = t18 then (if 0 ≤ y45 ∧ y45 < (l0.length : Int) then ((tree_Tree_Drop k y46 ([(⟨(l0.getD y45.toNat z36).f0, (l0.getD y45.toNat z36).f1⟩ : T32)] : List T32)).bind fun t56 => grapevinelaw12_TreeOrigins_l1 l0 t18 k (IntKind.i64.wrap (y44 + t56.1)) (IntKind.i64.wrap (y45 + 1)) t56.2) else none) else grapevinelaw12_TreeOrigins_l1 l0 t18 k y44 (IntKind.i64.wrap (y45 + 1)) y46) else none) else some (y44, y46))
noncomputable def grapevinelaw12_TreeOrigins_l2 (a2 : Int) (a3 : Int) (t18 : Int) (s22 : (List Int)) (s42 : Int × T97) : Nat → Int → Option (Sum Bool Unit)
  | 0, _ => none
  | k + 1, y63 => (if y63 < 8 then ((tree_Tree_Sum k s42.2 y63 a2 a3).bind fun t67 => ((if ¬ y63 = t18 then (if 0 ≤ y63 ∧ y63 < (s22.length : Int) then (if ¬ t67.1 = (s22.getD y63.toNat 0) then some true else (if y63 = t18 then some (t67.1 != 0) else some false)) else none) else (if y63 = t18 then some (t67.1 != 0) else some false)).bind fun s71 => (if s71 = true then some (Sum.inl false) else grapevinelaw12_TreeOrigins_l2 a2 a3 t18 s22 s42 k (IntKind.i64.wrap (y63 + 1))))) else some (Sum.inr ()))
noncomputable def grapevinelaw12_TreeOrigins (k : Nat) (l0 : List T36) (a1 : Int) (a2 : Int) (a3 : Int) : Option Bool := ((grapevinelaw0_GreatRecords k l0 20).bind fun t1 => (if t1 = true then ((grapevinelaw12_awake k ).bind fun t6 => some t6) else ((tree_New ).bind fun t10 => ((tree_Tree_Put k t10 l0).bind fun t14 => ((grapevinelaw0_Low a1 8).bind fun t18 => ((grapevinelaw12_TreeOrigins_l0 a2 a3 t14 k ([] : List Int) 0).bind fun s22 => ((tree_Tree_Len t14.2).bind fun t38 => ((grapevinelaw12_TreeOrigins_l1 l0 t18 k 0 0 t14.2).bind fun s42 => ((grapevinelaw12_TreeOrigins_l2 a2 a3 t18 s22 s42 k 0).bind fun os61 => match os61 with | Sum.inl r => some r | Sum.inr s61 => ((tree_Tree_Sum k s42.2 t18 0 0).bind fun t79 => ((if t79.2 = true then (if t79.1 = 0 then ((tree_Tree_Len s42.2).bind fun t87 => (if t87 = (IntKind.i64.wrap (t38 - s42.1)) then (if t38 > s42.1 then ((grapevinelaw12_awake k ).bind fun t93 => some t93) else ((tree_Tree_Root k s42.2).bind fun t97 => (if t97 = 0 then ((grapevinelaw12_awake k ).bind fun t102 => some t102) else some false))) else some false)) else some false) else some false).bind fun s83 => some s83)))))))))))
set_option maxHeartbeats 4000000 in
theorem grapevinelaw12_TreeOrigins_calls {B : World} {G : GMap} {Γ : List Chunk} {W : World} (HT : Tabs B G) (k : Nat) (l0 : List T36) (a1 : Int) (a2 : Int) (a3 : Int) (Al0 : Option Addr) (cl0 : Nat) (Hl0 : Rd k36 G Al0 cl0 l0) (r : Bool) (h : grapevinelaw12_TreeOrigins k l0 a1 a2 a3 = some r) (hI : Inv B G (Γ) W) :
    Calls Tryd.prog 6 [.slice Al0 l0.length cl0, .int .i64 a1, .int .i64 a2, .int .i64 a3].toArray W (Ret B (fun v G' Γ' => v = .bool r ∧ G = G' ∧ Γ = Γ')) := by
  refine calls_WP (Γ := Γ) (G := G) (B := B) Tryd.func6 rfl (by kernel_rfl) ?_ hI
  clear hI
  unfold grapevinelaw12_TreeOrigins at h
  refine WP.seqP [0, 1, 2, 3] (L' := [(0, .slice Al0 l0.length cl0), (1, .int .i64 a1), (2, .int .i64 a2), (3, .int .i64 a3)]) (by kernel_rfl) ?_
  refine WP.seq ?_
  refine WP.seqR ?_
  refine WL.pure 0 1 [0, 1, 2, 3, 22] (L' := [(0, .slice Al0 l0.length cl0), (1, .int .i64 a1), (2, .int .i64 a2), (3, .int .i64 a3), (22, .slice Al0 l0.length cl0)]) (by kernel_rfl) (by decide) ?_
  rw [Option.bind_eq_some_iff] at h
  obtain ⟨t1, ht2, h⟩ := h
  refine WL.op (op := .call { callee := (.value (.func 25)), args := #[(.tmp 22), (.const (.int .i64 20))], argTypes := #[28, 3] }) (ty := 4) (d := some 23) (g := none) (by kernel_rfl) (by kernel_rfl) (by kernel_rfl) (Does.call (f := 25) (args := [.slice Al0 l0.length cl0, .int .i64 20]) (by kernel_rfl) (fun W hI => (grapevinelaw0_GreatRecords_calls k l0 20 Al0 cl0 Hl0 t1 ht2 hI))) ?_
  rintro _ _ _ ⟨rfl, rfl, rfl⟩
  refine WL.restQ 2 [0, 1, 2, 3, 23] (L' := [(0, .slice Al0 l0.length cl0), (1, .int .i64 a1), (2, .int .i64 a2), (3, .int .i64 a3), (23, .bool t1)]) (by kernel_rfl) ?_
  refine WP.cond (b := t1) (by kernel_rfl) (fun hc => ?_) (fun hc => ?_)
  · replace hc := hc
    rw [if_pos hc] at h
    have hc5 := hc
    clear hc
    refine WP.seqR ?_
    rw [Option.bind_eq_some_iff] at h
    obtain ⟨t6, ht7, h⟩ := h
    refine WL.op (op := .call { callee := (.value (.func 13)), args := #[], argTypes := #[] }) (ty := 4) (d := some 24) (g := none) (by kernel_rfl) (by kernel_rfl) (by kernel_rfl) (Does.call (f := 13) (args := []) (by kernel_rfl) (fun W hI => (grapevinelaw12_awake_calls HT k   t6 ht7 hI))) ?_
    rintro _ _ _ ⟨rfl, rfl, rfl⟩
    refine WL.restQ 1 [8] (L' := [(8, .bool t6)]) (by kernel_rfl) ?_
    refine WP.ret ?_
    refine QP.thenR ?_
    obtain rfl := Option.some.inj h
    exact QP.returned [8] [.bool t6] _ (by kernel_rfl) (by kernel_rfl) (by kernel_rfl) (fun W hI => ⟨_, _, _, rfl, ⟨rfl, rfl, rfl⟩, hI⟩)
  · replace hc := (Bool.eq_false_iff.1 hc)
    rw [if_neg hc] at h
    have hc5 := hc
    clear hc
    refine WP.skip ?_
    refine QP.next ?_
    refine WP.pick [0, 1, 2, 3] ?_
    refine WP.seqR ?_
    rw [Option.bind_eq_some_iff] at h
    obtain ⟨t10, ht11, h⟩ := h
    refine WL.op (op := .call { callee := (.value (.func 14)), args := #[], argTypes := #[] }) (ty := 25) (d := some 25) (g := none) (by kernel_rfl) (by kernel_rfl) (by kernel_rfl) (Does.call (f := 14) (args := []) (by kernel_rfl) (fun W hI => (tree_New_calls   t10 ht11 hI))) ?_
    rintro _ _ _ ⟨bR12, AR12_0, cR12_0, CR12_0, AR12_1, cR12_1, CR12_1, rfl, HR12_0, HR12_1, rfl, rfl⟩
    refine WL.restQ 1 [0, 1, 2, 3, 9] (L' := [(0, .slice Al0 l0.length cl0), (1, .int .i64 a1), (2, .int .i64 a2), (3, .int .i64 a3), (9, .pointer (some ⟨bR12, 0, none⟩))]) (by kernel_rfl) ?_
    refine WP.seq ?_
    refine WP.seqP [0, 1, 2, 3, 9, 27] (L' := [(0, .slice Al0 l0.length cl0), (1, .int .i64 a1), (2, .int .i64 a2), (3, .int .i64 a3), (9, .pointer (some ⟨bR12, 0, none⟩)), (27, .bool false)]) (by kernel_rfl) ?_
    refine WP.no (by kernel_rfl) ?_
    refine WP.skip ?_
    refine QP.next ?_
    refine WP.pick [0, 1, 2, 3, 9] ?_
    refine WP.seqR ?_
    refine WL.pure 0 2 [0, 1, 2, 3, 9, 28, 29] (L' := [(0, .slice Al0 l0.length cl0), (1, .int .i64 a1), (2, .int .i64 a2), (3, .int .i64 a3), (9, .pointer (some ⟨bR12, 0, none⟩)), (28, .pointer (some ⟨bR12, 0, none⟩)), (29, .slice Al0 l0.length cl0)]) (by kernel_rfl) (by decide) ?_
    refine WL.front (i := 2) rfl ?_
    refine WL.front (i := 2) rfl ?_
    refine WL.front (i := 2) rfl ?_
    rw [Option.bind_eq_some_iff] at h
    obtain ⟨t14, ht15, h⟩ := h
    refine WL.op (op := .call { callee := (.value (.func 17)), args := #[(.tmp 28), (.tmp 29)], argTypes := #[25, 28] }) (ty := 3) (d := some 30) (g := none) (by kernel_rfl) (by kernel_rfl) (by kernel_rfl) (Does.call (f := 17) (args := [.pointer (some ⟨bR12, 0, none⟩), .slice Al0 l0.length cl0]) (by kernel_rfl) (fun W hI => (tree_Tree_Put_calls HT k t10 l0 bR12 AR12_0 cR12_0 CR12_0 HR12_0 AR12_1 cR12_1 CR12_1 HR12_1 Al0 cl0 Hl0 t14 ht15 hI))) ?_
    rintro _ _ _ ⟨AR16p0_0, cR16p0_0, CR16p0_0, AR16p0_1, cR16p0_1, CR16p0_1, rfl, HR16p0_0, HR16p0_1, rfl, rfl⟩
    refine WL.restQ 3 [0, 1, 2, 3, 9] (L' := [(0, .slice Al0 l0.length cl0), (1, .int .i64 a1), (2, .int .i64 a2), (3, .int .i64 a3), (9, .pointer (some ⟨bR12, 0, none⟩))]) (by kernel_rfl) ?_
    refine WP.seqR ?_
    refine WL.pure 0 1 [0, 1, 2, 3, 9, 31] (L' := [(0, .slice Al0 l0.length cl0), (1, .int .i64 a1), (2, .int .i64 a2), (3, .int .i64 a3), (9, .pointer (some ⟨bR12, 0, none⟩)), (31, .int .i64 a1)]) (by kernel_rfl) (by decide) ?_
    rw [Option.bind_eq_some_iff] at h
    obtain ⟨t18, ht19, h⟩ := h
    refine WL.op (op := .call { callee := (.value (.func 26)), args := #[(.tmp 31), (.const (.int .i64 8))], argTypes := #[3, 3] }) (ty := 3) (d := some 32) (g := none) (by kernel_rfl) (by kernel_rfl) (by kernel_rfl) (Does.call (f := 26) (args := [.int .i64 a1, .int .i64 8]) (by kernel_rfl) (fun W hI => (grapevinelaw0_Low_calls a1 8  t18 ht19 hI))) ?_
    rintro _ _ _ ⟨rfl, rfl, rfl⟩
    refine WL.restQ 2 [0, 1, 2, 3, 9] (L' := [(0, .slice Al0 l0.length cl0), (1, .int .i64 t18), (2, .int .i64 a2), (3, .int .i64 a3), (9, .pointer (some ⟨bR12, 0, none⟩))]) (by kernel_rfl) ?_
    refine WP.seqP [0, 1, 2, 3, 9, 10] (L' := [(0, .slice Al0 l0.length cl0), (1, .int .i64 t18), (2, .int .i64 a2), (3, .int .i64 a3), (9, .pointer (some ⟨bR12, 0, none⟩)), (10, .slice none 0 0)]) (by kernel_rfl) ?_
    refine WP.seq ?_
    refine WP.seqP [0, 1, 2, 3, 9, 10, 11] (L' := [(0, .slice Al0 l0.length cl0), (1, .int .i64 t18), (2, .int .i64 a2), (3, .int .i64 a3), (9, .pointer (some ⟨bR12, 0, none⟩)), (10, .slice none 0 0), (11, .int .i64 0)]) (by kernel_rfl) ?_
    rw [Option.bind_eq_some_iff] at h
    obtain ⟨os22, h, hk23⟩ := h
    refine WP.cutQ (fun L' G' Γ' => ∃ s22 : (List Int), s22 = os22 ∧ ∃ (As22 : Option Addr), ∃ (cs22 : Nat), ∃ (Cs22 : Chunk), L' = [(0, .slice Al0 l0.length cl0), (1, .int .i64 t18), (2, .int .i64 a2), (3, .int .i64 a3), (9, .pointer (some ⟨bR12, 0, none⟩)), (10, .slice As22 s22.length cs22)] ∧ G = G' ∧ Cs22 :: [(bR12, .cells #[mpv AR16p0_0, mpv AR16p0_1] 97 (0, 0))] :: CR16p0_0 :: CR16p0_1 :: Γ = Γ' ∧ Ow (kInt .u64) G As22 cs22 s22 Cs22) ?_ ?_
    · clear hk23
      refine WP.block ?_
      refine WP.addNil ?_
      refine WP.pick [0, 1, 2, 3, 9, 10, 11] ?_
      refine WP.loopF (fun kn26 L' G' Γ' => ∃ (y24 : List Int), ∃ (y25 : Int), grapevinelaw12_TreeOrigins_l0 a2 a3 t14 kn26 y24 y25 = some os22 ∧ ∃ (Ay24 : Option Addr), ∃ (cy24 : Nat), ∃ (Cy24 : Chunk), L' = [(0, .slice Al0 l0.length cl0), (1, .int .i64 t18), (2, .int .i64 a2), (3, .int .i64 a3), (9, .pointer (some ⟨bR12, 0, none⟩)), (10, .slice Ay24 y24.length cy24), (11, .int .i64 y25)] ∧ G = G' ∧ Cy24 :: [(bR12, .cells #[mpv AR16p0_0, mpv AR16p0_1] 97 (0, 0))] :: CR16p0_0 :: CR16p0_1 :: Γ = Γ' ∧ Ow (kInt .u64) G Ay24 cy24 y24 Cy24) ?_ k ⟨([] : List Int), 0, h, none, 0, [], rfl, rfl, rfl, (Ow.nil (kInt .u64) _)⟩
      clear h
      rintro kn27 _ _ _ ⟨y24, y25, h, Ay24, cy24, Cy24, rfl, rfl, rfl, Hy24⟩
      cases kn27 with
      | zero => exact absurd h (by simp [grapevinelaw12_TreeOrigins_l0])
      | succ kn27 =>
        simp only [grapevinelaw12_TreeOrigins_l0] at h
        refine WP.seq ?_
        refine WP.seqP [0, 1, 2, 3, 9, 10, 11, 34] (L' := [(0, .slice Al0 l0.length cl0), (1, .int .i64 t18), (2, .int .i64 a2), (3, .int .i64 a3), (9, .pointer (some ⟨bR12, 0, none⟩)), (10, .slice Ay24 y24.length cy24), (11, .int .i64 y25), (34, .bool (decide (y25 < 8)))]) (by kernel_rfl) ?_
        refine WP.cond (b := decide (y25 < 8)) (by kernel_rfl) (fun hc => ?_) (fun hc => ?_)
        · replace hc := of_decide_eq_true hc
          rw [if_pos hc] at h
          have hc28 := hc
          clear hc
          refine WP.skip ?_
          refine QP.next ?_
          refine WP.pick [0, 1, 2, 3, 9, 10, 11] ?_
          refine WP.seq ?_
          refine WP.block ?_
          refine WP.seqR ?_
          refine WL.pure 0 4 [0, 1, 2, 3, 9, 10, 11, 38, 39, 40, 41] (L' := [(0, .slice Al0 l0.length cl0), (1, .int .i64 t18), (2, .int .i64 a2), (3, .int .i64 a3), (9, .pointer (some ⟨bR12, 0, none⟩)), (10, .slice Ay24 y24.length cy24), (11, .int .i64 y25), (38, .pointer (some ⟨bR12, 0, none⟩)), (39, .int .i64 y25), (40, .int .i64 a2), (41, .int .i64 a3)]) (by kernel_rfl) (by decide) ?_
          refine WL.front (i := 3) rfl ?_
          refine WL.front (i := 3) rfl ?_
          refine WL.front (i := 3) rfl ?_
          rw [Option.bind_eq_some_iff] at h
          obtain ⟨t29, ht30, h⟩ := h
          refine WL.op (op := .call { callee := (.value (.func 19)), args := #[(.tmp 38), (.tmp 39), (.tmp 40), (.tmp 41)], argTypes := #[25, 3, 3, 3] }) (ty := 45) (d := some 42) (g := none) (by kernel_rfl) (by kernel_rfl) (by kernel_rfl) (Does.call (f := 19) (args := [.pointer (some ⟨bR12, 0, none⟩), .int .i64 y25, .int .i64 a2, .int .i64 a3]) (by kernel_rfl) (fun W hI => (tree_Tree_Sum_calls kn27 t14.2 y25 a2 a3 bR12 AR16p0_0 cR16p0_0 CR16p0_0 HR16p0_0 AR16p0_1 cR16p0_1 CR16p0_1 HR16p0_1 t29 ht30 hI))) ?_
          rintro _ _ _ ⟨rfl, rfl, rfl⟩
          refine WL.restQ 5 [0, 1, 2, 3, 9, 10, 11, 12] (L' := [(0, .slice Al0 l0.length cl0), (1, .int .i64 t18), (2, .int .i64 a2), (3, .int .i64 a3), (9, .pointer (some ⟨bR12, 0, none⟩)), (10, .slice Ay24 y24.length cy24), (11, .int .i64 y25), (12, .int .u64 t29.1)]) (by kernel_rfl) ?_
          refine WP.region ?_
          refine WL.pure 0 2 [0, 1, 2, 3, 9, 10, 11, 45, 46] (L' := [(0, .slice Al0 l0.length cl0), (1, .int .i64 t18), (2, .int .i64 a2), (3, .int .i64 a3), (9, .pointer (some ⟨bR12, 0, none⟩)), (10, .slice Ay24 y24.length cy24), (11, .int .i64 y25), (45, .slice Ay24 y24.length cy24), (46, .int .u64 t29.1)]) (by kernel_rfl) (by decide) ?_
          refine WL.op (op := .buildSlice 53 1 #[(0, (.tmp 46))]) (ty := 53) (d := some 47) (g := none) (by kernel_rfl) (by kernel_rfl) (by kernel_rfl) (Does.new (o := .cells #[.int .u64 t29.1] 44 (0, 0)) (v := fun r => .slice (some ⟨r, 0, none⟩) 1 1) (fun r => by kernel_rfl)) ?_
          rintro _ _ _ ⟨b33, rfl, rfl, rfl⟩
          have Ho35 : Ow (kInt .u64) G (some ⟨b33, 0, none⟩) 1 ([t29.1] : List Int) [(b33, .cells #[.int .u64 t29.1] 44 (0, 0))] := Ow.lit (kd := (kInt .u64)) (G := G) (b := b33) (T := 44) (xs := ([t29.1] : List Int)) (cs := [.int .u64 t29.1]) (.cons (x := t29.1) (cs := [.int .u64 t29.1]) (by exact rfl) .nil)
          by_cases hb36 : y24.length + ([t29.1] : List Int).length ≤ 1073741824
          case neg => rw [if_neg hb36] at h; cases h
          rw [if_pos hb36] at h
          refine WL.op (op := .call { callee := (.builtin .append), args := #[(.tmp 45), (.tmp 47)], argTypes := #[53, 53] }) (ty := 53) (d := some 48) (g := none) (by kernel_rfl) (by kernel_rfl) (by kernel_rfl) (Ow.append (ys := ([t29.1] : List Int)) (v := .slice (some ⟨b33, 0, none⟩) ([t29.1] : List Int).length 1) Hy24 (i := 4) rfl (by kernel_rfl) (by kernel_rfl) (Ho35.src (i := 0) rfl) sl53 ze44 nt53 (by decide) hb36) ?_
          rintro _ _ _ ⟨rfl, AN37, cN37, CN37, rfl, HN37, rfl⟩
          refine WL.rest 4 [0, 1, 2, 3, 9, 10, 11] (L' := [(0, .slice Al0 l0.length cl0), (1, .int .i64 t18), (2, .int .i64 a2), (3, .int .i64 a3), (9, .pointer (some ⟨bR12, 0, none⟩)), (10, .slice AN37 (y24 ++ ([t29.1] : List Int)).length cN37), (11, .int .i64 y25)]) (by kernel_rfl) ?_
          refine QP.blockN ?_
          refine QP.next ?_
          refine WP.pick [0, 1, 2, 3, 9, 10, 11] ?_
          refine WP.regionP [0, 1, 2, 3, 9, 10, 11] (L' := [(0, .slice Al0 l0.length cl0), (1, .int .i64 t18), (2, .int .i64 a2), (3, .int .i64 a3), (9, .pointer (some ⟨bR12, 0, none⟩)), (10, .slice AN37 (y24 ++ ([t29.1] : List Int)).length cN37), (11, .int .i64 (IntKind.i64.wrap (y25 + 1)))]) (by kernel_rfl) ?_
          refine QP.dropAt 0 ?_
          refine QP.front (i := 2) rfl ?_
          refine QP.front (i := 2) rfl ?_
          refine QP.front (i := 2) rfl ?_
          refine QP.front (i := 3) rfl ?_
          refine QP.pick [0, 1, 2, 3, 9, 10, 11] ?_
          exact QP.meet ⟨kn27, Nat.lt_succ_self _, (y24 ++ ([t29.1] : List Int)), (IntKind.i64.wrap (y25 + 1)), h, AN37, cN37, CN37, rfl, rfl, rfl, HN37⟩
        · replace hc := of_decide_eq_false hc
          rw [if_neg hc] at h
          have hc28 := hc
          clear hc
          refine WP.exit ?_
          refine QP.thenE ?_
          refine QP.thenE ?_
          refine QP.blockE ?_
          refine QP.pick [0, 1, 2, 3, 9, 10] ?_
          exact QP.meet ⟨_, Option.some.inj h, Ay24, cy24, Cy24, rfl, rfl, rfl, Hy24⟩
    · rintro _ _ _ ⟨s22, rfl, As22, cs22, Cs22, rfl, rfl, rfl, Hs22⟩
      clear h
      replace h := hk23
      refine QP.next ?_
      refine WP.pick [0, 1, 2, 3, 9, 10] ?_
      refine WP.seqR ?_
      refine WL.pure 0 1 [0, 1, 2, 3, 9, 10, 49] (L' := [(0, .slice Al0 l0.length cl0), (1, .int .i64 t18), (2, .int .i64 a2), (3, .int .i64 a3), (9, .pointer (some ⟨bR12, 0, none⟩)), (10, .slice As22 s22.length cs22), (49, .pointer (some ⟨bR12, 0, none⟩))]) (by kernel_rfl) (by decide) ?_
      refine WL.front (i := 3) rfl ?_
      refine WL.front (i := 3) rfl ?_
      refine WL.front (i := 3) rfl ?_
      rw [Option.bind_eq_some_iff] at h
      obtain ⟨t38, ht39, h⟩ := h
      refine WL.op (op := .call { callee := (.value (.func 21)), args := #[(.tmp 49)], argTypes := #[25] }) (ty := 3) (d := some 50) (g := none) (by kernel_rfl) (by kernel_rfl) (by kernel_rfl) (Does.call (f := 21) (args := [.pointer (some ⟨bR12, 0, none⟩)]) (by kernel_rfl) (fun W hI => (tree_Tree_Len_calls t14.2 bR12 AR16p0_0 cR16p0_0 CR16p0_0 HR16p0_0 AR16p0_1 cR16p0_1 CR16p0_1 HR16p0_1 t38 ht39 hI))) ?_
      rintro _ _ _ ⟨rfl, rfl, rfl⟩
      refine WL.restQ 2 [0, 1, 2, 3, 9, 10, 14] (L' := [(0, .slice Al0 l0.length cl0), (1, .int .i64 t18), (2, .int .i64 a2), (3, .int .i64 a3), (9, .pointer (some ⟨bR12, 0, none⟩)), (10, .slice As22 s22.length cs22), (14, .int .i64 t38)]) (by kernel_rfl) ?_
      refine WP.seqP [0, 1, 2, 3, 9, 10, 14, 15] (L' := [(0, .slice Al0 l0.length cl0), (1, .int .i64 t18), (2, .int .i64 a2), (3, .int .i64 a3), (9, .pointer (some ⟨bR12, 0, none⟩)), (10, .slice As22 s22.length cs22), (14, .int .i64 t38), (15, .int .i64 0)]) (by kernel_rfl) ?_
      refine WP.seq ?_
      refine WP.seqP [0, 1, 2, 3, 9, 10, 14, 15, 16] (L' := [(0, .slice Al0 l0.length cl0), (1, .int .i64 t18), (2, .int .i64 a2), (3, .int .i64 a3), (9, .pointer (some ⟨bR12, 0, none⟩)), (10, .slice As22 s22.length cs22), (14, .int .i64 t38), (15, .int .i64 0), (16, .int .i64 0)]) (by kernel_rfl) ?_
      rw [Option.bind_eq_some_iff] at h
      obtain ⟨os42, h, hk43⟩ := h
      refine WP.cutQ (fun L' G' Γ' => ∃ s42 : Int × T97, s42 = os42 ∧ ∃ (As42_2_f0 : Option Addr), ∃ (cs42_2_f0 : Nat), ∃ (Cs42_2_f0 : Chunk), ∃ (As42_2_f1 : Option Addr), ∃ (cs42_2_f1 : Nat), ∃ (Cs42_2_f1 : Chunk), L' = [(1, .int .i64 t18), (2, .int .i64 a2), (3, .int .i64 a3), (9, .pointer (some ⟨bR12, 0, none⟩)), (10, .slice As22 s22.length cs22), (14, .int .i64 t38), (15, .int .i64 s42.1)] ∧ G = G' ∧ [(bR12, .cells #[mpv As42_2_f0, mpv As42_2_f1] 97 (0, 0))] :: Cs42_2_f0 :: Cs42_2_f1 :: Cs22 :: Γ = Γ' ∧ MpO m94 G As42_2_f0 cs42_2_f0 s42.2.f0 Cs42_2_f0 ∧ MpO m95 G As42_2_f1 cs42_2_f1 s42.2.f1 Cs42_2_f1) ?_ ?_
      · clear hk43
        refine WP.block ?_
        refine WP.pick [0, 1, 2, 3, 9, 10, 14, 15, 16] ?_
        refine WP.loopF (fun kn47 L' G' Γ' => ∃ (y44 : Int), ∃ (y45 : Int), ∃ (y46 : T97), grapevinelaw12_TreeOrigins_l1 l0 t18 kn47 y44 y45 y46 = some os42 ∧ ∃ (Ay46_f0 : Option Addr), ∃ (cy46_f0 : Nat), ∃ (Cy46_f0 : Chunk), ∃ (Ay46_f1 : Option Addr), ∃ (cy46_f1 : Nat), ∃ (Cy46_f1 : Chunk), L' = [(0, .slice Al0 l0.length cl0), (1, .int .i64 t18), (2, .int .i64 a2), (3, .int .i64 a3), (9, .pointer (some ⟨bR12, 0, none⟩)), (10, .slice As22 s22.length cs22), (14, .int .i64 t38), (15, .int .i64 y44), (16, .int .i64 y45)] ∧ G = G' ∧ [(bR12, .cells #[mpv Ay46_f0, mpv Ay46_f1] 97 (0, 0))] :: Cy46_f0 :: Cy46_f1 :: Cs22 :: Γ = Γ' ∧ MpO m94 G Ay46_f0 cy46_f0 y46.f0 Cy46_f0 ∧ MpO m95 G Ay46_f1 cy46_f1 y46.f1 Cy46_f1) ?_ k ⟨0, 0, t14.2, h, AR16p0_0, cR16p0_0, CR16p0_0, AR16p0_1, cR16p0_1, CR16p0_1, rfl, rfl, rfl, HR16p0_0, HR16p0_1⟩
        clear h
        rintro kn48 _ _ _ ⟨y44, y45, y46, h, Ay46_f0, cy46_f0, Cy46_f0, Ay46_f1, cy46_f1, Cy46_f1, rfl, rfl, rfl, Hy46_f0, Hy46_f1⟩
        cases kn48 with
        | zero => exact absurd h (by simp [grapevinelaw12_TreeOrigins_l1])
        | succ kn48 =>
          simp only [grapevinelaw12_TreeOrigins_l1] at h
          refine WP.seq ?_
          refine WP.seqP [0, 1, 2, 3, 9, 10, 14, 15, 16, 54] (L' := [(0, .slice Al0 l0.length cl0), (1, .int .i64 t18), (2, .int .i64 a2), (3, .int .i64 a3), (9, .pointer (some ⟨bR12, 0, none⟩)), (10, .slice As22 s22.length cs22), (14, .int .i64 t38), (15, .int .i64 y44), (16, .int .i64 y45), (54, .bool (decide (y45 < (l0.length : Int))))]) (by kernel_rfl) ?_
          refine WP.cond (b := decide (y45 < (l0.length : Int))) (by kernel_rfl) (fun hc => ?_) (fun hc => ?_)
          · replace hc := of_decide_eq_true hc
            rw [if_pos hc] at h
            have hc49 := hc
            clear hc
            refine WP.skip ?_
            refine QP.next ?_
            refine WP.pick [0, 1, 2, 3, 9, 10, 14, 15, 16] ?_
            refine WP.seq ?_
            refine WP.block ?_
            refine WP.seqR ?_
            refine WL.pure 0 2 [0, 1, 2, 3, 9, 10, 14, 15, 16, 57, 58] (L' := [(0, .slice Al0 l0.length cl0), (1, .int .i64 t18), (2, .int .i64 a2), (3, .int .i64 a3), (9, .pointer (some ⟨bR12, 0, none⟩)), (10, .slice As22 s22.length cs22), (14, .int .i64 t38), (15, .int .i64 y44), (16, .int .i64 y45), (57, .slice Al0 l0.length cl0), (58, .int .i64 y45)]) (by kernel_rfl) (by decide) ?_
            by_cases hb50 : 0 ≤ y45 ∧ y45 < (l0.length : Int)
            case neg => rw [if_neg hb50] at h; cases h
            rw [if_pos hb50] at h
            refine WL.tell (op := .indexAddr 28 (.tmp 57) (.tmp 58)) (ty := 0) (d := some 59) (g := none) (by kernel_rfl) (by kernel_rfl) (by kernel_rfl) (Tells.indexAddr (A := Al0) (n := l0.length) (c := cl0) (k := .i64) (j := y45) (by kernel_rfl) (by kernel_rfl) (Hl0.isSome hb50.1 hb50.2) hb50.1 hb50.2 sl28) ?_
            refine WL.tell (op := .fieldAddr 36 (.tmp 59) 0) (ty := 0) (d := some 60) (g := none) (by kernel_rfl) (by kernel_rfl) (by kernel_rfl) (Tells.fieldElem (m := y45.toNat * 5) (A := Al0) (by kernel_rfl) (Hl0.isSome hb50.1 hb50.2) fi36_0) ?_
            refine WL.tell (op := .fieldAddr 32 (.tmp 60) 0) (ty := 0) (d := some 61) (g := none) (by kernel_rfl) (by kernel_rfl) (by kernel_rfl) (Tells.fieldElem (m := y45.toNat * 5 + 0) (A := Al0) (by kernel_rfl) (Hl0.isSome hb50.1 hb50.2) fi32_0) ?_
            refine WL.tellE (op := .load 3 (.tmp 61)) (ty := 3) (d := some 62) (g := none) (by kernel_rfl) (by kernel_rfl) (by kernel_rfl) (Hl0.loadF (agg := false) (off := 0) hb50.1 hb50.2 z36 ag3 (fun _ => rfl) (by decide) (by kernel_rfl)) ?_
            rintro _ rfl
            refine WL.restQ 6 [0, 1, 2, 3, 9, 10, 14, 15, 16, 64] (L' := [(0, .slice Al0 l0.length cl0), (1, .int .i64 t18), (2, .int .i64 a2), (3, .int .i64 a3), (9, .pointer (some ⟨bR12, 0, none⟩)), (10, .slice As22 s22.length cs22), (14, .int .i64 t38), (15, .int .i64 y44), (16, .int .i64 y45), (64, .bool (((l0.getD y45.toNat z36).f0) == t18))]) (by kernel_rfl) ?_
            refine WP.cond (b := (((l0.getD y45.toNat z36).f0) == t18)) (by kernel_rfl) (fun hc => ?_) (fun hc => ?_)
            · replace hc := eq_of_beq hc
              rw [if_pos hc] at h
              have hc51 := hc
              clear hc
              refine WP.region ?_
              refine WL.pure 0 4 [0, 1, 2, 3, 9, 10, 14, 15, 16, 65, 66, 67, 68] (L' := [(0, .slice Al0 l0.length cl0), (1, .int .i64 t18), (2, .int .i64 a2), (3, .int .i64 a3), (9, .pointer (some ⟨bR12, 0, none⟩)), (10, .slice As22 s22.length cs22), (14, .int .i64 t38), (15, .int .i64 y44), (16, .int .i64 y45), (65, .int .i64 y44), (66, .pointer (some ⟨bR12, 0, none⟩)), (67, .slice Al0 l0.length cl0), (68, .int .i64 y45)]) (by kernel_rfl) (by decide) ?_
              by_cases hb52 : 0 ≤ y45 ∧ y45 < (l0.length : Int)
              case neg => rw [if_neg hb52] at h; cases h
              rw [if_pos hb52] at h
              refine WL.tell (op := .indexAddr 28 (.tmp 67) (.tmp 68)) (ty := 0) (d := some 69) (g := none) (by kernel_rfl) (by kernel_rfl) (by kernel_rfl) (Tells.indexAddr (A := Al0) (n := l0.length) (c := cl0) (k := .i64) (j := y45) (by kernel_rfl) (by kernel_rfl) (Hl0.isSome hb52.1 hb52.2) hb52.1 hb52.2 sl28) ?_
              refine WL.tell (op := .fieldAddr 36 (.tmp 69) 0) (ty := 0) (d := some 70) (g := none) (by kernel_rfl) (by kernel_rfl) (by kernel_rfl) (Tells.fieldElem (m := y45.toNat * 5) (A := Al0) (by kernel_rfl) (Hl0.isSome hb52.1 hb52.2) fi36_0) ?_
              refine WL.tellE (op := .load 32 (.tmp 70)) (ty := 32) (d := some 71) (g := none) (by kernel_rfl) (by kernel_rfl) (by kernel_rfl) (Hl0.loadF (agg := true) (off := 0) hb52.1 hb52.2 z36 ag32 (fun h => by cases h) (by decide) (by kernel_rfl)) ?_
              rintro _ rfl
              refine WL.op (op := .buildSlice 41 1 #[(0, (.tmp 71))]) (ty := 41) (d := some 72) (g := none) (by kernel_rfl) (by kernel_rfl) (by kernel_rfl) (Does.new (o := .cells #[.int .i64 ((l0.getD y45.toNat z36).f0), .int .i64 ((l0.getD y45.toNat z36).f1)] 32 (0, 0)) (v := fun r => .slice (some ⟨r, 0, none⟩) 1 1) (fun r => by kernel_rfl)) ?_
              rintro _ _ _ ⟨b53, rfl, rfl, rfl⟩
              have Ho55 : Ow k32 G (some ⟨b53, 0, none⟩) 1 ([(⟨(l0.getD y45.toNat z36).f0, (l0.getD y45.toNat z36).f1⟩ : T32)] : List T32) [(b53, .cells #[.int .i64 ((l0.getD y45.toNat z36).f0), .int .i64 ((l0.getD y45.toNat z36).f1)] 32 (0, 0))] := Ow.lit (kd := k32) (G := G) (b := b53) (T := 32) (xs := ([(⟨(l0.getD y45.toNat z36).f0, (l0.getD y45.toNat z36).f1⟩ : T32)] : List T32)) (cs := [.int .i64 ((l0.getD y45.toNat z36).f0), .int .i64 ((l0.getD y45.toNat z36).f1)]) (.cons (x := (⟨(l0.getD y45.toNat z36).f0, (l0.getD y45.toNat z36).f1⟩ : T32)) (cs := [.int .i64 ((l0.getD y45.toNat z36).f0), .int .i64 ((l0.getD y45.toNat z36).f1)]) (by exact rfl) .nil)
              refine WL.front (i := 3) rfl ?_
              refine WL.front (i := 3) rfl ?_
              refine WL.front (i := 3) rfl ?_
              rw [Option.bind_eq_some_iff] at h
              obtain ⟨t56, ht57, h⟩ := h
              refine WL.op (op := .call { callee := (.value (.func 15)), args := #[(.tmp 66), (.tmp 72)], argTypes := #[25, 41] }) (ty := 3) (d := some 73) (g := none) (by kernel_rfl) (by kernel_rfl) (by kernel_rfl) (Does.call (Φ := fun v' G' Γ' => ∃ (AR58p0_0 : Option Addr), ∃ (cR58p0_0 : Nat), ∃ (CR58p0_0 : Chunk), ∃ (AR58p0_1 : Option Addr), ∃ (cR58p0_1 : Nat), ∃ (CR58p0_1 : Chunk), v' = .int .i64 t56.1 ∧ MpO m94 G AR58p0_0 cR58p0_0 t56.2.f0 CR58p0_0 ∧ MpO m95 G AR58p0_1 cR58p0_1 t56.2.f1 CR58p0_1 ∧ G = G' ∧ [(bR12, .cells #[mpv AR58p0_0, mpv AR58p0_1] 97 (0, 0))] :: CR58p0_0 :: CR58p0_1 :: [(b53, .cells #[.int .i64 ((l0.getD y45.toNat z36).f0), .int .i64 ((l0.getD y45.toNat z36).f1)] 32 (0, 0))] :: Cs22 :: Γ = Γ') (f := 15) (args := [.pointer (some ⟨bR12, 0, none⟩), .slice (some ⟨b53, 0, none⟩) ([(⟨(l0.getD y45.toNat z36).f0, (l0.getD y45.toNat z36).f1⟩ : T32)] : List T32).length 1]) (by kernel_rfl) (fun W hI => (Calls.lendN (Φ := fun v' N => ∃ (AR58p0_0 : Option Addr), ∃ (cR58p0_0 : Nat), ∃ (CR58p0_0 : Chunk), ∃ (AR58p0_1 : Option Addr), ∃ (cR58p0_1 : Nat), ∃ (CR58p0_1 : Chunk), v' = .int .i64 t56.1 ∧ MpO m94 G AR58p0_0 cR58p0_0 t56.2.f0 CR58p0_0 ∧ MpO m95 G AR58p0_1 cR58p0_1 t56.2.f1 CR58p0_1 ∧ N = [[(bR12, .cells #[mpv AR58p0_0, mpv AR58p0_1] 97 (0, 0))], CR58p0_0, CR58p0_1]) (H := [[(bR12, .cells #[mpv Ay46_f0, mpv Ay46_f1] 97 (0, 0))], Cy46_f0, Cy46_f1]) (i := 0) rfl hI (fun _ e l60 nl60 hI => by subst e; exact (((tree_Tree_Drop_calls kn48 y46 ([(⟨(l0.getD y45.toNat z36).f0, (l0.getD y45.toNat z36).f1⟩ : T32)] : List T32) bR12 Ay46_f0 cy46_f0 Cy46_f0 (Hy46_f0.mono l60) Ay46_f1 cy46_f1 Cy46_f1 (Hy46_f1.mono l60) (some ⟨b53, 0, none⟩) 1 (Ho55.rdN l60 nl60) t56 ht57 hI)).mono fun _ _ hr => by obtain ⟨_, _, _, rfl, hd, hI⟩ := hr; obtain ⟨AR58p0_0, cR58p0_0, CR58p0_0, AR58p0_1, cR58p0_1, CR58p0_1, rfl, HR58p0_0, HR58p0_1, rfl, rfl⟩ := hd; exact ⟨_, _, _, rfl, ⟨[[(bR12, .cells #[mpv AR58p0_0, mpv AR58p0_1] 97 (0, 0))], CR58p0_0, CR58p0_1], ⟨AR58p0_0, cR58p0_0, CR58p0_0, AR58p0_1, cR58p0_1, CR58p0_1, rfl, (HR58p0_0.flat ()), (HR58p0_1.flat ()), rfl⟩, rfl, rfl⟩, hI⟩))).mono fun _ _ hr => by obtain ⟨_, _, _, rfl, ⟨_, hd, rfl, rfl⟩, hI⟩ := hr; obtain ⟨AR58p0_0, cR58p0_0, CR58p0_0, AR58p0_1, cR58p0_1, CR58p0_1, rfl, HR58p0_0, HR58p0_1, rfl⟩ := hd; exact ⟨_, _, _, rfl, ⟨AR58p0_0, cR58p0_0, CR58p0_0, AR58p0_1, cR58p0_1, CR58p0_1, rfl, HR58p0_0, HR58p0_1, rfl, rfl⟩, hI⟩)) ?_
              rintro _ _ _ ⟨AR58p0_0, cR58p0_0, CR58p0_0, AR58p0_1, cR58p0_1, CR58p0_1, rfl, HR58p0_0, HR58p0_1, rfl, rfl⟩
              refine WL.rest 9 [0, 1, 2, 3, 9, 10, 14, 15, 16] (L' := [(0, .slice Al0 l0.length cl0), (1, .int .i64 t18), (2, .int .i64 a2), (3, .int .i64 a3), (9, .pointer (some ⟨bR12, 0, none⟩)), (10, .slice As22 s22.length cs22), (14, .int .i64 t38), (15, .int .i64 (IntKind.i64.wrap (y44 + t56.1))), (16, .int .i64 y45)]) (by kernel_rfl) ?_
              refine QP.blockN ?_
              refine QP.next ?_
              refine WP.pick [0, 1, 2, 3, 9, 10, 14, 15, 16] ?_
              refine WP.regionP [0, 1, 2, 3, 9, 10, 14, 15, 16] (L' := [(0, .slice Al0 l0.length cl0), (1, .int .i64 t18), (2, .int .i64 a2), (3, .int .i64 a3), (9, .pointer (some ⟨bR12, 0, none⟩)), (10, .slice As22 s22.length cs22), (14, .int .i64 t38), (15, .int .i64 (IntKind.i64.wrap (y44 + t56.1))), (16, .int .i64 (IntKind.i64.wrap (y45 + 1)))]) (by kernel_rfl) ?_
              refine QP.dropAt 3 ?_
              refine QP.front (i := 3) rfl ?_
              refine QP.front (i := 3) rfl ?_
              refine QP.front (i := 3) rfl ?_
              refine QP.front (i := 3) rfl ?_
              refine QP.pick [0, 1, 2, 3, 9, 10, 14, 15, 16] ?_
              exact QP.meet ⟨kn48, Nat.lt_succ_self _, (IntKind.i64.wrap (y44 + t56.1)), (IntKind.i64.wrap (y45 + 1)), t56.2, h, AR58p0_0, cR58p0_0, CR58p0_0, AR58p0_1, cR58p0_1, CR58p0_1, rfl, rfl, rfl, HR58p0_0, HR58p0_1⟩
            · replace hc := ne_of_beq_false hc
              rw [if_neg hc] at h
              have hc51 := hc
              clear hc
              refine WP.skip ?_
              refine QP.blockN ?_
              refine QP.next ?_
              refine WP.pick [0, 1, 2, 3, 9, 10, 14, 15, 16] ?_
              refine WP.regionP [0, 1, 2, 3, 9, 10, 14, 15, 16] (L' := [(0, .slice Al0 l0.length cl0), (1, .int .i64 t18), (2, .int .i64 a2), (3, .int .i64 a3), (9, .pointer (some ⟨bR12, 0, none⟩)), (10, .slice As22 s22.length cs22), (14, .int .i64 t38), (15, .int .i64 y44), (16, .int .i64 (IntKind.i64.wrap (y45 + 1)))]) (by kernel_rfl) ?_
              refine QP.front (i := 3) rfl ?_
              refine QP.front (i := 3) rfl ?_
              refine QP.front (i := 3) rfl ?_
              refine QP.front (i := 3) rfl ?_
              refine QP.pick [0, 1, 2, 3, 9, 10, 14, 15, 16] ?_
              exact QP.meet ⟨kn48, Nat.lt_succ_self _, y44, (IntKind.i64.wrap (y45 + 1)), y46, h, Ay46_f0, cy46_f0, Cy46_f0, Ay46_f1, cy46_f1, Cy46_f1, rfl, rfl, rfl, Hy46_f0, Hy46_f1⟩
          · replace hc := of_decide_eq_false hc
            rw [if_neg hc] at h
            have hc49 := hc
            clear hc
            refine WP.exit ?_
            refine QP.thenE ?_
            refine QP.thenE ?_
            refine QP.blockE ?_
            refine QP.pick [1, 2, 3, 9, 10, 14, 15] ?_
            exact QP.meet ⟨_, Option.some.inj h, Ay46_f0, cy46_f0, Cy46_f0, Ay46_f1, cy46_f1, Cy46_f1, rfl, rfl, rfl, Hy46_f0, Hy46_f1⟩
      · rintro _ _ _ ⟨s42, rfl, As42_2_f0, cs42_2_f0, Cs42_2_f0, As42_2_f1, cs42_2_f1, Cs42_2_f1, rfl, rfl, rfl, Hs42_2_f0, Hs42_2_f1⟩
        clear h
        replace h := hk43
        refine QP.next ?_
        refine WP.pick [1, 2, 3, 9, 10, 14, 15] ?_
        refine WP.seq ?_
        refine WP.seqP [1, 2, 3, 9, 10, 14, 15, 17] (L' := [(1, .int .i64 t18), (2, .int .i64 a2), (3, .int .i64 a3), (9, .pointer (some ⟨bR12, 0, none⟩)), (10, .slice As22 s22.length cs22), (14, .int .i64 t38), (15, .int .i64 s42.1), (17, .int .i64 0)]) (by kernel_rfl) ?_
        rw [Option.bind_eq_some_iff] at h
        obtain ⟨os61, h, hk62⟩ := h
        refine WP.cutQ (fun L' G' Γ' => ∃ s61 : Unit, Sum.inr s61 = os61 ∧ L' = [(1, .int .i64 t18), (9, .pointer (some ⟨bR12, 0, none⟩)), (14, .int .i64 t38), (15, .int .i64 s42.1)] ∧ G = G' ∧ [(bR12, .cells #[mpv As42_2_f0, mpv As42_2_f1] 97 (0, 0))] :: Cs42_2_f0 :: Cs42_2_f1 :: Γ = Γ') ?_ ?_
        · skip
          refine WP.block ?_
          refine WP.pick [1, 2, 3, 9, 10, 14, 15, 17] ?_
          refine WP.loopF (fun kn64 L' G' Γ' => ∃ (y63 : Int), grapevinelaw12_TreeOrigins_l2 a2 a3 t18 s22 s42 kn64 y63 = some os61 ∧ L' = [(1, .int .i64 t18), (2, .int .i64 a2), (3, .int .i64 a3), (9, .pointer (some ⟨bR12, 0, none⟩)), (10, .slice As22 s22.length cs22), (14, .int .i64 t38), (15, .int .i64 s42.1), (17, .int .i64 y63)] ∧ G = G' ∧ [(bR12, .cells #[mpv As42_2_f0, mpv As42_2_f1] 97 (0, 0))] :: Cs42_2_f0 :: Cs42_2_f1 :: Cs22 :: Γ = Γ') ?_ k ⟨0, h, rfl, rfl, rfl⟩
          clear h
          rintro kn65 _ _ _ ⟨y63, h, rfl, rfl, rfl⟩
          cases kn65 with
          | zero => exact absurd h (by simp [grapevinelaw12_TreeOrigins_l2])
          | succ kn65 =>
            simp only [grapevinelaw12_TreeOrigins_l2] at h
            refine WP.seq ?_
            refine WP.seqP [1, 2, 3, 9, 10, 14, 15, 17, 76] (L' := [(1, .int .i64 t18), (2, .int .i64 a2), (3, .int .i64 a3), (9, .pointer (some ⟨bR12, 0, none⟩)), (10, .slice As22 s22.length cs22), (14, .int .i64 t38), (15, .int .i64 s42.1), (17, .int .i64 y63), (76, .bool (decide (y63 < 8)))]) (by kernel_rfl) ?_
            refine WP.cond (b := decide (y63 < 8)) (by kernel_rfl) (fun hc => ?_) (fun hc => ?_)
            · replace hc := of_decide_eq_true hc
              rw [if_pos hc] at h
              have hc66 := hc
              clear hc
              refine WP.skip ?_
              refine QP.next ?_
              refine WP.pick [1, 2, 3, 9, 10, 14, 15, 17] ?_
              refine WP.seq ?_
              refine WP.block ?_
              refine WP.seqR ?_
              refine WL.pure 0 4 [1, 2, 3, 9, 10, 14, 15, 17, 80, 81, 82, 83] (L' := [(1, .int .i64 t18), (2, .int .i64 a2), (3, .int .i64 a3), (9, .pointer (some ⟨bR12, 0, none⟩)), (10, .slice As22 s22.length cs22), (14, .int .i64 t38), (15, .int .i64 s42.1), (17, .int .i64 y63), (80, .pointer (some ⟨bR12, 0, none⟩)), (81, .int .i64 y63), (82, .int .i64 a2), (83, .int .i64 a3)]) (by kernel_rfl) (by decide) ?_
              refine WL.front (i := 2) rfl ?_
              refine WL.front (i := 2) rfl ?_
              refine WL.front (i := 2) rfl ?_
              rw [Option.bind_eq_some_iff] at h
              obtain ⟨t67, ht68, h⟩ := h
              refine WL.op (op := .call { callee := (.value (.func 19)), args := #[(.tmp 80), (.tmp 81), (.tmp 82), (.tmp 83)], argTypes := #[25, 3, 3, 3] }) (ty := 45) (d := some 84) (g := none) (by kernel_rfl) (by kernel_rfl) (by kernel_rfl) (Does.call (f := 19) (args := [.pointer (some ⟨bR12, 0, none⟩), .int .i64 y63, .int .i64 a2, .int .i64 a3]) (by kernel_rfl) (fun W hI => (tree_Tree_Sum_calls kn65 s42.2 y63 a2 a3 bR12 As42_2_f0 cs42_2_f0 Cs42_2_f0 Hs42_2_f0 As42_2_f1 cs42_2_f1 Cs42_2_f1 Hs42_2_f1 t67 ht68 hI))) ?_
              rintro _ _ _ ⟨rfl, rfl, rfl⟩
              refine WL.restQ 5 [1, 2, 3, 9, 10, 14, 15, 17, 18] (L' := [(1, .int .i64 t18), (2, .int .i64 a2), (3, .int .i64 a3), (9, .pointer (some ⟨bR12, 0, none⟩)), (10, .slice As22 s22.length cs22), (14, .int .i64 t38), (15, .int .i64 s42.1), (17, .int .i64 y63), (18, .int .u64 t67.1)]) (by kernel_rfl) ?_
              rw [Option.bind_eq_some_iff] at h
              obtain ⟨os71, h, hk72⟩ := h
              refine WP.cut (fun L' G' Γ' => ∃ s71 : Bool, s71 = os71 ∧ L' = [(1, .int .i64 t18), (2, .int .i64 a2), (3, .int .i64 a3), (9, .pointer (some ⟨bR12, 0, none⟩)), (10, .slice As22 s22.length cs22), (14, .int .i64 t38), (15, .int .i64 s42.1), (17, .int .i64 y63), (106, .bool s71)] ∧ G = G' ∧ [(bR12, .cells #[mpv As42_2_f0, mpv As42_2_f1] 97 (0, 0))] :: Cs42_2_f0 :: Cs42_2_f1 :: Cs22 :: Γ = Γ') ?_ ?_
              · clear hk72
                refine WP.region ?_
                refine WL.pure 0 4 [1, 2, 3, 9, 10, 14, 15, 17, 18, 90] (L' := [(1, .int .i64 t18), (2, .int .i64 a2), (3, .int .i64 a3), (9, .pointer (some ⟨bR12, 0, none⟩)), (10, .slice As22 s22.length cs22), (14, .int .i64 t38), (15, .int .i64 s42.1), (17, .int .i64 y63), (18, .int .u64 t67.1), (90, .bool (y63 != t18))]) (by kernel_rfl) (by decide) ?_
                refine WL.split 90 (b := (y63 != t18)) (by kernel_rfl) (fun hc => ?_) (fun hc => ?_)
                · replace hc := (bne_iff_ne.1 hc)
                  rw [if_pos hc] at h
                  have hc73 := hc
                  clear hc
                  refine WL.pure 4 7 [1, 2, 3, 9, 10, 14, 15, 17, 18, 90, 91, 92, 93] (L' := [(1, .int .i64 t18), (2, .int .i64 a2), (3, .int .i64 a3), (9, .pointer (some ⟨bR12, 0, none⟩)), (10, .slice As22 s22.length cs22), (14, .int .i64 t38), (15, .int .i64 s42.1), (17, .int .i64 y63), (18, .int .u64 t67.1), (90, .bool true), (91, .int .u64 t67.1), (92, .slice As22 s22.length cs22), (93, .int .i64 y63)]) (by kernel_rfl) (by decide) ?_
                  by_cases hb74 : 0 ≤ y63 ∧ y63 < (s22.length : Int)
                  case neg => rw [if_neg hb74] at h; cases h
                  rw [if_pos hb74] at h
                  refine WL.tell (op := .indexAddr 53 (.tmp 92) (.tmp 93)) (ty := 0) (d := some 94) (g := some (3, true)) (by kernel_rfl) (by kernel_rfl) (by kernel_rfl) (Tells.indexAddr (A := As22) (n := s22.length) (c := cs22) (k := .i64) (j := y63) (by kernel_rfl) (by kernel_rfl) (Hs22.isSome hb74.1 hb74.2) hb74.1 hb74.2 sl53) ?_
                  refine WL.tellE (op := .load 44 (.tmp 94)) (ty := 44) (d := some 95) (g := some (3, true)) (by kernel_rfl) (by kernel_rfl) (by kernel_rfl) (Hs22.load (i := 3) rfl (agg := false) hb74.1 hb74.2 0 ag44 (fun _ => rfl) (by kernel_rfl)) ?_
                  rintro _ rfl
                  refine WL.pure 9 12 [1, 2, 3, 9, 10, 14, 15, 17, 18, 98] (L' := [(1, .int .i64 t18), (2, .int .i64 a2), (3, .int .i64 a3), (9, .pointer (some ⟨bR12, 0, none⟩)), (10, .slice As22 s22.length cs22), (14, .int .i64 t38), (15, .int .i64 s42.1), (17, .int .i64 y63), (18, .int .u64 t67.1), (98, .bool (t67.1 != (s22.getD y63.toNat 0)))]) (by kernel_rfl) (by decide) ?_
                  refine WL.split 98 (b := (t67.1 != (s22.getD y63.toNat 0))) (by kernel_rfl) (fun hc => ?_) (fun hc => ?_)
                  · replace hc := (bne_iff_ne.1 hc)
                    rw [if_pos hc] at h
                    have hc75 := hc
                    clear hc
                    refine WL.rest 12 [1, 2, 3, 9, 10, 14, 15, 17, 106] (L' := [(1, .int .i64 t18), (2, .int .i64 a2), (3, .int .i64 a3), (9, .pointer (some ⟨bR12, 0, none⟩)), (10, .slice As22 s22.length cs22), (14, .int .i64 t38), (15, .int .i64 s42.1), (17, .int .i64 y63), (106, .bool true)]) (by kernel_rfl) ?_
                    refine QP.pick [1, 2, 3, 9, 10, 14, 15, 17, 106] ?_
                    exact QP.meet ⟨_, Option.some.inj h, rfl, rfl, rfl⟩
                  · replace hc := (not_not_intro (bne_eq_false_iff_eq.1 hc))
                    rw [if_neg hc] at h
                    have hc75 := hc
                    clear hc
                    refine WL.pure 12 16 [1, 2, 3, 9, 10, 14, 15, 17, 18, 98, 102] (L' := [(1, .int .i64 t18), (2, .int .i64 a2), (3, .int .i64 a3), (9, .pointer (some ⟨bR12, 0, none⟩)), (10, .slice As22 s22.length cs22), (14, .int .i64 t38), (15, .int .i64 s42.1), (17, .int .i64 y63), (18, .int .u64 t67.1), (98, .bool false), (102, .bool (y63 == t18))]) (by kernel_rfl) (by decide) ?_
                    refine WL.split 102 (b := (y63 == t18)) (by kernel_rfl) (fun hc => ?_) (fun hc => ?_)
                    · replace hc := eq_of_beq hc
                      rw [if_pos hc] at h
                      have hc76 := hc
                      clear hc
                      refine WL.rest 16 [1, 2, 3, 9, 10, 14, 15, 17, 106] (L' := [(1, .int .i64 t18), (2, .int .i64 a2), (3, .int .i64 a3), (9, .pointer (some ⟨bR12, 0, none⟩)), (10, .slice As22 s22.length cs22), (14, .int .i64 t38), (15, .int .i64 s42.1), (17, .int .i64 y63), (106, .bool (t67.1 != 0))]) (by kernel_rfl) ?_
                      refine QP.pick [1, 2, 3, 9, 10, 14, 15, 17, 106] ?_
                      exact QP.meet ⟨_, Option.some.inj h, rfl, rfl, rfl⟩
                    · replace hc := ne_of_beq_false hc
                      rw [if_neg hc] at h
                      have hc76 := hc
                      clear hc
                      refine WL.rest 16 [1, 2, 3, 9, 10, 14, 15, 17, 106] (L' := [(1, .int .i64 t18), (2, .int .i64 a2), (3, .int .i64 a3), (9, .pointer (some ⟨bR12, 0, none⟩)), (10, .slice As22 s22.length cs22), (14, .int .i64 t38), (15, .int .i64 s42.1), (17, .int .i64 y63), (106, .bool false)]) (by kernel_rfl) ?_
                      refine QP.pick [1, 2, 3, 9, 10, 14, 15, 17, 106] ?_
                      exact QP.meet ⟨_, Option.some.inj h, rfl, rfl, rfl⟩
                · replace hc := (not_not_intro (bne_eq_false_iff_eq.1 hc))
                  rw [if_neg hc] at h
                  have hc73 := hc
                  clear hc
                  refine WL.pure 4 16 [1, 2, 3, 9, 10, 14, 15, 17, 18, 98, 102] (L' := [(1, .int .i64 t18), (2, .int .i64 a2), (3, .int .i64 a3), (9, .pointer (some ⟨bR12, 0, none⟩)), (10, .slice As22 s22.length cs22), (14, .int .i64 t38), (15, .int .i64 s42.1), (17, .int .i64 y63), (18, .int .u64 t67.1), (98, .bool false), (102, .bool (y63 == t18))]) (by kernel_rfl) (by decide) ?_
                  refine WL.split 102 (b := (y63 == t18)) (by kernel_rfl) (fun hc => ?_) (fun hc => ?_)
                  · replace hc := eq_of_beq hc
                    rw [if_pos hc] at h
                    have hc77 := hc
                    clear hc
                    refine WL.rest 16 [1, 2, 3, 9, 10, 14, 15, 17, 106] (L' := [(1, .int .i64 t18), (2, .int .i64 a2), (3, .int .i64 a3), (9, .pointer (some ⟨bR12, 0, none⟩)), (10, .slice As22 s22.length cs22), (14, .int .i64 t38), (15, .int .i64 s42.1), (17, .int .i64 y63), (106, .bool (t67.1 != 0))]) (by kernel_rfl) ?_
                    refine QP.pick [1, 2, 3, 9, 10, 14, 15, 17, 106] ?_
                    exact QP.meet ⟨_, Option.some.inj h, rfl, rfl, rfl⟩
                  · replace hc := ne_of_beq_false hc
                    rw [if_neg hc] at h
                    have hc77 := hc
                    clear hc
                    refine WL.rest 16 [1, 2, 3, 9, 10, 14, 15, 17, 106] (L' := [(1, .int .i64 t18), (2, .int .i64 a2), (3, .int .i64 a3), (9, .pointer (some ⟨bR12, 0, none⟩)), (10, .slice As22 s22.length cs22), (14, .int .i64 t38), (15, .int .i64 s42.1), (17, .int .i64 y63), (106, .bool false)]) (by kernel_rfl) ?_
                    refine QP.pick [1, 2, 3, 9, 10, 14, 15, 17, 106] ?_
                    exact QP.meet ⟨_, Option.some.inj h, rfl, rfl, rfl⟩
              · rintro _ _ _ ⟨s71, rfl, rfl, rfl, rfl⟩
                clear h
                replace h := hk72
                refine WP.cond (b := s71) (by kernel_rfl) (fun hc => ?_) (fun hc => ?_)
                · replace hc := hc
                  rw [if_pos hc] at h
                  have hc78 := hc
                  clear hc
                  refine WP.seqP [8] (L' := [(8, .bool false)]) (by kernel_rfl) ?_
                  refine WP.dropAt 3 ?_
                  refine WP.dropAt 2 ?_
                  refine WP.dropAt 1 ?_
                  refine WP.dropAt 0 ?_
                  refine WP.ret ?_
                  refine QP.blockR ?_
                  refine QP.thenR ?_
                  refine QP.thenR ?_
                  refine QP.blockR ?_
                  refine QP.thenR ?_
                  refine QP.thenR ?_
                  obtain rfl := Option.some.inj h
                  obtain rfl := Option.some.inj (show some _ = some _ from hk62)
                  exact QP.returned [8] [.bool false] _ (by kernel_rfl) (by kernel_rfl) (by kernel_rfl) (fun W hI => ⟨_, _, _, rfl, ⟨rfl, rfl, rfl⟩, hI⟩)
                · replace hc := (Bool.eq_false_iff.1 hc)
                  rw [if_neg hc] at h
                  have hc78 := hc
                  clear hc
                  refine WP.skip ?_
                  refine QP.blockN ?_
                  refine QP.next ?_
                  refine WP.pick [1, 2, 3, 9, 10, 14, 15, 17] ?_
                  refine WP.regionP [1, 2, 3, 9, 10, 14, 15, 17] (L' := [(1, .int .i64 t18), (2, .int .i64 a2), (3, .int .i64 a3), (9, .pointer (some ⟨bR12, 0, none⟩)), (10, .slice As22 s22.length cs22), (14, .int .i64 t38), (15, .int .i64 s42.1), (17, .int .i64 (IntKind.i64.wrap (y63 + 1)))]) (by kernel_rfl) ?_
                  refine QP.front (i := 3) rfl ?_
                  refine QP.front (i := 3) rfl ?_
                  refine QP.front (i := 3) rfl ?_
                  refine QP.front (i := 3) rfl ?_
                  refine QP.pick [1, 2, 3, 9, 10, 14, 15, 17] ?_
                  exact QP.meet ⟨kn65, Nat.lt_succ_self _, (IntKind.i64.wrap (y63 + 1)), h, rfl, rfl, rfl⟩
            · replace hc := of_decide_eq_false hc
              rw [if_neg hc] at h
              have hc66 := hc
              clear hc
              refine WP.exit ?_
              refine QP.thenE ?_
              refine QP.thenE ?_
              refine QP.blockE ?_
              refine QP.dropAt 3 ?_
              refine QP.pick [1, 9, 14, 15] ?_
              exact QP.meet ⟨_, Option.some.inj h, rfl, rfl, rfl⟩
        · rintro _ _ _ ⟨s61, rfl, rfl, rfl, rfl⟩
          clear h
          replace h := hk62
          dsimp only at h
          refine QP.next ?_
          refine WP.pick [1, 9, 14, 15] ?_
          refine WP.seqR ?_
          refine WL.pure 0 2 [9, 14, 15, 108, 109] (L' := [(9, .pointer (some ⟨bR12, 0, none⟩)), (14, .int .i64 t38), (15, .int .i64 s42.1), (108, .pointer (some ⟨bR12, 0, none⟩)), (109, .int .i64 t18)]) (by kernel_rfl) (by decide) ?_
          refine WL.front (i := 2) rfl ?_
          refine WL.front (i := 2) rfl ?_
          refine WL.front (i := 2) rfl ?_
          rw [Option.bind_eq_some_iff] at h
          obtain ⟨t79, ht80, h⟩ := h
          refine WL.op (op := .call { callee := (.value (.func 19)), args := #[(.tmp 108), (.tmp 109), (.const (.int .i64 0)), (.const (.int .i64 0))], argTypes := #[25, 3, 3, 3] }) (ty := 45) (d := some 110) (g := none) (by kernel_rfl) (by kernel_rfl) (by kernel_rfl) (Does.call (f := 19) (args := [.pointer (some ⟨bR12, 0, none⟩), .int .i64 t18, .int .i64 0, .int .i64 0]) (by kernel_rfl) (fun W hI => (tree_Tree_Sum_calls k s42.2 t18 0 0 bR12 As42_2_f0 cs42_2_f0 Cs42_2_f0 Hs42_2_f0 As42_2_f1 cs42_2_f1 Cs42_2_f1 Hs42_2_f1 t79 ht80 hI))) ?_
          rintro _ _ _ ⟨rfl, rfl, rfl⟩
          refine WL.restQ 3 [9, 14, 15, 20, 21] (L' := [(9, .pointer (some ⟨bR12, 0, none⟩)), (14, .int .i64 t38), (15, .int .i64 s42.1), (20, .int .u64 t79.1), (21, .bool t79.2)]) (by kernel_rfl) ?_
          rw [Option.bind_eq_some_iff] at h
          obtain ⟨os83, h, hk84⟩ := h
          refine WP.cut (fun L' G' Γ' => ∃ s83 : Bool, s83 = os83 ∧ L' = [(8, .bool s83)] ∧ G = G' ∧ Γ = Γ') ?_ ?_
          · clear hk84
            refine WP.region ?_
            refine WL.pure 0 2 [9, 14, 15, 20, 114] (L' := [(9, .pointer (some ⟨bR12, 0, none⟩)), (14, .int .i64 t38), (15, .int .i64 s42.1), (20, .int .u64 t79.1), (114, .bool t79.2)]) (by kernel_rfl) (by decide) ?_
            refine WL.split 114 (b := t79.2) (by kernel_rfl) (fun hc => ?_) (fun hc => ?_)
            · replace hc := hc
              rw [if_pos hc] at h
              have hc85 := hc
              clear hc
              refine WL.pure 2 6 [9, 14, 15, 118] (L' := [(9, .pointer (some ⟨bR12, 0, none⟩)), (14, .int .i64 t38), (15, .int .i64 s42.1), (118, .bool (t79.1 == 0))]) (by kernel_rfl) (by decide) ?_
              refine WL.split 118 (b := (t79.1 == 0)) (by kernel_rfl) (fun hc => ?_) (fun hc => ?_)
              · replace hc := eq_of_beq hc
                rw [if_pos hc] at h
                have hc86 := hc
                clear hc
                refine WL.pure 6 7 [9, 14, 15, 118, 119] (L' := [(9, .pointer (some ⟨bR12, 0, none⟩)), (14, .int .i64 t38), (15, .int .i64 s42.1), (118, .bool true), (119, .pointer (some ⟨bR12, 0, none⟩))]) (by kernel_rfl) (by decide) ?_
                refine WL.front (i := 2) rfl ?_
                refine WL.front (i := 2) rfl ?_
                refine WL.front (i := 2) rfl ?_
                rw [Option.bind_eq_some_iff] at h
                obtain ⟨t87, ht88, h⟩ := h
                refine WL.op (op := .call { callee := (.value (.func 21)), args := #[(.tmp 119)], argTypes := #[25] }) (ty := 3) (d := some 120) (g := some (5, true)) (by kernel_rfl) (by kernel_rfl) (by kernel_rfl) (Does.call (f := 21) (args := [.pointer (some ⟨bR12, 0, none⟩)]) (by kernel_rfl) (fun W hI => (tree_Tree_Len_calls s42.2 bR12 As42_2_f0 cs42_2_f0 Cs42_2_f0 Hs42_2_f0 As42_2_f1 cs42_2_f1 Cs42_2_f1 Hs42_2_f1 t87 ht88 hI))) ?_
                rintro _ _ _ ⟨rfl, rfl, rfl⟩
                refine WL.pure 8 14 [9, 14, 15, 126] (L' := [(9, .pointer (some ⟨bR12, 0, none⟩)), (14, .int .i64 t38), (15, .int .i64 s42.1), (126, .bool (t87 == (IntKind.i64.wrap (t38 - s42.1))))]) (by kernel_rfl) (by decide) ?_
                refine WL.split 126 (b := (t87 == (IntKind.i64.wrap (t38 - s42.1)))) (by kernel_rfl) (fun hc => ?_) (fun hc => ?_)
                · replace hc := eq_of_beq hc
                  rw [if_pos hc] at h
                  have hc91 := hc
                  clear hc
                  refine WL.pure 14 18 [9, 126, 130] (L' := [(9, .pointer (some ⟨bR12, 0, none⟩)), (126, .bool true), (130, .bool (decide (t38 > s42.1)))]) (by kernel_rfl) (by decide) ?_
                  refine WL.split 130 (b := decide (t38 > s42.1)) (by kernel_rfl) (fun hc => ?_) (fun hc => ?_)
                  · replace hc := of_decide_eq_true hc
                    rw [if_pos hc] at h
                    have hc92 := hc
                    clear hc
                    refine WL.pure 18 24 [136] (L' := [(136, .bool true)]) (by kernel_rfl) (by decide) ?_
                    rw [Option.bind_eq_some_iff] at h
                    obtain ⟨t93, ht94, h⟩ := h
                    refine WL.op (op := .call { callee := (.value (.func 13)), args := #[], argTypes := #[] }) (ty := 4) (d := some 137) (g := some (23, true)) (by kernel_rfl) (by kernel_rfl) (by kernel_rfl) (Does.call (f := 13) (args := []) (by kernel_rfl) (fun W hI => (grapevinelaw12_awake_calls HT k   t93 ht94 hI))) ?_
                    rintro _ _ _ ⟨rfl, rfl, rfl⟩
                    refine WL.rest 25 [8] (L' := [(8, .bool t93)]) (by kernel_rfl) ?_
                    refine QP.dropAt 2 ?_
                    refine QP.dropAt 1 ?_
                    refine QP.dropAt 0 ?_
                    refine QP.pick [8] ?_
                    exact QP.meet ⟨_, Option.some.inj h, rfl, rfl, rfl⟩
                  · replace hc := of_decide_eq_false hc
                    rw [if_neg hc] at h
                    have hc92 := hc
                    clear hc
                    refine WL.pure 18 19 [126, 130, 131] (L' := [(126, .bool true), (130, .bool false), (131, .pointer (some ⟨bR12, 0, none⟩))]) (by kernel_rfl) (by decide) ?_
                    refine WL.front (i := 2) rfl ?_
                    refine WL.front (i := 2) rfl ?_
                    refine WL.front (i := 2) rfl ?_
                    rw [Option.bind_eq_some_iff] at h
                    obtain ⟨t97, ht98, h⟩ := h
                    refine WL.op (op := .call { callee := (.value (.func 22)), args := #[(.tmp 131)], argTypes := #[25] }) (ty := 44) (d := some 132) (g := some (17, false)) (by kernel_rfl) (by kernel_rfl) (by kernel_rfl) (Does.call (f := 22) (args := [.pointer (some ⟨bR12, 0, none⟩)]) (by kernel_rfl) (fun W hI => (tree_Tree_Root_calls k s42.2 bR12 As42_2_f0 cs42_2_f0 Cs42_2_f0 Hs42_2_f0 As42_2_f1 cs42_2_f1 Cs42_2_f1 Hs42_2_f1 t97 ht98 hI))) ?_
                    rintro _ _ _ ⟨rfl, rfl, rfl⟩
                    refine WL.pure 20 24 [136] (L' := [(136, .bool (t97 == 0))]) (by kernel_rfl) (by decide) ?_
                    refine WL.split 136 (b := (t97 == 0)) (by kernel_rfl) (fun hc => ?_) (fun hc => ?_)
                    · replace hc := eq_of_beq hc
                      rw [if_pos hc] at h
                      have hc101 := hc
                      clear hc
                      rw [Option.bind_eq_some_iff] at h
                      obtain ⟨t102, ht103, h⟩ := h
                      refine WL.op (op := .call { callee := (.value (.func 13)), args := #[], argTypes := #[] }) (ty := 4) (d := some 137) (g := some (23, true)) (by kernel_rfl) (by kernel_rfl) (by kernel_rfl) (Does.call (f := 13) (args := []) (by kernel_rfl) (fun W hI => (grapevinelaw12_awake_calls HT k   t102 ht103 hI))) ?_
                      rintro _ _ _ ⟨rfl, rfl, rfl⟩
                      refine WL.rest 25 [8] (L' := [(8, .bool t102)]) (by kernel_rfl) ?_
                      refine QP.dropAt 2 ?_
                      refine QP.dropAt 1 ?_
                      refine QP.dropAt 0 ?_
                      refine QP.pick [8] ?_
                      exact QP.meet ⟨_, Option.some.inj h, rfl, rfl, rfl⟩
                    · replace hc := ne_of_beq_false hc
                      rw [if_neg hc] at h
                      have hc101 := hc
                      clear hc
                      refine WL.rest 24 [8] (L' := [(8, .bool false)]) (by kernel_rfl) ?_
                      refine QP.dropAt 2 ?_
                      refine QP.dropAt 1 ?_
                      refine QP.dropAt 0 ?_
                      refine QP.pick [8] ?_
                      exact QP.meet ⟨_, Option.some.inj h, rfl, rfl, rfl⟩
                · replace hc := ne_of_beq_false hc
                  rw [if_neg hc] at h
                  have hc91 := hc
                  clear hc
                  refine WL.rest 14 [8] (L' := [(8, .bool false)]) (by kernel_rfl) ?_
                  refine QP.dropAt 2 ?_
                  refine QP.dropAt 1 ?_
                  refine QP.dropAt 0 ?_
                  refine QP.pick [8] ?_
                  exact QP.meet ⟨_, Option.some.inj h, rfl, rfl, rfl⟩
              · replace hc := ne_of_beq_false hc
                rw [if_neg hc] at h
                have hc86 := hc
                clear hc
                refine WL.rest 6 [8] (L' := [(8, .bool false)]) (by kernel_rfl) ?_
                refine QP.dropAt 2 ?_
                refine QP.dropAt 1 ?_
                refine QP.dropAt 0 ?_
                refine QP.pick [8] ?_
                exact QP.meet ⟨_, Option.some.inj h, rfl, rfl, rfl⟩
            · replace hc := (Bool.eq_false_iff.1 hc)
              rw [if_neg hc] at h
              have hc85 := hc
              clear hc
              refine WL.rest 2 [8] (L' := [(8, .bool false)]) (by kernel_rfl) ?_
              refine QP.dropAt 2 ?_
              refine QP.dropAt 1 ?_
              refine QP.dropAt 0 ?_
              refine QP.pick [8] ?_
              exact QP.meet ⟨_, Option.some.inj h, rfl, rfl, rfl⟩
          · rintro _ _ _ ⟨s83, rfl, rfl, rfl, rfl⟩
            clear h
            replace h := hk84
            refine WP.ret ?_
            obtain rfl := Option.some.inj h
            exact QP.returned [8] [.bool s83] _ (by kernel_rfl) (by kernel_rfl) (by kernel_rfl) (fun W hI => ⟨_, _, _, rfl, ⟨rfl, rfl, rfl⟩, hI⟩)
/-- The plain law. -/
def TreeOrigins_Pure : Prop := ∀ (l0 : List T36) (a1 : Int) (a2 : Int) (a3 : Int), (l0.length ≤ maxLen ∧ ∀ z0 ∈ l0, ((Lit.int .i64 z0.f0).wf = true ∧ (Lit.int .i64 z0.f1).wf = true ∧ (Lit.int .i64 z0.f2).wf = true ∧ (Lit.int .i64 z0.f3).wf = true ∧ z0.f4.size ≤ maxLen)) → (Lit.int .i64 a1).wf = true → (Lit.int .i64 a2).wf = true → (Lit.int .i64 a3).wf = true → ∃ k, grapevinelaw12_TreeOrigins k l0 a1 a2 a3 = some true
end Go.Proofs.YtajhihpaccggdaaDoor.Gf
