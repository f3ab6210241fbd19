/- Walks of Go functions: what each tells, as a plain Lean function, and that the Go code comes to it. Written by gg.py of this repo. -/
import Derived.Test.YtjmhhmljldjmjaaDoorT
import Derived.Test.YtjmhhmljldjmjaaDoorF0
namespace Go.Proofs.YtjmhhmljldjmjaaDoor.Gf
open Go Go.Gg
set_option maxRecDepth 100000
set_option linter.unusedVariables false
set_option linter.unusedSimpArgs false

/-! ### slices.Clone[[]grapevine/api.Record,grapevine/api.Record]: function 57 -/
def slices_Clone (l0 : List T27) : Option (List T27) := if l0.length ≤ 1073741824 then some l0 else none
set_option maxHeartbeats 4000000 in
theorem slices_Clone_calls {B : World} {G : GMap} {Γ : List Chunk} {W : World} (l0 : List T27) (Al0 : Option Addr) (cl0 : Nat) (Hl0 : Rd k27 G Al0 cl0 l0) (r : List T27) (h : slices_Clone l0 = some r) (hI : Inv B G Γ W) :
    Calls Tryd.prog 57 [.slice Al0 l0.length cl0].toArray W (Ret B (fun v G' Γ' => ∃ (AR : Option Addr), ∃ (cR : Nat), ∃ (CR : Chunk), v = .slice AR r.length cR ∧ Ow k27 G' AR cR r CR ∧ G = G' ∧ CR :: Γ = Γ')) := by
  refine calls_WP (Γ := Γ) (G := G) (B := B) Tryd.func57 rfl (by kernel_rfl) ?_ hI
  clear hI
  unfold slices_Clone at h
  by_cases hb : l0.length ≤ 1073741824
  case neg => rw [if_neg hb] at h; cases h
  rw [if_pos hb] at h
  obtain rfl := Option.some.inj h
  refine WP.seqP [0] (L' := [(0, .slice Al0 l0.length cl0)]) (by kernel_rfl) ?_
  refine WP.seq ?_
  cases Al0 with
  | none =>
    obtain rfl : l0 = [] := by
      cases l0 with
      | nil => rfl
      | cons x xs => obtain ⟨_, e, _⟩ := Hl0.2 (by simp); cases e
    refine WP.seqP [4] (L' := [(4, .bool true)]) (by kernel_rfl) ?_
    refine WP.yes (by kernel_rfl) ?_
    refine WP.seqP [2] (L' := [(2, .slice none 0 0)]) (by kernel_rfl) ?_
    refine WP.ret ?_
    refine QP.thenR ?_
    refine QP.addNil ?_
    exact QP.returned [2] [.slice none 0 0] _ (by kernel_rfl) (by kernel_rfl) (by kernel_rfl) (fun W hI => ⟨_, _, _, rfl, ⟨none, 0, [], rfl, Ow.nil _ _, rfl, rfl⟩, hI⟩)
  | some a =>
    refine WP.seqP [0, 4] (L' := [(0, .slice (some a) l0.length cl0), (4, .bool false)]) (by kernel_rfl) ?_
    refine WP.no (by kernel_rfl) ?_
    refine WP.skip ?_
    refine QP.next ?_
    refine WP.pick [0] ?_
    refine WP.seqR ?_
    refine WL.op (op := .buildSlice 46 0 #[]) (ty := 46) (d := some 5) (g := none) (by kernel_rfl) (by kernel_rfl) (by kernel_rfl) (Does.new (o := .cells #[] 27 (0, 0)) (v := fun r => .slice (some ⟨r, 0, none⟩) 0 0) (fun r => by kernel_rfl)) ?_
    rintro _ _ _ ⟨b, rfl, rfl, rfl⟩
    have H0 : Ow k27 G (some ⟨b, 0, none⟩) 0 ([] : List T27) [(b, .cells #[] 27 (0, 0))] := Ow.lit (kd := k27) (G := G) (b := b) (T := 27) (xs := []) (cs := []) .nil
    refine WL.pure 1 2 [5, 6] (L' := [(5, .slice (some ⟨b, 0, none⟩) 0 0), (6, .slice (some a) l0.length cl0)]) (by kernel_rfl) (by decide) ?_
    refine WL.op (op := .call { callee := (.builtin .append), args := #[(.tmp 5), (.tmp 6)], argTypes := #[46, 46] }) (ty := 46) (d := some 7) (g := none) (by kernel_rfl) (by kernel_rfl) (by kernel_rfl) (Ow.append (ys := l0) (v := .slice (some a) l0.length cl0) H0 (i := 0) rfl (by kernel_rfl) (by kernel_rfl) Hl0.src sl46 ze27 nt46 (by decide) (by simpa using hb)) ?_
    rintro _ _ _ ⟨rfl, A1, c1, C1, rfl, H1, rfl⟩
    refine WL.restQ 3 [2] (L' := [(2, .slice A1 l0.length c1)]) (by kernel_rfl) ?_
    refine WP.ret ?_
    exact QP.returned [2] [.slice A1 l0.length c1] _ (by kernel_rfl) (by kernel_rfl) (by kernel_rfl) (fun W hI => ⟨_, _, _, rfl, ⟨A1, c1, C1, rfl, H1, rfl, rfl⟩, hI⟩)

/-! ### grapevine/record.order: function 59 -/
def record_order (a0 : T27) (a1 : T27) : Option Int := ((record_Less a0 a1).bind fun t3 => (if t3 = true then some (-1) else ((record_Less a1 a0).bind fun t8 => (if t8 = true then some 1 else some 0))))
set_option maxHeartbeats 4000000 in
theorem record_order_calls {B : World} {G : GMap} {Γ : List Chunk} {W : World} (a0 : T27) (a1 : T27) (r : Int) (h : record_order a0 a1 = some r) (hI : Inv B G (Γ) W) :
    Calls Tryd.prog 59 [.agg #[.int .i64 a0.f0, .int .i64 a0.f1, .int .i64 a0.f2, .int .i64 a0.f3, .string a0.f4], .agg #[.int .i64 a1.f0, .int .i64 a1.f1, .int .i64 a1.f2, .int .i64 a1.f3, .string a1.f4]].toArray W (Ret B (fun v G' Γ' => v = .int .i64 r ∧ G = G' ∧ Γ = Γ')) := by
  refine calls_WP (Γ := Γ) (G := G) (B := B) Tryd.func59 rfl (by kernel_rfl) ?_ hI
  clear hI
  unfold record_order at h
  refine WP.seqR ?_
  refine WL.op (op := .box 27 (.tmp 0)) (ty := 0) (d := some 2) (g := none) (by kernel_rfl) (by kernel_rfl) (by kernel_rfl) (Does.new (o := .cells #[.int .i64 a0.f0, .int .i64 a0.f1, .int .i64 a0.f2, .int .i64 a0.f3, .string a0.f4] 27 (0, 0)) (v := fun r => .pointer (some ⟨r, 0, none⟩)) (fun r => by kernel_rfl)) ?_
  rintro _ _ _ ⟨b1, rfl, rfl, rfl⟩
  refine WL.op (op := .box 27 (.tmp 1)) (ty := 0) (d := some 3) (g := none) (by kernel_rfl) (by kernel_rfl) (by kernel_rfl) (Does.new (o := .cells #[.int .i64 a1.f0, .int .i64 a1.f1, .int .i64 a1.f2, .int .i64 a1.f3, .string a1.f4] 27 (0, 0)) (v := fun r => .pointer (some ⟨r, 0, none⟩)) (fun r => by kernel_rfl)) ?_
  rintro _ _ _ ⟨b2, rfl, rfl, rfl⟩
  refine WL.restQ 2 [2, 3] (L' := [(2, .pointer (some ⟨b1, 0, none⟩)), (3, .pointer (some ⟨b2, 0, none⟩))]) (by kernel_rfl) ?_
  refine WP.seq ?_
  refine WP.block ?_
  refine WP.seqR ?_
  refine WL.tell (op := .load 27 (.tmp 2)) (ty := 27) (d := some 6) (g := none) (by kernel_rfl) (by kernel_rfl) (by kernel_rfl) (Tells.load_box (i := 1) (b := b1) (o := 0) (agg := true) (by rfl) ag27 (by kernel_rfl) (fun h => by cases h) (Nat.le_of_ble_eq_true rfl) (v := .agg #[.int .i64 a0.f0, .int .i64 a0.f1, .int .i64 a0.f2, .int .i64 a0.f3, .string a0.f4]) (by kernel_rfl)) ?_
  refine WL.tell (op := .load 27 (.tmp 3)) (ty := 27) (d := some 7) (g := none) (by kernel_rfl) (by kernel_rfl) (by kernel_rfl) (Tells.load_box (i := 0) (b := b2) (o := 0) (agg := true) (by rfl) ag27 (by kernel_rfl) (fun h => by cases h) (Nat.le_of_ble_eq_true rfl) (v := .agg #[.int .i64 a1.f0, .int .i64 a1.f1, .int .i64 a1.f2, .int .i64 a1.f3, .string a1.f4]) (by kernel_rfl)) ?_
  rw [Option.bind_eq_some_iff] at h
  obtain ⟨t3, ht4, h⟩ := h
  refine WL.op (op := .call { callee := (.value (.func 34)), args := #[(.tmp 6), (.tmp 7)], argTypes := #[27, 27] }) (ty := 4) (d := some 8) (g := none) (by kernel_rfl) (by kernel_rfl) (by kernel_rfl) (Does.call (f := 34) (args := [.agg #[.int .i64 a0.f0, .int .i64 a0.f1, .int .i64 a0.f2, .int .i64 a0.f3, .string a0.f4], .agg #[.int .i64 a1.f0, .int .i64 a1.f1, .int .i64 a1.f2, .int .i64 a1.f3, .string a1.f4]]) (by kernel_rfl) (fun W hI => (record_Less_calls a0 a1  t3 ht4 hI))) ?_
  rintro _ _ _ ⟨rfl, rfl, rfl⟩
  refine WL.restQ 3 [2, 3, 5] (L' := [(2, .pointer (some ⟨b1, 0, none⟩)), (3, .pointer (some ⟨b2, 0, none⟩)), (5, .bool t3)]) (by kernel_rfl) ?_
  refine WP.cond (b := t3) (by kernel_rfl) (fun hc => ?_) (fun hc => ?_)
  · replace hc := hc
    rw [if_pos hc] at h
    have hc7 := hc
    clear hc
    refine WP.seqP [4] (L' := [(4, .int .i64 (-1))]) (by kernel_rfl) ?_
    refine WP.dropAt 1 ?_
    refine WP.dropAt 0 ?_
    refine WP.ret ?_
    refine QP.blockR ?_
    refine QP.thenR ?_
    obtain rfl := Option.some.inj h
    exact QP.returned [4] [.int .i64 (-1)] _ (by kernel_rfl) (by kernel_rfl) (by kernel_rfl) (fun W hI => ⟨_, _, _, rfl, ⟨rfl, rfl, rfl⟩, hI⟩)
  · replace hc := (Bool.eq_false_iff.1 hc)
    rw [if_neg hc] at h
    have hc7 := hc
    clear hc
    refine WP.seqR ?_
    refine WL.tell (op := .load 27 (.tmp 3)) (ty := 27) (d := some 10) (g := none) (by kernel_rfl) (by kernel_rfl) (by kernel_rfl) (Tells.load_box (i := 0) (b := b2) (o := 0) (agg := true) (by rfl) ag27 (by kernel_rfl) (fun h => by cases h) (Nat.le_of_ble_eq_true rfl) (v := .agg #[.int .i64 a1.f0, .int .i64 a1.f1, .int .i64 a1.f2, .int .i64 a1.f3, .string a1.f4]) (by kernel_rfl)) ?_
    refine WL.tell (op := .load 27 (.tmp 2)) (ty := 27) (d := some 11) (g := none) (by kernel_rfl) (by kernel_rfl) (by kernel_rfl) (Tells.load_box (i := 1) (b := b1) (o := 0) (agg := true) (by rfl) ag27 (by kernel_rfl) (fun h => by cases h) (Nat.le_of_ble_eq_true rfl) (v := .agg #[.int .i64 a0.f0, .int .i64 a0.f1, .int .i64 a0.f2, .int .i64 a0.f3, .string a0.f4]) (by kernel_rfl)) ?_
    rw [Option.bind_eq_some_iff] at h
    obtain ⟨t8, ht9, h⟩ := h
    refine WL.op (op := .call { callee := (.value (.func 34)), args := #[(.tmp 10), (.tmp 11)], argTypes := #[27, 27] }) (ty := 4) (d := some 12) (g := none) (by kernel_rfl) (by kernel_rfl) (by kernel_rfl) (Does.call (f := 34) (args := [.agg #[.int .i64 a1.f0, .int .i64 a1.f1, .int .i64 a1.f2, .int .i64 a1.f3, .string a1.f4], .agg #[.int .i64 a0.f0, .int .i64 a0.f1, .int .i64 a0.f2, .int .i64 a0.f3, .string a0.f4]]) (by kernel_rfl) (fun W hI => (record_Less_calls a1 a0  t8 ht9 hI))) ?_
    rintro _ _ _ ⟨rfl, rfl, rfl⟩
    refine WL.restQ 3 [9] (L' := [(9, .bool t8)]) (by kernel_rfl) ?_
    refine WP.dropAt 1 ?_
    refine WP.dropAt 0 ?_
    refine WP.cond (b := t8) (by kernel_rfl) (fun hc => ?_) (fun hc => ?_)
    · replace hc := hc
      rw [if_pos hc] at h
      have hc12 := hc
      clear hc
      refine WP.seqP [4] (L' := [(4, .int .i64 1)]) (by kernel_rfl) ?_
      refine WP.ret ?_
      refine QP.blockR ?_
      refine QP.thenR ?_
      obtain rfl := Option.some.inj h
      exact QP.returned [4] [.int .i64 1] _ (by kernel_rfl) (by kernel_rfl) (by kernel_rfl) (fun W hI => ⟨_, _, _, rfl, ⟨rfl, rfl, rfl⟩, hI⟩)
    · replace hc := (Bool.eq_false_iff.1 hc)
      rw [if_neg hc] at h
      have hc12 := hc
      clear hc
      refine WP.skip ?_
      refine QP.blockN ?_
      refine QP.next ?_
      refine WP.pick [] ?_
      refine WP.seqP [4] (L' := [(4, .int .i64 0)]) (by kernel_rfl) ?_
      refine WP.ret ?_
      obtain rfl := Option.some.inj h
      exact QP.returned [4] [.int .i64 0] _ (by kernel_rfl) (by kernel_rfl) (by kernel_rfl) (fun W hI => ⟨_, _, _, rfl, ⟨rfl, rfl, rfl⟩, hI⟩)

/-! ### slices.insertionSortCmpFunc[grapevine/api.Record]: function 83 -/
def slices_insertionSortCmpFunc_l1 (a1 : Int) : Nat → Int → (List T27) → Option (List T27)
  | 0, _, _ => none
  | k + 1, y10, y11 => ((if y10 > a1 then (if 0 ≤ y10 ∧ y10 < (y11.length : Int) then (if 0 ≤ (IntKind.i64.wrap (y10 - 1)) ∧ (IntKind.i64.wrap (y10 - 1)) < (y11.length : Int) then ((record_order (y11.getD y10.toNat z27) (y11.getD (IntKind.i64.wrap (y10 - 1)).toNat z27)).bind fun t19 => some (decide (t19 < 0))) else none) else none) else some false).bind fun s14 => (if s14 = true then (if 0 ≤ (IntKind.i64.wrap (y10 - 1)) ∧ (IntKind.i64.wrap (y10 - 1)) < (y11.length : Int) then (if 0 ≤ y10 ∧ y10 < (y11.length : Int) then (if 0 ≤ y10 ∧ y10 < (y11.length : Int) then (if 0 ≤ (IntKind.i64.wrap (y10 - 1)) ∧ (IntKind.i64.wrap (y10 - 1)) < ((y11.set y10.toNat (y11.getD (IntKind.i64.wrap (y10 - 1)).toNat z27)).length : Int) then slices_insertionSortCmpFunc_l1 a1 k (IntKind.i64.wrap (y10 - 1)) ((y11.set y10.toNat (y11.getD (IntKind.i64.wrap (y10 - 1)).toNat z27)).set (IntKind.i64.wrap (y10 - 1)).toNat (y11.getD y10.toNat z27)) else none) else none) else none) else none) else some y11))
def slices_insertionSortCmpFunc_l0 (a1 : Int) (a2 : Int) : Nat → Int → (List T27) → Option (List T27)
  | 0, _, _ => none
  | k + 1, y3, y4 => (if y3 < a2 then ((slices_insertionSortCmpFunc_l1 a1 k y3 y4).bind fun s8 => slices_insertionSortCmpFunc_l0 a1 a2 k (IntKind.i64.wrap (y3 + 1)) s8) else some y4)
def slices_insertionSortCmpFunc (k : Nat) (l0 : List T27) (a1 : Int) (a2 : Int) : Option (List T27) := ((slices_insertionSortCmpFunc_l0 a1 a2 k (IntKind.i64.wrap (a1 + 1)) l0).bind fun s1 => some s1)
set_option maxHeartbeats 4000000 in
theorem slices_insertionSortCmpFunc_calls {B : World} {G : GMap} {Γ : List Chunk} {W : World} (k : Nat) (l0 : List T27) (a1 : Int) (a2 : Int) (Al0 : Option Addr) (cl0 : Nat) (Cl0 : Chunk) (Hl0 : Ow k27 G Al0 cl0 l0 Cl0) (r : List T27) (h : slices_insertionSortCmpFunc k l0 a1 a2 = some r) (hI : Inv B G ([] :: Cl0 :: Γ) W) :
    Calls Tryd.prog 83 [.slice Al0 l0.length cl0, .int .i64 a1, .int .i64 a2, .func (.func 59) #[] #[]].toArray W (Ret B (fun v G' Γ' => ∃ (CRp0 : Chunk), v = .tuple #[] ∧ Ow k27 G' Al0 cl0 r CRp0 ∧ r.length = l0.length ∧ G = G' ∧ [] :: CRp0 :: Γ = Γ')) := by
  refine calls_WP (Γ := [] :: Cl0 :: Γ) (G := G) (B := B) Tryd.func83 rfl (by kernel_rfl) ?_ hI
  clear hI
  unfold slices_insertionSortCmpFunc at h
  refine WP.seqP [0, 1, 2, 3, 8] (L' := [(0, .slice Al0 l0.length cl0), (1, .int .i64 a1), (2, .int .i64 a2), (3, .func (.func 59) #[] #[]), (8, .int .i64 (IntKind.i64.wrap (a1 + 1)))]) (by kernel_rfl) ?_
  rw [Option.bind_eq_some_iff] at h
  obtain ⟨os1, h, hk2⟩ := h
  refine WP.cutQ (fun L' G' Γ' => ∃ s1 : (List T27), s1 = os1 ∧ ∃ (Cs1 : Chunk), L' = [] ∧ G = G' ∧ [] :: Cs1 :: Γ = Γ' ∧ Ow k27 G Al0 cl0 s1 Cs1 ∧ s1.length = l0.length) ?_ ?_
  · clear hk2
    refine WP.block ?_
    refine WP.pick [0, 1, 2, 3, 8] ?_
    refine WP.loopF (fun kn5 L' G' Γ' => ∃ (y3 : Int), ∃ (y4 : List T27), slices_insertionSortCmpFunc_l0 a1 a2 kn5 y3 y4 = some os1 ∧ ∃ (Cy4 : Chunk), L' = [(0, .slice Al0 y4.length cl0), (1, .int .i64 a1), (2, .int .i64 a2), (3, .func (.func 59) #[] #[]), (8, .int .i64 y3)] ∧ G = G' ∧ [] :: Cy4 :: Γ = Γ' ∧ Ow k27 G Al0 cl0 y4 Cy4 ∧ y4.length = l0.length) ?_ k ⟨(IntKind.i64.wrap (a1 + 1)), l0, h, Cl0, rfl, rfl, rfl, Hl0, rfl⟩
    clear h
    rintro kn6 _ _ _ ⟨y3, y4, h, Cy4, rfl, rfl, rfl, Hy4, HLy4⟩
    cases kn6 with
    | zero => exact absurd h (by simp [slices_insertionSortCmpFunc_l0])
    | succ kn6 =>
      simp only [slices_insertionSortCmpFunc_l0] at h
      refine WP.seq ?_
      refine WP.seqP [0, 1, 2, 3, 8, 14] (L' := [(0, .slice Al0 y4.length cl0), (1, .int .i64 a1), (2, .int .i64 a2), (3, .func (.func 59) #[] #[]), (8, .int .i64 y3), (14, .bool (decide (y3 < a2)))]) (by kernel_rfl) ?_
      refine WP.cond (b := decide (y3 < a2)) (by kernel_rfl) (fun hc => ?_) (fun hc => ?_)
      · replace hc := of_decide_eq_true hc
        rw [if_pos hc] at h
        have hc7 := hc
        clear hc
        refine WP.skip ?_
        refine QP.next ?_
        refine WP.pick [0, 1, 2, 3, 8] ?_
        refine WP.seq ?_
        refine WP.block ?_
        refine WP.seqP [0, 1, 2, 3, 8, 9] (L' := [(0, .slice Al0 y4.length cl0), (1, .int .i64 a1), (2, .int .i64 a2), (3, .func (.func 59) #[] #[]), (8, .int .i64 y3), (9, .int .i64 y3)]) (by kernel_rfl) ?_
        rw [Option.bind_eq_some_iff] at h
        obtain ⟨os8, h, hk9⟩ := h
        refine WP.cutQ (fun L' G' Γ' => ∃ s8 : (List T27), s8 = os8 ∧ ∃ (Cs8 : Chunk), L' = [(0, .slice Al0 s8.length cl0), (1, .int .i64 a1), (2, .int .i64 a2), (3, .func (.func 59) #[] #[]), (8, .int .i64 y3)] ∧ G = G' ∧ [] :: Cs8 :: Γ = Γ' ∧ Ow k27 G Al0 cl0 s8 Cs8 ∧ s8.length = l0.length) ?_ ?_
        · clear hk9
          refine WP.block ?_
          refine WP.pick [0, 1, 2, 3, 8, 9] ?_
          refine WP.loopF (fun kn12 L' G' Γ' => ∃ (y10 : Int), ∃ (y11 : List T27), slices_insertionSortCmpFunc_l1 a1 kn12 y10 y11 = some os8 ∧ ∃ (Cy11 : Chunk), L' = [(0, .slice Al0 y11.length cl0), (1, .int .i64 a1), (2, .int .i64 a2), (3, .func (.func 59) #[] #[]), (8, .int .i64 y3), (9, .int .i64 y10)] ∧ G = G' ∧ [] :: Cy11 :: Γ = Γ' ∧ Ow k27 G Al0 cl0 y11 Cy11 ∧ y11.length = l0.length) ?_ kn6 ⟨y3, y4, h, Cy4, rfl, rfl, rfl, Hy4, HLy4⟩
          clear h
          rintro kn13 _ _ _ ⟨y10, y11, h, Cy11, rfl, rfl, rfl, Hy11, HLy11⟩
          cases kn13 with
          | zero => exact absurd h (by simp [slices_insertionSortCmpFunc_l1])
          | succ kn13 =>
            simp only [slices_insertionSortCmpFunc_l1] at h
            refine WP.seq ?_
            rw [Option.bind_eq_some_iff] at h
            obtain ⟨os14, h, hk15⟩ := h
            refine WP.cut (fun L' G' Γ' => ∃ s14 : Bool, s14 = os14 ∧ L' = [(0, .slice Al0 y11.length cl0), (1, .int .i64 a1), (2, .int .i64 a2), (3, .func (.func 59) #[] #[]), (8, .int .i64 y3), (9, .int .i64 y10), (34, .bool s14)] ∧ G = G' ∧ [] :: Cy11 :: Γ = Γ') ?_ ?_
            · clear hk15
              skip
              refine WP.any (N := 17) (S := [⟨some 18, [9], []⟩, ⟨some 19, [1], []⟩, ⟨some 20, [18, 19], [0, 1]⟩, ⟨some 21, [20], [2]⟩, ⟨some 22, [3, 21], [3]⟩, ⟨some 23, [0, 21], [3]⟩, ⟨some 24, [9, 21], [3]⟩, ⟨some 25, [21, 23, 24], [3, 5, 6]⟩, ⟨some 26, [21, 25], [3, 7]⟩, ⟨some 27, [0, 21], [3]⟩, ⟨some 28, [9, 21], [3]⟩, ⟨some 29, [21, 28], [3, 10]⟩, ⟨some 30, [21, 27, 29], [3, 9, 11]⟩, ⟨some 31, [21, 30], [3, 12]⟩, ⟨some 32, [21, 22, 26, 31], [3, 4, 8, 13]⟩, ⟨some 33, [21, 32], [3, 14]⟩, ⟨some 34, [21, 33], [3, 15]⟩]) (kw := 17) (G0 := G) (Γ0 := [] :: Cy11 :: Γ) mo (by kernel_rfl) (fun hS => ?_)
              refine WA.pure [0, 1, 2, 3] [0, 1, 2, 3, 8, 9, 21] (m := 13) (b' := 15) (L' := [(0, .slice Al0 y11.length cl0), (1, .int .i64 a1), (2, .int .i64 a2), (3, .func (.func 59) #[] #[]), (8, .int .i64 y3), (9, .int .i64 y10), (21, .bool (decide (y10 > a1)))]) (by kernel_rfl) (NoPanic.then (NoPanic.then (NoPanic.then (NoPanic.block (NoPanic.then (NoPanic.block (NoPanic.then (NoPanic.then (NoPanic.block (NoPanic.then (NoPanic.body))))))))))) Under.refl hS (by kernel_rfl) ?_
              refine WA.split 21 (b := decide (y10 > a1)) (by kernel_rfl) (fun hc => ?_) (fun hc => ?_)
              · replace hc := of_decide_eq_true hc
                rw [if_pos hc] at h
                have hc16 := hc
                clear hc
                refine WA.pure [4, 5, 6, 9, 10, 11] [0, 1, 2, 3, 8, 9, 21, 22, 23, 24, 27, 29] (m := 7) (b' := 3711) (L' := [(0, .slice Al0 y11.length cl0), (1, .int .i64 a1), (2, .int .i64 a2), (3, .func (.func 59) #[] #[]), (8, .int .i64 y3), (9, .int .i64 y10), (21, .bool true), (22, .func (.func 59) #[] #[]), (23, .slice Al0 y11.length cl0), (24, .int .i64 y10), (27, .slice Al0 y11.length cl0), (29, .int .i64 (IntKind.i64.wrap (y10 - 1)))]) (by kernel_rfl) (NoPanic.then (NoPanic.then (NoPanic.then (NoPanic.block (NoPanic.then (NoPanic.block (NoPanic.then (NoPanic.then (NoPanic.block (NoPanic.then (NoPanic.body))))))))))) Under.refl hS (by kernel_rfl) ?_
                by_cases hb17 : 0 ≤ y10 ∧ y10 < (y11.length : Int)
                case neg => rw [if_neg hb17] at h; cases h
                rw [if_pos hb17] at h
                refine WA.tellD [] (i := 7) (m := 6) (b' := 3839) (by kernel_rfl) (NoPanic.then (NoPanic.then (NoPanic.then (NoPanic.block (NoPanic.then (NoPanic.block (NoPanic.then (NoPanic.then (NoPanic.block (NoPanic.then (NoPanic.body))))))))))) Under.refl hS (by kernel_rfl) (op := .indexAddr 46 (.tmp 23) (.tmp 24)) (ty := 0) (d := some 25) (g := some (3, true)) (by kernel_rfl) (by kernel_rfl) (by kernel_rfl) (Tells.indexAddr (A := Al0) (n := y11.length) (c := cl0) (k := .i64) (j := y10) (by kernel_rfl) (by kernel_rfl) (Hy11.isSome hb17.1 hb17.2) hb17.1 hb17.2 sl46) ?_
                refine WA.tellDE [] (i := 8) (m := 5) (b' := 4095) (by kernel_rfl) (NoPanic.then (NoPanic.then (NoPanic.then (NoPanic.block (NoPanic.then (NoPanic.block (NoPanic.then (NoPanic.then (NoPanic.block (NoPanic.then (NoPanic.body))))))))))) Under.refl hS (by kernel_rfl) (op := .load 27 (.tmp 25)) (ty := 27) (d := some 26) (g := some (3, true)) (by kernel_rfl) (by kernel_rfl) (by kernel_rfl) (Hy11.load (i := 1) rfl (agg := true) hb17.1 hb17.2 z27 ag27 (fun h => by cases h) (by kernel_rfl)) ?_
                rintro _ rfl
                by_cases hb18 : 0 ≤ (IntKind.i64.wrap (y10 - 1)) ∧ (IntKind.i64.wrap (y10 - 1)) < (y11.length : Int)
                case neg => rw [if_neg hb18] at h; cases h
                rw [if_pos hb18] at h
                refine WA.tellD [] (i := 12) (m := 4) (b' := 8191) (by kernel_rfl) (NoPanic.then (NoPanic.then (NoPanic.then (NoPanic.block (NoPanic.then (NoPanic.block (NoPanic.then (NoPanic.then (NoPanic.block (NoPanic.then (NoPanic.body))))))))))) Under.refl hS (by kernel_rfl) (op := .indexAddr 46 (.tmp 27) (.tmp 29)) (ty := 0) (d := some 30) (g := some (3, true)) (by kernel_rfl) (by kernel_rfl) (by kernel_rfl) (Tells.indexAddr (A := Al0) (n := y11.length) (c := cl0) (k := .i64) (j := (IntKind.i64.wrap (y10 - 1))) (by kernel_rfl) (by kernel_rfl) (Hy11.isSome hb18.1 hb18.2) hb18.1 hb18.2 sl46) ?_
                refine WA.tellDE [] (i := 13) (m := 3) (b' := 16383) (by kernel_rfl) (NoPanic.then (NoPanic.then (NoPanic.then (NoPanic.block (NoPanic.then (NoPanic.block (NoPanic.then (NoPanic.then (NoPanic.block (NoPanic.then (NoPanic.body))))))))))) Under.refl hS (by kernel_rfl) (op := .load 27 (.tmp 30)) (ty := 27) (d := some 31) (g := some (3, true)) (by kernel_rfl) (by kernel_rfl) (by kernel_rfl) (Hy11.load (i := 1) rfl (agg := true) hb18.1 hb18.2 z27 ag27 (fun h => by cases h) (by kernel_rfl)) ?_
                rintro _ rfl
                rw [Option.bind_eq_some_iff] at h
                obtain ⟨t19, ht20, h⟩ := h
                refine WA.op (i := 14) (m := 2) (b' := 32767) (by kernel_rfl) hS (by kernel_rfl) (op := .call { callee := (.value (.tmp 22)), args := #[(.tmp 26), (.tmp 31)], argTypes := #[27, 27] }) (ty := 3) (d := some 32) (g := some (3, true)) (by kernel_rfl) (by kernel_rfl) (by kernel_rfl) (Does.call (f := 59) (args := [.agg #[.int .i64 ((y11.getD y10.toNat z27).f0), .int .i64 ((y11.getD y10.toNat z27).f1), .int .i64 ((y11.getD y10.toNat z27).f2), .int .i64 ((y11.getD y10.toNat z27).f3), .string ((y11.getD y10.toNat z27).f4)], .agg #[.int .i64 ((y11.getD (IntKind.i64.wrap (y10 - 1)).toNat z27).f0), .int .i64 ((y11.getD (IntKind.i64.wrap (y10 - 1)).toNat z27).f1), .int .i64 ((y11.getD (IntKind.i64.wrap (y10 - 1)).toNat z27).f2), .int .i64 ((y11.getD (IntKind.i64.wrap (y10 - 1)).toNat z27).f3), .string ((y11.getD (IntKind.i64.wrap (y10 - 1)).toNat z27).f4)]]) (by kernel_rfl) (fun W hI => (record_order_calls (y11.getD y10.toNat z27) (y11.getD (IntKind.i64.wrap (y10 - 1)).toNat z27)  t19 ht20 hI))) ?_
                rintro _ _ _ ⟨rfl, rfl, rfl⟩
                refine ⟨_, _, Under.refl, Under.refl, ?_⟩
                refine WA.pure [15, 16] [0, 1, 2, 3, 8, 9, 34] (m := 0) (b' := 131071) (L' := [(0, .slice Al0 y11.length cl0), (1, .int .i64 a1), (2, .int .i64 a2), (3, .func (.func 59) #[] #[]), (8, .int .i64 y3), (9, .int .i64 y10), (34, .bool (decide (t19 < 0)))]) (by kernel_rfl) (NoPanic.then (NoPanic.then (NoPanic.then (NoPanic.block (NoPanic.then (NoPanic.block (NoPanic.then (NoPanic.then (NoPanic.block (NoPanic.then (NoPanic.body))))))))))) Under.refl hS (by kernel_rfl) ?_
                refine WA.done hS (by kernel_rfl) ?_
                refine QP.pick [0, 1, 2, 3, 8, 9, 34] ?_
                refine QP.pick [0, 1, 2, 3, 8, 9, 34] ?_
                exact QP.meet ⟨_, Option.some.inj h, rfl, rfl, rfl⟩
              · replace hc := of_decide_eq_false hc
                rw [if_neg hc] at h
                have hc16 := hc
                clear hc
                refine WA.pure [4, 5, 6, 7, 8, 9, 10, 11, 12, 13, 14, 15, 16] [0, 1, 2, 3, 8, 9, 34] (m := 0) (b' := 131071) (L' := [(0, .slice Al0 y11.length cl0), (1, .int .i64 a1), (2, .int .i64 a2), (3, .func (.func 59) #[] #[]), (8, .int .i64 y3), (9, .int .i64 y10), (34, .bool false)]) (by kernel_rfl) (NoPanic.then (NoPanic.then (NoPanic.then (NoPanic.block (NoPanic.then (NoPanic.block (NoPanic.then (NoPanic.then (NoPanic.block (NoPanic.then (NoPanic.body))))))))))) Under.refl hS (by kernel_rfl) ?_
                refine WA.done hS (by kernel_rfl) ?_
                refine QP.pick [0, 1, 2, 3, 8, 9, 34] ?_
                refine QP.pick [0, 1, 2, 3, 8, 9, 34] ?_
                exact QP.meet ⟨_, Option.some.inj h, rfl, rfl, rfl⟩
            · rintro _ _ _ ⟨s14, rfl, rfl, rfl, rfl⟩
              clear h
              replace h := hk15
              refine WP.cond (b := s14) (by kernel_rfl) (fun hc => ?_) (fun hc => ?_)
              · replace hc := hc
                rw [if_pos hc] at h
                have hc23 := hc
                clear hc
                refine WP.skip ?_
                refine QP.next ?_
                refine WP.pick [0, 1, 2, 3, 8, 9] ?_
                refine WP.seq ?_
                refine WP.block ?_
                skip
                refine WP.any (N := 18) (S := [⟨some 37, [0], []⟩, ⟨some 38, [9], []⟩, ⟨some 39, [0], []⟩, ⟨some 40, [9], []⟩, ⟨some 41, [40], [3]⟩, ⟨some 42, [0], []⟩, ⟨some 43, [9], []⟩, ⟨some 44, [43], [6]⟩, ⟨some 45, [42, 44], [5, 7]⟩, ⟨some 46, [45], [8]⟩, ⟨some 47, [0], []⟩, ⟨some 48, [9], []⟩, ⟨some 49, [47, 48], [10, 11]⟩, ⟨some 50, [49], [12]⟩, ⟨some 51, [37, 38], [0, 1, 5, 6, 7, 8, 9, 13]⟩, ⟨none, [46, 51], [0, 1, 5, 6, 7, 8, 9, 13, 14]⟩, ⟨some 52, [39, 41], [0, 1, 2, 3, 4, 5, 6, 7, 8, 9, 10, 11, 12, 13, 14, 15]⟩, ⟨none, [50, 52], [0, 1, 2, 3, 4, 5, 6, 7, 8, 9, 10, 11, 12, 13, 14, 15, 16]⟩]) (kw := 15) (G0 := G) (Γ0 := [] :: Cy11 :: Γ) mo (by kernel_rfl) (fun hS => ?_)
                refine WA.pure [0, 1, 2, 3, 4, 5, 6, 7, 10, 11] [0, 1, 2, 3, 8, 9, 37, 38, 39, 41, 42, 44, 47, 48] (m := 8) (b' := 3327) (L' := [(0, .slice Al0 y11.length cl0), (1, .int .i64 a1), (2, .int .i64 a2), (3, .func (.func 59) #[] #[]), (8, .int .i64 y3), (9, .int .i64 y10), (37, .slice Al0 y11.length cl0), (38, .int .i64 y10), (39, .slice Al0 y11.length cl0), (41, .int .i64 (IntKind.i64.wrap (y10 - 1))), (42, .slice Al0 y11.length cl0), (44, .int .i64 (IntKind.i64.wrap (y10 - 1))), (47, .slice Al0 y11.length cl0), (48, .int .i64 y10)]) (by kernel_rfl) (NoPanic.block (NoPanic.then (NoPanic.then (NoPanic.block (NoPanic.then (NoPanic.block (NoPanic.then (NoPanic.then (NoPanic.block (NoPanic.then (NoPanic.body))))))))))) Under.refl hS (by kernel_rfl) ?_
                by_cases hb24 : 0 ≤ (IntKind.i64.wrap (y10 - 1)) ∧ (IntKind.i64.wrap (y10 - 1)) < (y11.length : Int)
                case neg => rw [if_neg hb24] at h; cases h
                rw [if_pos hb24] at h
                refine WA.tellD [15] (i := 8) (m := 7) (b' := 3583) (by kernel_rfl) (NoPanic.block (NoPanic.then (NoPanic.then (NoPanic.block (NoPanic.then (NoPanic.block (NoPanic.then (NoPanic.then (NoPanic.block (NoPanic.then (NoPanic.body))))))))))) Under.refl hS (by kernel_rfl) (op := .indexAddr 46 (.tmp 42) (.tmp 44)) (ty := 0) (d := some 45) (g := none) (by kernel_rfl) (by kernel_rfl) (by kernel_rfl) (Tells.indexAddr (A := Al0) (n := y11.length) (c := cl0) (k := .i64) (j := (IntKind.i64.wrap (y10 - 1))) (by kernel_rfl) (by kernel_rfl) (Hy11.isSome hb24.1 hb24.2) hb24.1 hb24.2 sl46) ?_
                refine WA.tellDE [15] (i := 9) (m := 6) (b' := 4095) (by kernel_rfl) (NoPanic.block (NoPanic.then (NoPanic.then (NoPanic.block (NoPanic.then (NoPanic.block (NoPanic.then (NoPanic.then (NoPanic.block (NoPanic.then (NoPanic.body))))))))))) Under.refl hS (by kernel_rfl) (op := .load 27 (.tmp 45)) (ty := 27) (d := some 46) (g := none) (by kernel_rfl) (by kernel_rfl) (by kernel_rfl) (Hy11.load (i := 1) rfl (agg := true) hb24.1 hb24.2 z27 ag27 (fun h => by cases h) (by kernel_rfl)) ?_
                rintro _ rfl
                by_cases hb25 : 0 ≤ y10 ∧ y10 < (y11.length : Int)
                case neg => rw [if_neg hb25] at h; cases h
                rw [if_pos hb25] at h
                refine WA.tellD [15, 13] (i := 12) (m := 5) (b' := 8191) (by kernel_rfl) (NoPanic.block (NoPanic.then (NoPanic.then (NoPanic.block (NoPanic.then (NoPanic.block (NoPanic.then (NoPanic.then (NoPanic.block (NoPanic.then (NoPanic.body))))))))))) Under.refl hS (by kernel_rfl) (op := .indexAddr 46 (.tmp 47) (.tmp 48)) (ty := 0) (d := some 49) (g := none) (by kernel_rfl) (by kernel_rfl) (by kernel_rfl) (Tells.indexAddr (A := Al0) (n := y11.length) (c := cl0) (k := .i64) (j := y10) (by kernel_rfl) (by kernel_rfl) (Hy11.isSome hb25.1 hb25.2) hb25.1 hb25.2 sl46) ?_
                refine WA.tellDE [15] (i := 13) (m := 4) (b' := 16383) (by kernel_rfl) (NoPanic.block (NoPanic.then (NoPanic.then (NoPanic.block (NoPanic.then (NoPanic.block (NoPanic.then (NoPanic.then (NoPanic.block (NoPanic.then (NoPanic.body))))))))))) Under.refl hS (by kernel_rfl) (op := .load 27 (.tmp 49)) (ty := 27) (d := some 50) (g := none) (by kernel_rfl) (by kernel_rfl) (by kernel_rfl) (Hy11.load (i := 1) rfl (agg := true) hb25.1 hb25.2 z27 ag27 (fun h => by cases h) (by kernel_rfl)) ?_
                rintro _ rfl
                by_cases hb26 : 0 ≤ y10 ∧ y10 < (y11.length : Int)
                case neg => rw [if_neg hb26] at h; cases h
                rw [if_pos hb26] at h
                refine WA.tellD [15] (i := 14) (m := 3) (b' := 32767) (by kernel_rfl) (NoPanic.block (NoPanic.then (NoPanic.then (NoPanic.block (NoPanic.then (NoPanic.block (NoPanic.then (NoPanic.then (NoPanic.block (NoPanic.then (NoPanic.body))))))))))) Under.refl hS (by kernel_rfl) (op := .indexAddr 46 (.tmp 37) (.tmp 38)) (ty := 0) (d := some 51) (g := none) (by kernel_rfl) (by kernel_rfl) (by kernel_rfl) (Tells.indexAddr (A := Al0) (n := y11.length) (c := cl0) (k := .i64) (j := y10) (by kernel_rfl) (by kernel_rfl) (Hy11.isSome hb26.1 hb26.2) hb26.1 hb26.2 sl46) ?_
                refine WA.opK (i := 15) (kw' := 17) (m := 2) (b' := 65535) (by kernel_rfl) rfl hS (by kernel_rfl) (op := .store 27 (.tmp 51) (.tmp 46)) (ty := 0) (d := none) (g := none) (by kernel_rfl) (by kernel_rfl) (by kernel_rfl) (Ow.store Hy11 (i := 1) rfl hb26.1 hb26.2 (z := (y11.getD (IntKind.i64.wrap (y10 - 1)).toNat z27)) (v := .agg #[.int .i64 ((y11.getD (IntKind.i64.wrap (y10 - 1)).toNat z27).f0), .int .i64 ((y11.getD (IntKind.i64.wrap (y10 - 1)).toNat z27).f1), .int .i64 ((y11.getD (IntKind.i64.wrap (y10 - 1)).toNat z27).f2), .int .i64 ((y11.getD (IntKind.i64.wrap (y10 - 1)).toNat z27).f3), .string ((y11.getD (IntKind.i64.wrap (y10 - 1)).toNat z27).f4)]) (by kernel_rfl) (by kernel_rfl) sz27 (by exact rfl)) ?_
                rintro _ _ _ ⟨rfl, rfl, C27, Ho28, rfl⟩
                refine ⟨_, _, Under.refl, ?_⟩
                refine WA.reput 0 (v := .slice Al0 y11.length cl0) (v' := .slice Al0 (y11.set y10.toNat (y11.getD (IntKind.i64.wrap (y10 - 1)).toNat z27)).length cl0) (by kernel_rfl) (by simp only [List.length_set]) ?_
                refine WA.reput 39 (v := .slice Al0 y11.length cl0) (v' := .slice Al0 (y11.set y10.toNat (y11.getD (IntKind.i64.wrap (y10 - 1)).toNat z27)).length cl0) (by kernel_rfl) (by simp only [List.length_set]) ?_
                by_cases hb29 : 0 ≤ (IntKind.i64.wrap (y10 - 1)) ∧ (IntKind.i64.wrap (y10 - 1)) < ((y11.set y10.toNat (y11.getD (IntKind.i64.wrap (y10 - 1)).toNat z27)).length : Int)
                case neg => rw [if_neg hb29] at h; cases h
                rw [if_pos hb29] at h
                refine WA.tellD [17] (i := 16) (m := 1) (b' := 131071) (by kernel_rfl) (NoPanic.block (NoPanic.then (NoPanic.then (NoPanic.block (NoPanic.then (NoPanic.block (NoPanic.then (NoPanic.then (NoPanic.block (NoPanic.then (NoPanic.body))))))))))) Under.refl hS (by kernel_rfl) (op := .indexAddr 46 (.tmp 39) (.tmp 41)) (ty := 0) (d := some 52) (g := none) (by kernel_rfl) (by kernel_rfl) (by kernel_rfl) (Tells.indexAddr (A := Al0) (n := (y11.set y10.toNat (y11.getD (IntKind.i64.wrap (y10 - 1)).toNat z27)).length) (c := cl0) (k := .i64) (j := (IntKind.i64.wrap (y10 - 1))) (by kernel_rfl) (by kernel_rfl) (Ho28.isSome hb29.1 hb29.2) hb29.1 hb29.2 sl46) ?_
                refine WA.opK (i := 17) (kw' := 18) (m := 0) (b' := 262143) (by kernel_rfl) rfl hS (by kernel_rfl) (op := .store 27 (.tmp 52) (.tmp 50)) (ty := 0) (d := none) (g := none) (by kernel_rfl) (by kernel_rfl) (by kernel_rfl) (Ow.store Ho28 (i := 1) rfl hb29.1 hb29.2 (z := (y11.getD y10.toNat z27)) (v := .agg #[.int .i64 ((y11.getD y10.toNat z27).f0), .int .i64 ((y11.getD y10.toNat z27).f1), .int .i64 ((y11.getD y10.toNat z27).f2), .int .i64 ((y11.getD y10.toNat z27).f3), .string ((y11.getD y10.toNat z27).f4)]) (by kernel_rfl) (by kernel_rfl) sz27 (by exact rfl)) ?_
                rintro _ _ _ ⟨rfl, rfl, C30, Ho31, rfl⟩
                refine ⟨_, _, Under.refl, ?_⟩
                refine WA.reput 0 (v := .slice Al0 (y11.set y10.toNat (y11.getD (IntKind.i64.wrap (y10 - 1)).toNat z27)).length cl0) (v' := .slice Al0 ((y11.set y10.toNat (y11.getD (IntKind.i64.wrap (y10 - 1)).toNat z27)).set (IntKind.i64.wrap (y10 - 1)).toNat (y11.getD y10.toNat z27)).length cl0) (by kernel_rfl) (by simp only [List.length_set]) ?_
                refine WA.done hS (by kernel_rfl) ?_
                refine QP.pick [0, 1, 2, 3, 8, 9] ?_
                refine QP.blockN ?_
                refine QP.next ?_
                refine WP.pick [0, 1, 2, 3, 8, 9] ?_
                refine WP.regionP [0, 1, 2, 3, 8, 9] (L' := [(0, .slice Al0 ((y11.set y10.toNat (y11.getD (IntKind.i64.wrap (y10 - 1)).toNat z27)).set (IntKind.i64.wrap (y10 - 1)).toNat (y11.getD y10.toNat z27)).length cl0), (1, .int .i64 a1), (2, .int .i64 a2), (3, .func (.func 59) #[] #[]), (8, .int .i64 y3), (9, .int .i64 (IntKind.i64.wrap (y10 - 1)))]) (by kernel_rfl) ?_
                refine QP.front (i := 1) rfl ?_
                refine QP.front (i := 1) rfl ?_
                refine QP.pick [0, 1, 2, 3, 8, 9] ?_
                exact QP.meet ⟨kn13, Nat.lt_succ_self _, (IntKind.i64.wrap (y10 - 1)), ((y11.set y10.toNat (y11.getD (IntKind.i64.wrap (y10 - 1)).toNat z27)).set (IntKind.i64.wrap (y10 - 1)).toNat (y11.getD y10.toNat z27)), h, C30, rfl, rfl, rfl, Ho31, (by rw [List.length_set]; exact (by rw [List.length_set]; exact HLy11))⟩
              · replace hc := (Bool.eq_false_iff.1 hc)
                rw [if_neg hc] at h
                have hc23 := hc
                clear hc
                refine WP.exit ?_
                refine QP.thenE ?_
                refine QP.thenE ?_
                refine QP.blockE ?_
                refine QP.pick [0, 1, 2, 3, 8] ?_
                exact QP.meet ⟨_, Option.some.inj h, Cy11, rfl, rfl, rfl, Hy11, HLy11⟩
        · rintro _ _ _ ⟨s8, rfl, Cs8, rfl, rfl, rfl, Hs8, HLs8⟩
          clear h
          replace h := hk9
          refine QP.blockN ?_
          refine QP.next ?_
          refine WP.pick [0, 1, 2, 3, 8] ?_
          refine WP.regionP [0, 1, 2, 3, 8] (L' := [(0, .slice Al0 s8.length cl0), (1, .int .i64 a1), (2, .int .i64 a2), (3, .func (.func 59) #[] #[]), (8, .int .i64 (IntKind.i64.wrap (y3 + 1)))]) (by kernel_rfl) ?_
          refine QP.front (i := 1) rfl ?_
          refine QP.front (i := 1) rfl ?_
          refine QP.pick [0, 1, 2, 3, 8] ?_
          exact QP.meet ⟨kn6, Nat.lt_succ_self _, (IntKind.i64.wrap (y3 + 1)), s8, h, Cs8, rfl, rfl, rfl, Hs8, HLs8⟩
      · replace hc := of_decide_eq_false hc
        rw [if_neg hc] at h
        have hc7 := hc
        clear hc
        refine WP.exit ?_
        refine QP.thenE ?_
        refine QP.thenE ?_
        refine QP.blockE ?_
        refine QP.pick [] ?_
        exact QP.meet ⟨_, Option.some.inj h, Cy4, rfl, rfl, rfl, Hy4, HLy4⟩
  · rintro _ _ _ ⟨s1, rfl, Cs1, rfl, rfl, rfl, Hs1, HLs1⟩
    clear h
    replace h := hk2
    obtain rfl := Option.some.inj h
    exact QP.returnedN [] [] _ (by kernel_rfl) (by kernel_rfl) (by kernel_rfl) (fun W hI => ⟨_, _, _, rfl, ⟨Cs1, rfl, Hs1, HLs1, rfl, rfl⟩, hI⟩)

/-! ### slices.swapRangeCmpFunc[grapevine/api.Record]: function 95 -/
def slices_swapRangeCmpFunc_l0 (a1 : Int) (a2 : Int) (a3 : Int) : Nat → Int → (List T27) → Option (List T27)
  | 0, _, _ => none
  | k + 1, y3, y4 => (if y3 < a3 then (if 0 ≤ (IntKind.i64.wrap (a2 + y3)) ∧ (IntKind.i64.wrap (a2 + y3)) < (y4.length : Int) then (if 0 ≤ (IntKind.i64.wrap (a1 + y3)) ∧ (IntKind.i64.wrap (a1 + y3)) < (y4.length : Int) then (if 0 ≤ (IntKind.i64.wrap (a1 + y3)) ∧ (IntKind.i64.wrap (a1 + y3)) < (y4.length : Int) then (if 0 ≤ (IntKind.i64.wrap (a2 + y3)) ∧ (IntKind.i64.wrap (a2 + y3)) < ((y4.set (IntKind.i64.wrap (a1 + y3)).toNat (y4.getD (IntKind.i64.wrap (a2 + y3)).toNat z27)).length : Int) then slices_swapRangeCmpFunc_l0 a1 a2 a3 k (IntKind.i64.wrap (y3 + 1)) ((y4.set (IntKind.i64.wrap (a1 + y3)).toNat (y4.getD (IntKind.i64.wrap (a2 + y3)).toNat z27)).set (IntKind.i64.wrap (a2 + y3)).toNat (y4.getD (IntKind.i64.wrap (a1 + y3)).toNat z27)) else none) else none) else none) else none) else some y4)
def slices_swapRangeCmpFunc (k : Nat) (l0 : List T27) (a1 : Int) (a2 : Int) (a3 : Int) : Option (List T27) := ((slices_swapRangeCmpFunc_l0 a1 a2 a3 k 0 l0).bind fun s1 => some s1)
set_option maxHeartbeats 4000000 in
theorem slices_swapRangeCmpFunc_calls {B : World} {G : GMap} {Γ : List Chunk} {W : World} (k : Nat) (l0 : List T27) (a1 : Int) (a2 : Int) (a3 : Int) (Al0 : Option Addr) (cl0 : Nat) (Cl0 : Chunk) (Hl0 : Ow k27 G Al0 cl0 l0 Cl0) (r : List T27) (h : slices_swapRangeCmpFunc k l0 a1 a2 a3 = some r) (hI : Inv B G ([] :: Cl0 :: Γ) W) :
    Calls Tryd.prog 95 [.slice Al0 l0.length cl0, .int .i64 a1, .int .i64 a2, .int .i64 a3, .func (.func 59) #[] #[]].toArray W (Ret B (fun v G' Γ' => ∃ (CRp0 : Chunk), v = .tuple #[] ∧ Ow k27 G' Al0 cl0 r CRp0 ∧ r.length = l0.length ∧ G = G' ∧ [] :: CRp0 :: Γ = Γ')) := by
  refine calls_WP (Γ := [] :: Cl0 :: Γ) (G := G) (B := B) Tryd.func95 rfl (by kernel_rfl) ?_ hI
  clear hI
  unfold slices_swapRangeCmpFunc at h
  refine WP.seqP [0, 1, 2, 3, 10] (L' := [(0, .slice Al0 l0.length cl0), (1, .int .i64 a1), (2, .int .i64 a2), (3, .int .i64 a3), (10, .int .i64 0)]) (by kernel_rfl) ?_
  rw [Option.bind_eq_some_iff] at h
  obtain ⟨os1, h, hk2⟩ := h
  refine WP.cutQ (fun L' G' Γ' => ∃ s1 : (List T27), s1 = os1 ∧ ∃ (Cs1 : Chunk), L' = [] ∧ G = G' ∧ [] :: Cs1 :: Γ = Γ' ∧ Ow k27 G Al0 cl0 s1 Cs1 ∧ s1.length = l0.length) ?_ ?_
  · clear hk2
    refine WP.block ?_
    refine WP.pick [0, 1, 2, 3, 10] ?_
    refine WP.loopF (fun kn5 L' G' Γ' => ∃ (y3 : Int), ∃ (y4 : List T27), slices_swapRangeCmpFunc_l0 a1 a2 a3 kn5 y3 y4 = some os1 ∧ ∃ (Cy4 : Chunk), L' = [(0, .slice Al0 y4.length cl0), (1, .int .i64 a1), (2, .int .i64 a2), (3, .int .i64 a3), (10, .int .i64 y3)] ∧ G = G' ∧ [] :: Cy4 :: Γ = Γ' ∧ Ow k27 G Al0 cl0 y4 Cy4 ∧ y4.length = l0.length) ?_ k ⟨0, l0, h, Cl0, rfl, rfl, rfl, Hl0, rfl⟩
    clear h
    rintro kn6 _ _ _ ⟨y3, y4, h, Cy4, rfl, rfl, rfl, Hy4, HLy4⟩
    cases kn6 with
    | zero => exact absurd h (by simp [slices_swapRangeCmpFunc_l0])
    | succ kn6 =>
      simp only [slices_swapRangeCmpFunc_l0] at h
      refine WP.seq ?_
      refine WP.seqP [0, 1, 2, 3, 10, 13] (L' := [(0, .slice Al0 y4.length cl0), (1, .int .i64 a1), (2, .int .i64 a2), (3, .int .i64 a3), (10, .int .i64 y3), (13, .bool (decide (y3 < a3)))]) (by kernel_rfl) ?_
      refine WP.cond (b := decide (y3 < a3)) (by kernel_rfl) (fun hc => ?_) (fun hc => ?_)
      · replace hc := of_decide_eq_true hc
        rw [if_pos hc] at h
        have hc7 := hc
        clear hc
        refine WP.skip ?_
        refine QP.next ?_
        refine WP.pick [0, 1, 2, 3, 10] ?_
        refine WP.seq ?_
        refine WP.block ?_
        skip
        refine WP.any (N := 24) (S := [⟨some 16, [0], []⟩, ⟨some 17, [1], []⟩, ⟨some 18, [10], []⟩, ⟨some 19, [17, 18], [1, 2]⟩, ⟨some 20, [0], []⟩, ⟨some 21, [2], []⟩, ⟨some 22, [10], []⟩, ⟨some 23, [21, 22], [5, 6]⟩, ⟨some 24, [0], []⟩, ⟨some 25, [2], []⟩, ⟨some 26, [10], []⟩, ⟨some 27, [25, 26], [9, 10]⟩, ⟨some 28, [24, 27], [8, 11]⟩, ⟨some 29, [28], [12]⟩, ⟨some 30, [0], []⟩, ⟨some 31, [1], []⟩, ⟨some 32, [10], []⟩, ⟨some 33, [31, 32], [15, 16]⟩, ⟨some 34, [30, 33], [14, 17]⟩, ⟨some 35, [34], [18]⟩, ⟨some 36, [16, 19], [0, 1, 2, 3, 8, 9, 10, 11, 12, 13, 19]⟩, ⟨none, [29, 36], [0, 1, 2, 3, 8, 9, 10, 11, 12, 13, 19, 20]⟩, ⟨some 37, [20, 23], [0, 1, 2, 3, 4, 5, 6, 7, 8, 9, 10, 11, 12, 13, 14, 15, 16, 17, 18, 19, 20, 21]⟩, ⟨none, [35, 37], [0, 1, 2, 3, 4, 5, 6, 7, 8, 9, 10, 11, 12, 13, 14, 15, 16, 17, 18, 19, 20, 21, 22]⟩]) (kw := 21) (G0 := G) (Γ0 := [] :: Cy4 :: Γ) mo (by kernel_rfl) (fun hS => ?_)
        refine WA.pure [0, 1, 2, 3, 4, 5, 6, 7, 8, 9, 10, 11, 14, 15, 16, 17] [0, 1, 2, 3, 10, 16, 19, 20, 23, 24, 27, 30, 33] (m := 8) (b' := 249855) (L' := [(0, .slice Al0 y4.length cl0), (1, .int .i64 a1), (2, .int .i64 a2), (3, .int .i64 a3), (10, .int .i64 y3), (16, .slice Al0 y4.length cl0), (19, .int .i64 (IntKind.i64.wrap (a1 + y3))), (20, .slice Al0 y4.length cl0), (23, .int .i64 (IntKind.i64.wrap (a2 + y3))), (24, .slice Al0 y4.length cl0), (27, .int .i64 (IntKind.i64.wrap (a2 + y3))), (30, .slice Al0 y4.length cl0), (33, .int .i64 (IntKind.i64.wrap (a1 + y3)))]) (by kernel_rfl) (NoPanic.block (NoPanic.then (NoPanic.then (NoPanic.block (NoPanic.then (NoPanic.body)))))) Under.refl hS (by kernel_rfl) ?_
        by_cases hb8 : 0 ≤ (IntKind.i64.wrap (a2 + y3)) ∧ (IntKind.i64.wrap (a2 + y3)) < (y4.length : Int)
        case neg => rw [if_neg hb8] at h; cases h
        rw [if_pos hb8] at h
        refine WA.tellD [21] (i := 12) (m := 7) (b' := 253951) (by kernel_rfl) (NoPanic.block (NoPanic.then (NoPanic.then (NoPanic.block (NoPanic.then (NoPanic.body)))))) Under.refl hS (by kernel_rfl) (op := .indexAddr 46 (.tmp 24) (.tmp 27)) (ty := 0) (d := some 28) (g := none) (by kernel_rfl) (by kernel_rfl) (by kernel_rfl) (Tells.indexAddr (A := Al0) (n := y4.length) (c := cl0) (k := .i64) (j := (IntKind.i64.wrap (a2 + y3))) (by kernel_rfl) (by kernel_rfl) (Hy4.isSome hb8.1 hb8.2) hb8.1 hb8.2 sl46) ?_
        refine WA.tellDE [21] (i := 13) (m := 6) (b' := 262143) (by kernel_rfl) (NoPanic.block (NoPanic.then (NoPanic.then (NoPanic.block (NoPanic.then (NoPanic.body)))))) Under.refl hS (by kernel_rfl) (op := .load 27 (.tmp 28)) (ty := 27) (d := some 29) (g := none) (by kernel_rfl) (by kernel_rfl) (by kernel_rfl) (Hy4.load (i := 1) rfl (agg := true) hb8.1 hb8.2 z27 ag27 (fun h => by cases h) (by kernel_rfl)) ?_
        rintro _ rfl
        by_cases hb9 : 0 ≤ (IntKind.i64.wrap (a1 + y3)) ∧ (IntKind.i64.wrap (a1 + y3)) < (y4.length : Int)
        case neg => rw [if_neg hb9] at h; cases h
        rw [if_pos hb9] at h
        refine WA.tellD [21, 19] (i := 18) (m := 5) (b' := 524287) (by kernel_rfl) (NoPanic.block (NoPanic.then (NoPanic.then (NoPanic.block (NoPanic.then (NoPanic.body)))))) Under.refl hS (by kernel_rfl) (op := .indexAddr 46 (.tmp 30) (.tmp 33)) (ty := 0) (d := some 34) (g := none) (by kernel_rfl) (by kernel_rfl) (by kernel_rfl) (Tells.indexAddr (A := Al0) (n := y4.length) (c := cl0) (k := .i64) (j := (IntKind.i64.wrap (a1 + y3))) (by kernel_rfl) (by kernel_rfl) (Hy4.isSome hb9.1 hb9.2) hb9.1 hb9.2 sl46) ?_
        refine WA.tellDE [21] (i := 19) (m := 4) (b' := 1048575) (by kernel_rfl) (NoPanic.block (NoPanic.then (NoPanic.then (NoPanic.block (NoPanic.then (NoPanic.body)))))) Under.refl hS (by kernel_rfl) (op := .load 27 (.tmp 34)) (ty := 27) (d := some 35) (g := none) (by kernel_rfl) (by kernel_rfl) (by kernel_rfl) (Hy4.load (i := 1) rfl (agg := true) hb9.1 hb9.2 z27 ag27 (fun h => by cases h) (by kernel_rfl)) ?_
        rintro _ rfl
        by_cases hb10 : 0 ≤ (IntKind.i64.wrap (a1 + y3)) ∧ (IntKind.i64.wrap (a1 + y3)) < (y4.length : Int)
        case neg => rw [if_neg hb10] at h; cases h
        rw [if_pos hb10] at h
        refine WA.tellD [21] (i := 20) (m := 3) (b' := 2097151) (by kernel_rfl) (NoPanic.block (NoPanic.then (NoPanic.then (NoPanic.block (NoPanic.then (NoPanic.body)))))) Under.refl hS (by kernel_rfl) (op := .indexAddr 46 (.tmp 16) (.tmp 19)) (ty := 0) (d := some 36) (g := none) (by kernel_rfl) (by kernel_rfl) (by kernel_rfl) (Tells.indexAddr (A := Al0) (n := y4.length) (c := cl0) (k := .i64) (j := (IntKind.i64.wrap (a1 + y3))) (by kernel_rfl) (by kernel_rfl) (Hy4.isSome hb10.1 hb10.2) hb10.1 hb10.2 sl46) ?_
        refine WA.opK (i := 21) (kw' := 23) (m := 2) (b' := 4194303) (by kernel_rfl) rfl hS (by kernel_rfl) (op := .store 27 (.tmp 36) (.tmp 29)) (ty := 0) (d := none) (g := none) (by kernel_rfl) (by kernel_rfl) (by kernel_rfl) (Ow.store Hy4 (i := 1) rfl hb10.1 hb10.2 (z := (y4.getD (IntKind.i64.wrap (a2 + y3)).toNat z27)) (v := .agg #[.int .i64 ((y4.getD (IntKind.i64.wrap (a2 + y3)).toNat z27).f0), .int .i64 ((y4.getD (IntKind.i64.wrap (a2 + y3)).toNat z27).f1), .int .i64 ((y4.getD (IntKind.i64.wrap (a2 + y3)).toNat z27).f2), .int .i64 ((y4.getD (IntKind.i64.wrap (a2 + y3)).toNat z27).f3), .string ((y4.getD (IntKind.i64.wrap (a2 + y3)).toNat z27).f4)]) (by kernel_rfl) (by kernel_rfl) sz27 (by exact rfl)) ?_
        rintro _ _ _ ⟨rfl, rfl, C11, Ho12, rfl⟩
        refine ⟨_, _, Under.refl, ?_⟩
        refine WA.reput 0 (v := .slice Al0 y4.length cl0) (v' := .slice Al0 (y4.set (IntKind.i64.wrap (a1 + y3)).toNat (y4.getD (IntKind.i64.wrap (a2 + y3)).toNat z27)).length cl0) (by kernel_rfl) (by simp only [List.length_set]) ?_
        refine WA.reput 20 (v := .slice Al0 y4.length cl0) (v' := .slice Al0 (y4.set (IntKind.i64.wrap (a1 + y3)).toNat (y4.getD (IntKind.i64.wrap (a2 + y3)).toNat z27)).length cl0) (by kernel_rfl) (by simp only [List.length_set]) ?_
        by_cases hb13 : 0 ≤ (IntKind.i64.wrap (a2 + y3)) ∧ (IntKind.i64.wrap (a2 + y3)) < ((y4.set (IntKind.i64.wrap (a1 + y3)).toNat (y4.getD (IntKind.i64.wrap (a2 + y3)).toNat z27)).length : Int)
        case neg => rw [if_neg hb13] at h; cases h
        rw [if_pos hb13] at h
        refine WA.tellD [23] (i := 22) (m := 1) (b' := 8388607) (by kernel_rfl) (NoPanic.block (NoPanic.then (NoPanic.then (NoPanic.block (NoPanic.then (NoPanic.body)))))) Under.refl hS (by kernel_rfl) (op := .indexAddr 46 (.tmp 20) (.tmp 23)) (ty := 0) (d := some 37) (g := none) (by kernel_rfl) (by kernel_rfl) (by kernel_rfl) (Tells.indexAddr (A := Al0) (n := (y4.set (IntKind.i64.wrap (a1 + y3)).toNat (y4.getD (IntKind.i64.wrap (a2 + y3)).toNat z27)).length) (c := cl0) (k := .i64) (j := (IntKind.i64.wrap (a2 + y3))) (by kernel_rfl) (by kernel_rfl) (Ho12.isSome hb13.1 hb13.2) hb13.1 hb13.2 sl46) ?_
        refine WA.opK (i := 23) (kw' := 24) (m := 0) (b' := 16777215) (by kernel_rfl) rfl hS (by kernel_rfl) (op := .store 27 (.tmp 37) (.tmp 35)) (ty := 0) (d := none) (g := none) (by kernel_rfl) (by kernel_rfl) (by kernel_rfl) (Ow.store Ho12 (i := 1) rfl hb13.1 hb13.2 (z := (y4.getD (IntKind.i64.wrap (a1 + y3)).toNat z27)) (v := .agg #[.int .i64 ((y4.getD (IntKind.i64.wrap (a1 + y3)).toNat z27).f0), .int .i64 ((y4.getD (IntKind.i64.wrap (a1 + y3)).toNat z27).f1), .int .i64 ((y4.getD (IntKind.i64.wrap (a1 + y3)).toNat z27).f2), .int .i64 ((y4.getD (IntKind.i64.wrap (a1 + y3)).toNat z27).f3), .string ((y4.getD (IntKind.i64.wrap (a1 + y3)).toNat z27).f4)]) (by kernel_rfl) (by kernel_rfl) sz27 (by exact rfl)) ?_
        rintro _ _ _ ⟨rfl, rfl, C14, Ho15, rfl⟩
        refine ⟨_, _, Under.refl, ?_⟩
        refine WA.reput 0 (v := .slice Al0 (y4.set (IntKind.i64.wrap (a1 + y3)).toNat (y4.getD (IntKind.i64.wrap (a2 + y3)).toNat z27)).length cl0) (v' := .slice Al0 ((y4.set (IntKind.i64.wrap (a1 + y3)).toNat (y4.getD (IntKind.i64.wrap (a2 + y3)).toNat z27)).set (IntKind.i64.wrap (a2 + y3)).toNat (y4.getD (IntKind.i64.wrap (a1 + y3)).toNat z27)).length cl0) (by kernel_rfl) (by simp only [List.length_set]) ?_
        refine WA.done hS (by kernel_rfl) ?_
        refine QP.pick [0, 1, 2, 3, 10] ?_
        refine QP.blockN ?_
        refine QP.next ?_
        refine WP.pick [0, 1, 2, 3, 10] ?_
        refine WP.regionP [0, 1, 2, 3, 10] (L' := [(0, .slice Al0 ((y4.set (IntKind.i64.wrap (a1 + y3)).toNat (y4.getD (IntKind.i64.wrap (a2 + y3)).toNat z27)).set (IntKind.i64.wrap (a2 + y3)).toNat (y4.getD (IntKind.i64.wrap (a1 + y3)).toNat z27)).length cl0), (1, .int .i64 a1), (2, .int .i64 a2), (3, .int .i64 a3), (10, .int .i64 (IntKind.i64.wrap (y3 + 1)))]) (by kernel_rfl) ?_
        refine QP.front (i := 1) rfl ?_
        refine QP.front (i := 1) rfl ?_
        refine QP.pick [0, 1, 2, 3, 10] ?_
        exact QP.meet ⟨kn6, Nat.lt_succ_self _, (IntKind.i64.wrap (y3 + 1)), ((y4.set (IntKind.i64.wrap (a1 + y3)).toNat (y4.getD (IntKind.i64.wrap (a2 + y3)).toNat z27)).set (IntKind.i64.wrap (a2 + y3)).toNat (y4.getD (IntKind.i64.wrap (a1 + y3)).toNat z27)), h, C14, rfl, rfl, rfl, Ho15, (by rw [List.length_set]; exact (by rw [List.length_set]; exact HLy4))⟩
      · replace hc := of_decide_eq_false hc
        rw [if_neg hc] at h
        have hc7 := hc
        clear hc
        refine WP.exit ?_
        refine QP.thenE ?_
        refine QP.thenE ?_
        refine QP.blockE ?_
        refine QP.pick [] ?_
        exact QP.meet ⟨_, Option.some.inj h, Cy4, rfl, rfl, rfl, Hy4, HLy4⟩
  · rintro _ _ _ ⟨s1, rfl, Cs1, rfl, rfl, rfl, Hs1, HLs1⟩
    clear h
    replace h := hk2
    obtain rfl := Option.some.inj h
    exact QP.returnedN [] [] _ (by kernel_rfl) (by kernel_rfl) (by kernel_rfl) (fun W hI => ⟨_, _, _, rfl, ⟨Cs1, rfl, Hs1, HLs1, rfl, rfl⟩, hI⟩)

/-! ### slices.rotateCmpFunc[grapevine/api.Record]: function 90 -/
def slices_rotateCmpFunc_l0 (a2 : Int) : Nat → Int → Int → (List T27) → Option (Int × (List T27))
  | 0, _, _, _ => none
  | k + 1, y3, y4, y5 => (if ¬ y3 = y4 then (if y3 > y4 then ((slices_swapRangeCmpFunc k y5 (IntKind.i64.wrap (a2 - y3)) a2 y4).bind fun t10 => slices_rotateCmpFunc_l0 a2 k (IntKind.i64.wrap (y3 - y4)) y4 t10) else ((slices_swapRangeCmpFunc k y5 (IntKind.i64.wrap (a2 - y3)) (IntKind.i64.wrap ((IntKind.i64.wrap (a2 + y4)) - y3)) y3).bind fun t14 => slices_rotateCmpFunc_l0 a2 k y3 (IntKind.i64.wrap (y4 - y3)) t14)) else some (y3, y5))
def slices_rotateCmpFunc (k : Nat) (l0 : List T27) (a1 : Int) (a2 : Int) (a3 : Int) : Option (List T27) := ((slices_rotateCmpFunc_l0 a2 k (IntKind.i64.wrap (a2 - a1)) (IntKind.i64.wrap (a3 - a2)) l0).bind fun s1 => ((slices_swapRangeCmpFunc k s1.2 (IntKind.i64.wrap (a2 - s1.1)) a2 s1.1).bind fun t18 => some t18))
set_option maxHeartbeats 4000000 in
theorem slices_rotateCmpFunc_calls {B : World} {G : GMap} {Γ : List Chunk} {W : World} (k : Nat) (l0 : List T27) (a1 : Int) (a2 : Int) (a3 : Int) (Al0 : Option Addr) (cl0 : Nat) (Cl0 : Chunk) (Hl0 : Ow k27 G Al0 cl0 l0 Cl0) (r : List T27) (h : slices_rotateCmpFunc k l0 a1 a2 a3 = some r) (hI : Inv B G ([] :: Cl0 :: Γ) W) :
    Calls Tryd.prog 90 [.slice Al0 l0.length cl0, .int .i64 a1, .int .i64 a2, .int .i64 a3, .func (.func 59) #[] #[]].toArray W (Ret B (fun v G' Γ' => ∃ (CRp0 : Chunk), v = .tuple #[] ∧ Ow k27 G' Al0 cl0 r CRp0 ∧ r.length = l0.length ∧ G = G' ∧ [] :: CRp0 :: Γ = Γ')) := by
  refine calls_WP (Γ := [] :: Cl0 :: Γ) (G := G) (B := B) Tryd.func90 rfl (by kernel_rfl) ?_ hI
  clear hI
  unfold slices_rotateCmpFunc at h
  refine WP.seqP [0, 2, 3, 4, 10] (L' := [(0, .slice Al0 l0.length cl0), (2, .int .i64 a2), (3, .int .i64 a3), (4, .func (.func 59) #[] #[]), (10, .int .i64 (IntKind.i64.wrap (a2 - a1)))]) (by kernel_rfl) ?_
  refine WP.seqP [0, 2, 4, 10, 11] (L' := [(0, .slice Al0 l0.length cl0), (2, .int .i64 a2), (4, .func (.func 59) #[] #[]), (10, .int .i64 (IntKind.i64.wrap (a2 - a1))), (11, .int .i64 (IntKind.i64.wrap (a3 - a2)))]) (by kernel_rfl) ?_
  rw [Option.bind_eq_some_iff] at h
  obtain ⟨os1, h, hk2⟩ := h
  refine WP.cut (fun L' G' Γ' => ∃ s1 : Int × (List T27), s1 = os1 ∧ ∃ (Cs1_2 : Chunk), L' = [(0, .slice Al0 s1.2.length cl0), (2, .int .i64 a2), (4, .func (.func 59) #[] #[]), (10, .int .i64 s1.1)] ∧ G = G' ∧ [] :: Cs1_2 :: Γ = Γ' ∧ Ow k27 G Al0 cl0 s1.2 Cs1_2 ∧ s1.2.length = l0.length) ?_ ?_
  · clear hk2
    refine WP.block ?_
    refine WP.pick [0, 2, 4, 10, 11] ?_
    refine WP.loopF (fun kn6 L' G' Γ' => ∃ (y3 : Int), ∃ (y4 : Int), ∃ (y5 : List T27), slices_rotateCmpFunc_l0 a2 kn6 y3 y4 y5 = some os1 ∧ ∃ (Cy5 : Chunk), L' = [(0, .slice Al0 y5.length cl0), (2, .int .i64 a2), (4, .func (.func 59) #[] #[]), (10, .int .i64 y3), (11, .int .i64 y4)] ∧ G = G' ∧ [] :: Cy5 :: Γ = Γ' ∧ Ow k27 G Al0 cl0 y5 Cy5 ∧ y5.length = l0.length) ?_ k ⟨(IntKind.i64.wrap (a2 - a1)), (IntKind.i64.wrap (a3 - a2)), l0, h, Cl0, rfl, rfl, rfl, Hl0, rfl⟩
    clear h
    rintro kn7 _ _ _ ⟨y3, y4, y5, h, Cy5, rfl, rfl, rfl, Hy5, HLy5⟩
    cases kn7 with
    | zero => exact absurd h (by simp [slices_rotateCmpFunc_l0])
    | succ kn7 =>
      simp only [slices_rotateCmpFunc_l0] at h
      refine WP.seq ?_
      refine WP.seqP [0, 2, 4, 10, 11, 20] (L' := [(0, .slice Al0 y5.length cl0), (2, .int .i64 a2), (4, .func (.func 59) #[] #[]), (10, .int .i64 y3), (11, .int .i64 y4), (20, .bool (y3 != y4))]) (by kernel_rfl) ?_
      refine WP.cond (b := (y3 != y4)) (by kernel_rfl) (fun hc => ?_) (fun hc => ?_)
      · replace hc := (bne_iff_ne.1 hc)
        rw [if_pos hc] at h
        have hc8 := hc
        clear hc
        refine WP.skip ?_
        refine QP.next ?_
        refine WP.pick [0, 2, 4, 10, 11] ?_
        refine WP.block ?_
        refine WP.seqP [0, 2, 4, 10, 11, 23] (L' := [(0, .slice Al0 y5.length cl0), (2, .int .i64 a2), (4, .func (.func 59) #[] #[]), (10, .int .i64 y3), (11, .int .i64 y4), (23, .bool (decide (y3 > y4)))]) (by kernel_rfl) ?_
        refine WP.cond (b := decide (y3 > y4)) (by kernel_rfl) (fun hc => ?_) (fun hc => ?_)
        · replace hc := of_decide_eq_true hc
          rw [if_pos hc] at h
          have hc9 := hc
          clear hc
          refine WP.seqR ?_
          refine WL.pure 0 7 [0, 2, 4, 10, 11, 24, 27, 28, 29, 30] (L' := [(0, .slice Al0 y5.length cl0), (2, .int .i64 a2), (4, .func (.func 59) #[] #[]), (10, .int .i64 y3), (11, .int .i64 y4), (24, .slice Al0 y5.length cl0), (27, .int .i64 (IntKind.i64.wrap (a2 - y3))), (28, .int .i64 a2), (29, .int .i64 y4), (30, .func (.func 59) #[] #[])]) (by kernel_rfl) (by decide) ?_
          refine WL.front (i := 1) rfl ?_
          refine WL.front (i := 1) rfl ?_
          rw [Option.bind_eq_some_iff] at h
          obtain ⟨t10, ht11, h⟩ := h
          refine WL.op (op := .call { callee := (.value (.func 95)), args := #[(.tmp 24), (.tmp 27), (.tmp 28), (.tmp 29), (.tmp 30)], argTypes := #[46, 3, 3, 3, 74] }) (ty := 0) (d := some 31) (g := none) (by kernel_rfl) (by kernel_rfl) (by kernel_rfl) (Does.call (f := 95) (args := [.slice Al0 y5.length cl0, .int .i64 (IntKind.i64.wrap (a2 - y3)), .int .i64 a2, .int .i64 y4, .func (.func 59) #[] #[]]) (by kernel_rfl) (fun W hI => (slices_swapRangeCmpFunc_calls kn7 y5 (IntKind.i64.wrap (a2 - y3)) a2 y4 Al0 cl0 Cy5 Hy5 t10 ht11 hI))) ?_
          rintro _ _ _ ⟨CR12p0, rfl, HR12p0, HLR12p0, rfl, rfl⟩
          refine WL.reput 0 (v := .slice Al0 y5.length cl0) (v' := .slice Al0 t10.length cl0) (by kernel_rfl) (by rw [HLR12p0]) ?_
          refine WL.restQ 8 [0, 2, 4, 10, 11] (L' := [(0, .slice Al0 t10.length cl0), (2, .int .i64 a2), (4, .func (.func 59) #[] #[]), (10, .int .i64 y3), (11, .int .i64 y4)]) (by kernel_rfl) ?_
          refine WP.regionP [0, 2, 4, 10, 11] (L' := [(0, .slice Al0 t10.length cl0), (2, .int .i64 a2), (4, .func (.func 59) #[] #[]), (10, .int .i64 (IntKind.i64.wrap (y3 - y4))), (11, .int .i64 y4)]) (by kernel_rfl) ?_
          refine QP.blockN ?_
          refine QP.front (i := 1) rfl ?_
          refine QP.front (i := 1) rfl ?_
          refine QP.pick [0, 2, 4, 10, 11] ?_
          exact QP.meet ⟨kn7, Nat.lt_succ_self _, (IntKind.i64.wrap (y3 - y4)), y4, t10, h, CR12p0, rfl, rfl, rfl, HR12p0, (HLR12p0.trans HLy5)⟩
        · replace hc := of_decide_eq_false hc
          rw [if_neg hc] at h
          have hc9 := hc
          clear hc
          refine WP.seqR ?_
          refine WL.pure 0 11 [0, 2, 4, 10, 11, 35, 38, 43, 44, 45] (L' := [(0, .slice Al0 y5.length cl0), (2, .int .i64 a2), (4, .func (.func 59) #[] #[]), (10, .int .i64 y3), (11, .int .i64 y4), (35, .slice Al0 y5.length cl0), (38, .int .i64 (IntKind.i64.wrap (a2 - y3))), (43, .int .i64 (IntKind.i64.wrap ((IntKind.i64.wrap (a2 + y4)) - y3))), (44, .int .i64 y3), (45, .func (.func 59) #[] #[])]) (by kernel_rfl) (by decide) ?_
          refine WL.front (i := 1) rfl ?_
          refine WL.front (i := 1) rfl ?_
          rw [Option.bind_eq_some_iff] at h
          obtain ⟨t14, ht15, h⟩ := h
          refine WL.op (op := .call { callee := (.value (.func 95)), args := #[(.tmp 35), (.tmp 38), (.tmp 43), (.tmp 44), (.tmp 45)], argTypes := #[46, 3, 3, 3, 74] }) (ty := 0) (d := some 46) (g := none) (by kernel_rfl) (by kernel_rfl) (by kernel_rfl) (Does.call (f := 95) (args := [.slice Al0 y5.length cl0, .int .i64 (IntKind.i64.wrap (a2 - y3)), .int .i64 (IntKind.i64.wrap ((IntKind.i64.wrap (a2 + y4)) - y3)), .int .i64 y3, .func (.func 59) #[] #[]]) (by kernel_rfl) (fun W hI => (slices_swapRangeCmpFunc_calls kn7 y5 (IntKind.i64.wrap (a2 - y3)) (IntKind.i64.wrap ((IntKind.i64.wrap (a2 + y4)) - y3)) y3 Al0 cl0 Cy5 Hy5 t14 ht15 hI))) ?_
          rintro _ _ _ ⟨CR16p0, rfl, HR16p0, HLR16p0, rfl, rfl⟩
          refine WL.reput 0 (v := .slice Al0 y5.length cl0) (v' := .slice Al0 t14.length cl0) (by kernel_rfl) (by rw [HLR16p0]) ?_
          refine WL.restQ 12 [0, 2, 4, 10, 11] (L' := [(0, .slice Al0 t14.length cl0), (2, .int .i64 a2), (4, .func (.func 59) #[] #[]), (10, .int .i64 y3), (11, .int .i64 y4)]) (by kernel_rfl) ?_
          refine WP.regionP [0, 2, 4, 10, 11] (L' := [(0, .slice Al0 t14.length cl0), (2, .int .i64 a2), (4, .func (.func 59) #[] #[]), (10, .int .i64 y3), (11, .int .i64 (IntKind.i64.wrap (y4 - y3)))]) (by kernel_rfl) ?_
          refine QP.blockN ?_
          refine QP.front (i := 1) rfl ?_
          refine QP.front (i := 1) rfl ?_
          refine QP.pick [0, 2, 4, 10, 11] ?_
          exact QP.meet ⟨kn7, Nat.lt_succ_self _, y3, (IntKind.i64.wrap (y4 - y3)), t14, h, CR16p0, rfl, rfl, rfl, HR16p0, (HLR16p0.trans HLy5)⟩
      · replace hc := (not_not_intro (bne_eq_false_iff_eq.1 hc))
        rw [if_neg hc] at h
        have hc8 := hc
        clear hc
        refine WP.exit ?_
        refine QP.thenE ?_
        refine QP.thenE ?_
        refine QP.blockE ?_
        refine QP.pick [0, 2, 4, 10] ?_
        exact QP.meet ⟨_, Option.some.inj h, Cy5, rfl, rfl, rfl, Hy5, HLy5⟩
  · rintro _ _ _ ⟨s1, rfl, Cs1_2, rfl, rfl, rfl, Hs1_2, HLs1_2⟩
    clear h
    replace h := hk2
    refine WP.region ?_
    refine WL.pure 0 7 [50, 53, 54, 55, 56] (L' := [(50, .slice Al0 s1.2.length cl0), (53, .int .i64 (IntKind.i64.wrap (a2 - s1.1))), (54, .int .i64 a2), (55, .int .i64 s1.1), (56, .func (.func 59) #[] #[])]) (by kernel_rfl) (by decide) ?_
    refine WL.front (i := 1) rfl ?_
    refine WL.front (i := 1) rfl ?_
    rw [Option.bind_eq_some_iff] at h
    obtain ⟨t18, ht19, h⟩ := h
    refine WL.op (op := .call { callee := (.value (.func 95)), args := #[(.tmp 50), (.tmp 53), (.tmp 54), (.tmp 55), (.tmp 56)], argTypes := #[46, 3, 3, 3, 74] }) (ty := 0) (d := some 57) (g := none) (by kernel_rfl) (by kernel_rfl) (by kernel_rfl) (Does.call (f := 95) (args := [.slice Al0 s1.2.length cl0, .int .i64 (IntKind.i64.wrap (a2 - s1.1)), .int .i64 a2, .int .i64 s1.1, .func (.func 59) #[] #[]]) (by kernel_rfl) (fun W hI => (slices_swapRangeCmpFunc_calls k s1.2 (IntKind.i64.wrap (a2 - s1.1)) a2 s1.1 Al0 cl0 Cs1_2 Hs1_2 t18 ht19 hI))) ?_
    rintro _ _ _ ⟨CR20p0, rfl, HR20p0, HLR20p0, rfl, rfl⟩
    refine WL.rest 8 [] (L' := []) (by kernel_rfl) ?_
    obtain rfl := Option.some.inj h
    exact QP.returnedN [] [] _ (by kernel_rfl) (by kernel_rfl) (by kernel_rfl) (fun W hI => ⟨_, _, _, rfl, ⟨CR20p0, rfl, HR20p0, (HLR20p0.trans HLs1_2), rfl, rfl⟩, hI⟩)

/-! ### slices.symMergeCmpFunc[grapevine/api.Record]: function 84 -/
def slices_symMergeCmpFunc_l0 (l0 : List T27) (a1 : Int) : Nat → Int → Int → Option Int
  | 0, _, _ => none
  | k + 1, y4, y5 => (if y4 < y5 then ((some (IntKind.i64.wrap (shrK .u64 (IntKind.u64.wrap (IntKind.i64.wrap (y4 + y5))) 1))).bind fun v9 => (if 0 ≤ v9 ∧ v9 < (l0.length : Int) then (if 0 ≤ a1 ∧ a1 < (l0.length : Int) then ((record_order (l0.getD v9.toNat z27) (l0.getD a1.toNat z27)).bind fun t13 => (if t13 < 0 then slices_symMergeCmpFunc_l0 l0 a1 k (IntKind.i64.wrap (v9 + 1)) y5 else slices_symMergeCmpFunc_l0 l0 a1 k y4 v9)) else none) else none)) else some y4)
def slices_symMergeCmpFunc_l1 (s2 : Int) : Nat → Int → (List T27) → Option (List T27)
  | 0, _, _ => none
  | k + 1, y20, y21 => (if y20 < (IntKind.i64.wrap (s2 - 1)) then (if 0 ≤ (IntKind.i64.wrap (y20 + 1)) ∧ (IntKind.i64.wrap (y20 + 1)) < (y21.length : Int) then (if 0 ≤ y20 ∧ y20 < (y21.length : Int) then (if 0 ≤ y20 ∧ y20 < (y21.length : Int) then (if 0 ≤ (IntKind.i64.wrap (y20 + 1)) ∧ (IntKind.i64.wrap (y20 + 1)) < ((y21.set y20.toNat (y21.getD (IntKind.i64.wrap (y20 + 1)).toNat z27)).length : Int) then slices_symMergeCmpFunc_l1 s2 k (IntKind.i64.wrap (y20 + 1)) ((y21.set y20.toNat (y21.getD (IntKind.i64.wrap (y20 + 1)).toNat z27)).set (IntKind.i64.wrap (y20 + 1)).toNat (y21.getD y20.toNat z27)) else none) else none) else none) else none) else some y21)
def slices_symMergeCmpFunc_l2 (l0 : List T27) (a2 : Int) : Nat → Int → Int → Option Int
  | 0, _, _ => none
  | k + 1, y36, y37 => (if y36 < y37 then ((some (IntKind.i64.wrap (shrK .u64 (IntKind.u64.wrap (IntKind.i64.wrap (y36 + y37))) 1))).bind fun v41 => (if 0 ≤ a2 ∧ a2 < (l0.length : Int) then (if 0 ≤ v41 ∧ v41 < (l0.length : Int) then ((record_order (l0.getD a2.toNat z27) (l0.getD v41.toNat z27)).bind fun t45 => (if (!(decide (t45 < 0))) = true then slices_symMergeCmpFunc_l2 l0 a2 k (IntKind.i64.wrap (v41 + 1)) y37 else slices_symMergeCmpFunc_l2 l0 a2 k y36 v41)) else none) else none)) else some y36)
def slices_symMergeCmpFunc_l3 (s34 : Int) : Nat → Int → (List T27) → Option (List T27)
  | 0, _, _ => none
  | k + 1, y52, y53 => (if y52 > s34 then (if 0 ≤ (IntKind.i64.wrap (y52 - 1)) ∧ (IntKind.i64.wrap (y52 - 1)) < (y53.length : Int) then (if 0 ≤ y52 ∧ y52 < (y53.length : Int) then (if 0 ≤ y52 ∧ y52 < (y53.length : Int) then (if 0 ≤ (IntKind.i64.wrap (y52 - 1)) ∧ (IntKind.i64.wrap (y52 - 1)) < ((y53.set y52.toNat (y53.getD (IntKind.i64.wrap (y52 - 1)).toNat z27)).length : Int) then slices_symMergeCmpFunc_l3 s34 k (IntKind.i64.wrap (y52 - 1)) ((y53.set y52.toNat (y53.getD (IntKind.i64.wrap (y52 - 1)).toNat z27)).set (IntKind.i64.wrap (y52 - 1)).toNat (y53.getD y52.toNat z27)) else none) else none) else none) else none) else some y53)
def slices_symMergeCmpFunc_l4 (l0 : List T27) (v70 : Int) : Nat → Int → Int → Option Int
  | 0, _, _ => none
  | k + 1, y74, y75 => (if y74 < y75 then ((some (IntKind.i64.wrap (shrK .u64 (IntKind.u64.wrap (IntKind.i64.wrap (y74 + y75))) 1))).bind fun v79 => (if 0 ≤ (IntKind.i64.wrap (v70 - v79)) ∧ (IntKind.i64.wrap (v70 - v79)) < (l0.length : Int) then (if 0 ≤ v79 ∧ v79 < (l0.length : Int) then ((record_order (l0.getD (IntKind.i64.wrap (v70 - v79)).toNat z27) (l0.getD v79.toNat z27)).bind fun t83 => (if (!(decide (t83 < 0))) = true then slices_symMergeCmpFunc_l4 l0 v70 k (IntKind.i64.wrap (v79 + 1)) y75 else slices_symMergeCmpFunc_l4 l0 v70 k y74 v79)) else none) else none)) else some y74)
def slices_symMergeCmpFunc_l5 (l0 : List T27) (v146 : Int) : Nat → Int → Int → Option Int
  | 0, _, _ => none
  | k + 1, y150, y151 => (if y150 < y151 then ((some (IntKind.i64.wrap (shrK .u64 (IntKind.u64.wrap (IntKind.i64.wrap (y150 + y151))) 1))).bind fun v155 => (if 0 ≤ (IntKind.i64.wrap (v146 - v155)) ∧ (IntKind.i64.wrap (v146 - v155)) < (l0.length : Int) then (if 0 ≤ v155 ∧ v155 < (l0.length : Int) then ((record_order (l0.getD (IntKind.i64.wrap (v146 - v155)).toNat z27) (l0.getD v155.toNat z27)).bind fun t159 => (if (!(decide (t159 < 0))) = true then slices_symMergeCmpFunc_l5 l0 v146 k (IntKind.i64.wrap (v155 + 1)) y151 else slices_symMergeCmpFunc_l5 l0 v146 k y150 v155)) else none) else none)) else some y150)
def slices_symMergeCmpFunc : Nat → (List T27) → Int → Int → Int → Option (List T27)
  | 0, _, _, _, _ => none
  | k + 1, l0, a1, a2, a3 => (if (IntKind.i64.wrap (a2 - a1)) = 1 then ((slices_symMergeCmpFunc_l0 l0 a1 k a2 a3).bind fun s2 => ((slices_symMergeCmpFunc_l1 s2 k a1 l0).bind fun s18 => some s18)) else (if (IntKind.i64.wrap (a3 - a2)) = 1 then ((slices_symMergeCmpFunc_l2 l0 a2 k a1 a2).bind fun s34 => ((slices_symMergeCmpFunc_l3 s34 k a2 l0).bind fun s50 => some s50)) else ((some (IntKind.i64.wrap (shrK .u64 (IntKind.u64.wrap (IntKind.i64.wrap (a1 + a3))) 1))).bind fun v65 => (if a2 > v65 then ((some (IntKind.i64.wrap ((IntKind.i64.wrap (v65 + a2)) - a3))).bind fun v68 => ((some (IntKind.i64.wrap ((IntKind.i64.wrap (v65 + a2)) - 1))).bind fun v70 => ((slices_symMergeCmpFunc_l4 l0 v70 k v68 v65).bind fun s72 => ((some (IntKind.i64.wrap ((IntKind.i64.wrap (v65 + a2)) - s72))).bind fun v88 => ((if s72 < a2 then some (decide (a2 < v88)) else some false).bind fun s90 => (if s90 = true then ((slices_rotateCmpFunc k l0 s72 a2 v88).bind fun t94 => ((if a1 < s72 then some (decide (s72 < v65)) else some false).bind fun s98 => (if s98 = true then (((slices_symMergeCmpFunc k) t94 a1 s72 v65).bind fun t102 => ((if v65 < v88 then some (decide (v88 < a3)) else some false).bind fun s106 => (if s106 = true then (((slices_symMergeCmpFunc k) t102 v65 v88 a3).bind fun t110 => some t110) else some t102))) else ((if v65 < v88 then some (decide (v88 < a3)) else some false).bind fun s114 => (if s114 = true then (((slices_symMergeCmpFunc k) t94 v65 v88 a3).bind fun t118 => some t118) else some t94))))) else ((if a1 < s72 then some (decide (s72 < v65)) else some false).bind fun s122 => (if s122 = true then (((slices_symMergeCmpFunc k) l0 a1 s72 v65).bind fun t126 => ((if v65 < v88 then some (decide (v88 < a3)) else some false).bind fun s130 => (if s130 = true then (((slices_symMergeCmpFunc k) t126 v65 v88 a3).bind fun t134 => some t134) else some t126))) else ((if v65 < v88 then some (decide (v88 < a3)) else some false).bind fun s138 => (if s138 = true then (((slices_symMergeCmpFunc k) l0 v65 v88 a3).bind fun t142 => some t142) else some l0)))))))))) else ((some (IntKind.i64.wrap ((IntKind.i64.wrap (v65 + a2)) - 1))).bind fun v146 => ((slices_symMergeCmpFunc_l5 l0 v146 k a1 a2).bind fun s148 => ((some (IntKind.i64.wrap ((IntKind.i64.wrap (v65 + a2)) - s148))).bind fun v164 => ((if s148 < a2 then some (decide (a2 < v164)) else some false).bind fun s166 => (if s166 = true then ((slices_rotateCmpFunc k l0 s148 a2 v164).bind fun t170 => ((if a1 < s148 then some (decide (s148 < v65)) else some false).bind fun s174 => (if s174 = true then (((slices_symMergeCmpFunc k) t170 a1 s148 v65).bind fun t178 => ((if v65 < v164 then some (decide (v164 < a3)) else some false).bind fun s182 => (if s182 = true then (((slices_symMergeCmpFunc k) t178 v65 v164 a3).bind fun t186 => some t186) else some t178))) else ((if v65 < v164 then some (decide (v164 < a3)) else some false).bind fun s190 => (if s190 = true then (((slices_symMergeCmpFunc k) t170 v65 v164 a3).bind fun t194 => some t194) else some t170))))) else ((if a1 < s148 then some (decide (s148 < v65)) else some false).bind fun s198 => (if s198 = true then (((slices_symMergeCmpFunc k) l0 a1 s148 v65).bind fun t202 => ((if v65 < v164 then some (decide (v164 < a3)) else some false).bind fun s206 => (if s206 = true then (((slices_symMergeCmpFunc k) t202 v65 v164 a3).bind fun t210 => some t210) else some t202))) else ((if v65 < v164 then some (decide (v164 < a3)) else some false).bind fun s214 => (if s214 = true then (((slices_symMergeCmpFunc k) l0 v65 v164 a3).bind fun t218 => some t218) else some l0)))))))))))))
set_option maxHeartbeats 4000000 in
theorem slices_symMergeCmpFunc_calls_k (k : Nat) : ∀ {B : World} {G : GMap} {Γ : List Chunk} {W : World} (l0 : List T27) (a1 : Int) (a2 : Int) (a3 : Int) (Al0 : Option Addr) (cl0 : Nat) (Cl0 : Chunk) (Hl0 : Ow k27 G Al0 cl0 l0 Cl0) (r : List T27) (h : slices_symMergeCmpFunc k l0 a1 a2 a3 = some r) (hI : Inv B G ([] :: Cl0 :: Γ) W),
    Calls Tryd.prog 84 [.slice Al0 l0.length cl0, .int .i64 a1, .int .i64 a2, .int .i64 a3, .func (.func 59) #[] #[]].toArray W (Ret B (fun v G' Γ' => ∃ (CRp0 : Chunk), v = .tuple #[] ∧ Ow k27 G' Al0 cl0 r CRp0 ∧ r.length = l0.length ∧ G = G' ∧ [] :: CRp0 :: Γ = Γ')) := by
  induction k with
  | zero => intro B G Γ W l0 a1 a2 a3 Al0 cl0 Cl0 Hl0 r h hI; exact absurd h (by simp [slices_symMergeCmpFunc])
  | succ kf ih =>
    intro B G Γ W l0 a1 a2 a3 Al0 cl0 Cl0 Hl0 r h hI
    refine calls_WP (Γ := [] :: Cl0 :: Γ) (G := G) (B := B) Tryd.func84 rfl (by kernel_rfl) ?_ hI
    clear hI
    simp only [slices_symMergeCmpFunc] at h
    refine WP.seq ?_
    refine WP.seqP [0, 1, 2, 3, 4, 28] (L' := [(0, .slice Al0 l0.length cl0), (1, .int .i64 a1), (2, .int .i64 a2), (3, .int .i64 a3), (4, .func (.func 59) #[] #[]), (28, .bool ((IntKind.i64.wrap (a2 - a1)) == 1))]) (by kernel_rfl) ?_
    refine WP.cond (b := ((IntKind.i64.wrap (a2 - a1)) == 1)) (by kernel_rfl) (fun hc => ?_) (fun hc => ?_)
    · replace hc := eq_of_beq hc
      rw [if_pos hc] at h
      have hc1 := hc
      clear hc
      refine WP.seqP [0, 1, 3, 4, 10] (L' := [(0, .slice Al0 l0.length cl0), (1, .int .i64 a1), (3, .int .i64 a3), (4, .func (.func 59) #[] #[]), (10, .int .i64 a2)]) (by kernel_rfl) ?_
      refine WP.seqP [0, 1, 4, 10, 11] (L' := [(0, .slice Al0 l0.length cl0), (1, .int .i64 a1), (4, .func (.func 59) #[] #[]), (10, .int .i64 a2), (11, .int .i64 a3)]) (by kernel_rfl) ?_
      rw [Option.bind_eq_some_iff] at h
      obtain ⟨os2, h, hk3⟩ := h
      refine WP.cut (fun L' G' Γ' => ∃ s2 : Int, s2 = os2 ∧ L' = [(0, .slice Al0 l0.length cl0), (1, .int .i64 a1), (10, .int .i64 s2)] ∧ G = G' ∧ [] :: Cl0 :: Γ = Γ') ?_ ?_
      · clear hk3
        refine WP.block ?_
        refine WP.pick [0, 1, 4, 10, 11] ?_
        refine WP.loopF (fun kn6 L' G' Γ' => ∃ (y4 : Int), ∃ (y5 : Int), slices_symMergeCmpFunc_l0 l0 a1 kn6 y4 y5 = some os2 ∧ L' = [(0, .slice Al0 l0.length cl0), (1, .int .i64 a1), (4, .func (.func 59) #[] #[]), (10, .int .i64 y4), (11, .int .i64 y5)] ∧ G = G' ∧ [] :: Cl0 :: Γ = Γ') ?_ kf ⟨a2, a3, h, rfl, rfl, rfl⟩
        clear h
        rintro kn7 _ _ _ ⟨y4, y5, h, rfl, rfl, rfl⟩
        cases kn7 with
        | zero => exact absurd h (by simp [slices_symMergeCmpFunc_l0])
        | succ kn7 =>
          simp only [slices_symMergeCmpFunc_l0] at h
          refine WP.seq ?_
          refine WP.seqP [0, 1, 4, 10, 11, 33] (L' := [(0, .slice Al0 l0.length cl0), (1, .int .i64 a1), (4, .func (.func 59) #[] #[]), (10, .int .i64 y4), (11, .int .i64 y5), (33, .bool (decide (y4 < y5)))]) (by kernel_rfl) ?_
          refine WP.cond (b := decide (y4 < y5)) (by kernel_rfl) (fun hc => ?_) (fun hc => ?_)
          · replace hc := of_decide_eq_true hc
            rw [if_pos hc] at h
            have hc8 := hc
            clear hc
            refine WP.skip ?_
            refine QP.next ?_
            refine WP.pick [0, 1, 4, 10, 11] ?_
            refine WP.block ?_
            refine WP.seqP [0, 1, 4, 10, 11, 12] (L' := [(0, .slice Al0 l0.length cl0), (1, .int .i64 a1), (4, .func (.func 59) #[] #[]), (10, .int .i64 y4), (11, .int .i64 y5), (12, .int .i64 (IntKind.i64.wrap (shrK .u64 (IntKind.u64.wrap (IntKind.i64.wrap (y4 + y5))) 1)))]) (by kernel_rfl) ?_
            obtain ⟨v9, hv10, h⟩ := Option.bind_eq_some_iff.1 h
            replace hv10 := Option.some.inj hv10
            refine WP.reput 12 (v := .int .i64 (IntKind.i64.wrap (shrK .u64 (IntKind.u64.wrap (IntKind.i64.wrap (y4 + y5))) 1))) (v' := .int .i64 v9) (by kernel_rfl) (by subst hv10; rfl) ?_
            refine WP.pick [0, 1, 4, 10, 11, 12] ?_
            refine WP.seq ?_
            refine WP.any (N := 11) (S := [⟨some 40, [4], []⟩, ⟨some 41, [0], []⟩, ⟨some 42, [12], []⟩, ⟨some 43, [41, 42], [1, 2]⟩, ⟨some 44, [43], [3]⟩, ⟨some 45, [0], []⟩, ⟨some 46, [1], []⟩, ⟨some 47, [45, 46], [5, 6]⟩, ⟨some 48, [47], [7]⟩, ⟨some 49, [40, 44, 48], [0, 4, 8]⟩, ⟨some 50, [49], [9]⟩]) (kw := 11) (G0 := G) (Γ0 := [] :: Cl0 :: Γ) mo (by kernel_rfl) (fun hS => ?_)
            refine WA.pure [0, 1, 2, 5, 6] [0, 1, 4, 10, 11, 12, 40, 41, 42, 45, 46] (m := 6) (b' := 103) (L' := [(0, .slice Al0 l0.length cl0), (1, .int .i64 a1), (4, .func (.func 59) #[] #[]), (10, .int .i64 y4), (11, .int .i64 y5), (12, .int .i64 v9), (40, .func (.func 59) #[] #[]), (41, .slice Al0 l0.length cl0), (42, .int .i64 v9), (45, .slice Al0 l0.length cl0), (46, .int .i64 a1)]) (by kernel_rfl) (NoPanic.then (NoPanic.block (NoPanic.then (NoPanic.block (NoPanic.then (NoPanic.then (NoPanic.body))))))) Under.refl hS (by kernel_rfl) ?_
            by_cases hb11 : 0 ≤ v9 ∧ v9 < (l0.length : Int)
            case neg => rw [if_neg hb11] at h; cases h
            rw [if_pos hb11] at h
            refine WA.tellD [] (i := 3) (m := 5) (b' := 111) (by kernel_rfl) (NoPanic.then (NoPanic.block (NoPanic.then (NoPanic.block (NoPanic.then (NoPanic.then (NoPanic.body))))))) Under.refl hS (by kernel_rfl) (op := .indexAddr 46 (.tmp 41) (.tmp 42)) (ty := 0) (d := some 43) (g := none) (by kernel_rfl) (by kernel_rfl) (by kernel_rfl) (Tells.indexAddr (A := Al0) (n := l0.length) (c := cl0) (k := .i64) (j := v9) (by kernel_rfl) (by kernel_rfl) (Hl0.isSome hb11.1 hb11.2) hb11.1 hb11.2 sl46) ?_
            refine WA.tellDE [] (i := 4) (m := 4) (b' := 127) (by kernel_rfl) (NoPanic.then (NoPanic.block (NoPanic.then (NoPanic.block (NoPanic.then (NoPanic.then (NoPanic.body))))))) Under.refl hS (by kernel_rfl) (op := .load 27 (.tmp 43)) (ty := 27) (d := some 44) (g := none) (by kernel_rfl) (by kernel_rfl) (by kernel_rfl) (Hl0.load (i := 1) rfl (agg := true) hb11.1 hb11.2 z27 ag27 (fun h => by cases h) (by kernel_rfl)) ?_
            rintro _ rfl
            by_cases hb12 : 0 ≤ a1 ∧ a1 < (l0.length : Int)
            case neg => rw [if_neg hb12] at h; cases h
            rw [if_pos hb12] at h
            refine WA.tellD [] (i := 7) (m := 3) (b' := 255) (by kernel_rfl) (NoPanic.then (NoPanic.block (NoPanic.then (NoPanic.block (NoPanic.then (NoPanic.then (NoPanic.body))))))) Under.refl hS (by kernel_rfl) (op := .indexAddr 46 (.tmp 45) (.tmp 46)) (ty := 0) (d := some 47) (g := none) (by kernel_rfl) (by kernel_rfl) (by kernel_rfl) (Tells.indexAddr (A := Al0) (n := l0.length) (c := cl0) (k := .i64) (j := a1) (by kernel_rfl) (by kernel_rfl) (Hl0.isSome hb12.1 hb12.2) hb12.1 hb12.2 sl46) ?_
            refine WA.tellDE [] (i := 8) (m := 2) (b' := 511) (by kernel_rfl) (NoPanic.then (NoPanic.block (NoPanic.then (NoPanic.block (NoPanic.then (NoPanic.then (NoPanic.body))))))) Under.refl hS (by kernel_rfl) (op := .load 27 (.tmp 47)) (ty := 27) (d := some 48) (g := none) (by kernel_rfl) (by kernel_rfl) (by kernel_rfl) (Hl0.load (i := 1) rfl (agg := true) hb12.1 hb12.2 z27 ag27 (fun h => by cases h) (by kernel_rfl)) ?_
            rintro _ rfl
            rw [Option.bind_eq_some_iff] at h
            obtain ⟨t13, ht14, h⟩ := h
            refine WA.op (i := 9) (m := 1) (b' := 1023) (by kernel_rfl) hS (by kernel_rfl) (op := .call { callee := (.value (.tmp 40)), args := #[(.tmp 44), (.tmp 48)], argTypes := #[27, 27] }) (ty := 3) (d := some 49) (g := none) (by kernel_rfl) (by kernel_rfl) (by kernel_rfl) (Does.call (f := 59) (args := [.agg #[.int .i64 ((l0.getD v9.toNat z27).f0), .int .i64 ((l0.getD v9.toNat z27).f1), .int .i64 ((l0.getD v9.toNat z27).f2), .int .i64 ((l0.getD v9.toNat z27).f3), .string ((l0.getD v9.toNat z27).f4)], .agg #[.int .i64 ((l0.getD a1.toNat z27).f0), .int .i64 ((l0.getD a1.toNat z27).f1), .int .i64 ((l0.getD a1.toNat z27).f2), .int .i64 ((l0.getD a1.toNat z27).f3), .string ((l0.getD a1.toNat z27).f4)]]) (by kernel_rfl) (fun W hI => (record_order_calls (l0.getD v9.toNat z27) (l0.getD a1.toNat z27)  t13 ht14 hI))) ?_
            rintro _ _ _ ⟨rfl, rfl, rfl⟩
            refine ⟨_, _, Under.refl, Under.refl, ?_⟩
            refine WA.pure [10] [0, 1, 4, 10, 11, 12, 50] (m := 0) (b' := 2047) (L' := [(0, .slice Al0 l0.length cl0), (1, .int .i64 a1), (4, .func (.func 59) #[] #[]), (10, .int .i64 y4), (11, .int .i64 y5), (12, .int .i64 v9), (50, .bool (decide (t13 < 0)))]) (by kernel_rfl) (NoPanic.then (NoPanic.block (NoPanic.then (NoPanic.block (NoPanic.then (NoPanic.then (NoPanic.body))))))) Under.refl hS (by kernel_rfl) ?_
            refine WA.done hS (by kernel_rfl) ?_
            refine QP.pick [0, 1, 4, 10, 11, 12, 50] ?_
            refine QP.next ?_
            refine WP.cond (b := decide (t13 < 0)) (by kernel_rfl) (fun hc => ?_) (fun hc => ?_)
            · replace hc := of_decide_eq_true hc
              rw [if_pos hc] at h
              have hc17 := hc
              clear hc
              refine WP.regionP [0, 1, 4, 10, 11] (L' := [(0, .slice Al0 l0.length cl0), (1, .int .i64 a1), (4, .func (.func 59) #[] #[]), (10, .int .i64 (IntKind.i64.wrap (v9 + 1))), (11, .int .i64 y5)]) (by kernel_rfl) ?_
              refine QP.blockN ?_
              refine QP.front (i := 1) rfl ?_
              refine QP.front (i := 1) rfl ?_
              refine QP.pick [0, 1, 4, 10, 11] ?_
              exact QP.meet ⟨kn7, Nat.lt_succ_self _, (IntKind.i64.wrap (v9 + 1)), y5, h, rfl, rfl, rfl⟩
            · replace hc := of_decide_eq_false hc
              rw [if_neg hc] at h
              have hc17 := hc
              clear hc
              refine WP.regionP [0, 1, 4, 10, 11] (L' := [(0, .slice Al0 l0.length cl0), (1, .int .i64 a1), (4, .func (.func 59) #[] #[]), (10, .int .i64 y4), (11, .int .i64 v9)]) (by kernel_rfl) ?_
              refine QP.blockN ?_
              refine QP.front (i := 1) rfl ?_
              refine QP.front (i := 1) rfl ?_
              refine QP.pick [0, 1, 4, 10, 11] ?_
              exact QP.meet ⟨kn7, Nat.lt_succ_self _, y4, v9, h, rfl, rfl, rfl⟩
          · replace hc := of_decide_eq_false hc
            rw [if_neg hc] at h
            have hc8 := hc
            clear hc
            refine WP.exit ?_
            refine QP.thenE ?_
            refine QP.thenE ?_
            refine QP.blockE ?_
            refine QP.pick [0, 1, 10] ?_
            exact QP.meet ⟨_, Option.some.inj h, rfl, rfl, rfl⟩
      · rintro _ _ _ ⟨s2, rfl, rfl, rfl, rfl⟩
        clear h
        replace h := hk3
        refine WP.seq ?_
        refine WP.seqP [0, 10, 13] (L' := [(0, .slice Al0 l0.length cl0), (10, .int .i64 s2), (13, .int .i64 a1)]) (by kernel_rfl) ?_
        rw [Option.bind_eq_some_iff] at h
        obtain ⟨os18, h, hk19⟩ := h
        refine WP.cutQ (fun L' G' Γ' => ∃ s18 : (List T27), s18 = os18 ∧ ∃ (Cs18 : Chunk), L' = [] ∧ G = G' ∧ [] :: Cs18 :: Γ = Γ' ∧ Ow k27 G Al0 cl0 s18 Cs18 ∧ s18.length = l0.length) ?_ ?_
        · clear hk19
          refine WP.block ?_
          refine WP.pick [0, 10, 13] ?_
          refine WP.loopF (fun kn22 L' G' Γ' => ∃ (y20 : Int), ∃ (y21 : List T27), slices_symMergeCmpFunc_l1 s2 kn22 y20 y21 = some os18 ∧ ∃ (Cy21 : Chunk), L' = [(0, .slice Al0 y21.length cl0), (10, .int .i64 s2), (13, .int .i64 y20)] ∧ G = G' ∧ [] :: Cy21 :: Γ = Γ' ∧ Ow k27 G Al0 cl0 y21 Cy21 ∧ y21.length = l0.length) ?_ kf ⟨a1, l0, h, Cl0, rfl, rfl, rfl, Hl0, rfl⟩
          clear h
          rintro kn23 _ _ _ ⟨y20, y21, h, Cy21, rfl, rfl, rfl, Hy21, HLy21⟩
          cases kn23 with
          | zero => exact absurd h (by simp [slices_symMergeCmpFunc_l1])
          | succ kn23 =>
            simp only [slices_symMergeCmpFunc_l1] at h
            refine WP.seq ?_
            refine WP.seqP [0, 10, 13, 58] (L' := [(0, .slice Al0 y21.length cl0), (10, .int .i64 s2), (13, .int .i64 y20), (58, .bool (decide (y20 < (IntKind.i64.wrap (s2 - 1)))))]) (by kernel_rfl) ?_
            refine WP.cond (b := decide (y20 < (IntKind.i64.wrap (s2 - 1)))) (by kernel_rfl) (fun hc => ?_) (fun hc => ?_)
            · replace hc := of_decide_eq_true hc
              rw [if_pos hc] at h
              have hc24 := hc
              clear hc
              refine WP.skip ?_
              refine QP.next ?_
              refine WP.pick [0, 10, 13] ?_
              refine WP.seq ?_
              refine WP.block ?_
              skip
              refine WP.any (N := 18) (S := [⟨some 61, [0], []⟩, ⟨some 62, [13], []⟩, ⟨some 63, [0], []⟩, ⟨some 64, [13], []⟩, ⟨some 65, [64], [3]⟩, ⟨some 66, [0], []⟩, ⟨some 67, [13], []⟩, ⟨some 68, [67], [6]⟩, ⟨some 69, [66, 68], [5, 7]⟩, ⟨some 70, [69], [8]⟩, ⟨some 71, [0], []⟩, ⟨some 72, [13], []⟩, ⟨some 73, [71, 72], [10, 11]⟩, ⟨some 74, [73], [12]⟩, ⟨some 75, [61, 62], [0, 1, 5, 6, 7, 8, 9, 13]⟩, ⟨none, [70, 75], [0, 1, 5, 6, 7, 8, 9, 13, 14]⟩, ⟨some 76, [63, 65], [0, 1, 2, 3, 4, 5, 6, 7, 8, 9, 10, 11, 12, 13, 14, 15]⟩, ⟨none, [74, 76], [0, 1, 2, 3, 4, 5, 6, 7, 8, 9, 10, 11, 12, 13, 14, 15, 16]⟩]) (kw := 15) (G0 := G) (Γ0 := [] :: Cy21 :: Γ) mo (by kernel_rfl) (fun hS => ?_)
              refine WA.pure [0, 1, 2, 3, 4, 5, 6, 7, 10, 11] [0, 10, 13, 61, 62, 63, 65, 66, 68, 71, 72] (m := 8) (b' := 3327) (L' := [(0, .slice Al0 y21.length cl0), (10, .int .i64 s2), (13, .int .i64 y20), (61, .slice Al0 y21.length cl0), (62, .int .i64 y20), (63, .slice Al0 y21.length cl0), (65, .int .i64 (IntKind.i64.wrap (y20 + 1))), (66, .slice Al0 y21.length cl0), (68, .int .i64 (IntKind.i64.wrap (y20 + 1))), (71, .slice Al0 y21.length cl0), (72, .int .i64 y20)]) (by kernel_rfl) (NoPanic.block (NoPanic.then (NoPanic.then (NoPanic.block (NoPanic.then (NoPanic.then (NoPanic.then (NoPanic.body)))))))) Under.refl hS (by kernel_rfl) ?_
              by_cases hb25 : 0 ≤ (IntKind.i64.wrap (y20 + 1)) ∧ (IntKind.i64.wrap (y20 + 1)) < (y21.length : Int)
              case neg => rw [if_neg hb25] at h; cases h
              rw [if_pos hb25] at h
              refine WA.tellD [15] (i := 8) (m := 7) (b' := 3583) (by kernel_rfl) (NoPanic.block (NoPanic.then (NoPanic.then (NoPanic.block (NoPanic.then (NoPanic.then (NoPanic.then (NoPanic.body)))))))) Under.refl hS (by kernel_rfl) (op := .indexAddr 46 (.tmp 66) (.tmp 68)) (ty := 0) (d := some 69) (g := none) (by kernel_rfl) (by kernel_rfl) (by kernel_rfl) (Tells.indexAddr (A := Al0) (n := y21.length) (c := cl0) (k := .i64) (j := (IntKind.i64.wrap (y20 + 1))) (by kernel_rfl) (by kernel_rfl) (Hy21.isSome hb25.1 hb25.2) hb25.1 hb25.2 sl46) ?_
              refine WA.tellDE [15] (i := 9) (m := 6) (b' := 4095) (by kernel_rfl) (NoPanic.block (NoPanic.then (NoPanic.then (NoPanic.block (NoPanic.then (NoPanic.then (NoPanic.then (NoPanic.body)))))))) Under.refl hS (by kernel_rfl) (op := .load 27 (.tmp 69)) (ty := 27) (d := some 70) (g := none) (by kernel_rfl) (by kernel_rfl) (by kernel_rfl) (Hy21.load (i := 1) rfl (agg := true) hb25.1 hb25.2 z27 ag27 (fun h => by cases h) (by kernel_rfl)) ?_
              rintro _ rfl
              by_cases hb26 : 0 ≤ y20 ∧ y20 < (y21.length : Int)
              case neg => rw [if_neg hb26] at h; cases h
              rw [if_pos hb26] at h
              refine WA.tellD [15, 13] (i := 12) (m := 5) (b' := 8191) (by kernel_rfl) (NoPanic.block (NoPanic.then (NoPanic.then (NoPanic.block (NoPanic.then (NoPanic.then (NoPanic.then (NoPanic.body)))))))) Under.refl hS (by kernel_rfl) (op := .indexAddr 46 (.tmp 71) (.tmp 72)) (ty := 0) (d := some 73) (g := none) (by kernel_rfl) (by kernel_rfl) (by kernel_rfl) (Tells.indexAddr (A := Al0) (n := y21.length) (c := cl0) (k := .i64) (j := y20) (by kernel_rfl) (by kernel_rfl) (Hy21.isSome hb26.1 hb26.2) hb26.1 hb26.2 sl46) ?_
              refine WA.tellDE [15] (i := 13) (m := 4) (b' := 16383) (by kernel_rfl) (NoPanic.block (NoPanic.then (NoPanic.then (NoPanic.block (NoPanic.then (NoPanic.then (NoPanic.then (NoPanic.body)))))))) Under.refl hS (by kernel_rfl) (op := .load 27 (.tmp 73)) (ty := 27) (d := some 74) (g := none) (by kernel_rfl) (by kernel_rfl) (by kernel_rfl) (Hy21.load (i := 1) rfl (agg := true) hb26.1 hb26.2 z27 ag27 (fun h => by cases h) (by kernel_rfl)) ?_
              rintro _ rfl
              by_cases hb27 : 0 ≤ y20 ∧ y20 < (y21.length : Int)
              case neg => rw [if_neg hb27] at h; cases h
              rw [if_pos hb27] at h
              refine WA.tellD [15] (i := 14) (m := 3) (b' := 32767) (by kernel_rfl) (NoPanic.block (NoPanic.then (NoPanic.then (NoPanic.block (NoPanic.then (NoPanic.then (NoPanic.then (NoPanic.body)))))))) Under.refl hS (by kernel_rfl) (op := .indexAddr 46 (.tmp 61) (.tmp 62)) (ty := 0) (d := some 75) (g := none) (by kernel_rfl) (by kernel_rfl) (by kernel_rfl) (Tells.indexAddr (A := Al0) (n := y21.length) (c := cl0) (k := .i64) (j := y20) (by kernel_rfl) (by kernel_rfl) (Hy21.isSome hb27.1 hb27.2) hb27.1 hb27.2 sl46) ?_
              refine WA.opK (i := 15) (kw' := 17) (m := 2) (b' := 65535) (by kernel_rfl) rfl hS (by kernel_rfl) (op := .store 27 (.tmp 75) (.tmp 70)) (ty := 0) (d := none) (g := none) (by kernel_rfl) (by kernel_rfl) (by kernel_rfl) (Ow.store Hy21 (i := 1) rfl hb27.1 hb27.2 (z := (y21.getD (IntKind.i64.wrap (y20 + 1)).toNat z27)) (v := .agg #[.int .i64 ((y21.getD (IntKind.i64.wrap (y20 + 1)).toNat z27).f0), .int .i64 ((y21.getD (IntKind.i64.wrap (y20 + 1)).toNat z27).f1), .int .i64 ((y21.getD (IntKind.i64.wrap (y20 + 1)).toNat z27).f2), .int .i64 ((y21.getD (IntKind.i64.wrap (y20 + 1)).toNat z27).f3), .string ((y21.getD (IntKind.i64.wrap (y20 + 1)).toNat z27).f4)]) (by kernel_rfl) (by kernel_rfl) sz27 (by exact rfl)) ?_
              rintro _ _ _ ⟨rfl, rfl, C28, Ho29, rfl⟩
              refine ⟨_, _, Under.refl, ?_⟩
              refine WA.reput 0 (v := .slice Al0 y21.length cl0) (v' := .slice Al0 (y21.set y20.toNat (y21.getD (IntKind.i64.wrap (y20 + 1)).toNat z27)).length cl0) (by kernel_rfl) (by simp only [List.length_set]) ?_
              refine WA.reput 63 (v := .slice Al0 y21.length cl0) (v' := .slice Al0 (y21.set y20.toNat (y21.getD (IntKind.i64.wrap (y20 + 1)).toNat z27)).length cl0) (by kernel_rfl) (by simp only [List.length_set]) ?_
              by_cases hb30 : 0 ≤ (IntKind.i64.wrap (y20 + 1)) ∧ (IntKind.i64.wrap (y20 + 1)) < ((y21.set y20.toNat (y21.getD (IntKind.i64.wrap (y20 + 1)).toNat z27)).length : Int)
              case neg => rw [if_neg hb30] at h; cases h
              rw [if_pos hb30] at h
              refine WA.tellD [17] (i := 16) (m := 1) (b' := 131071) (by kernel_rfl) (NoPanic.block (NoPanic.then (NoPanic.then (NoPanic.block (NoPanic.then (NoPanic.then (NoPanic.then (NoPanic.body)))))))) Under.refl hS (by kernel_rfl) (op := .indexAddr 46 (.tmp 63) (.tmp 65)) (ty := 0) (d := some 76) (g := none) (by kernel_rfl) (by kernel_rfl) (by kernel_rfl) (Tells.indexAddr (A := Al0) (n := (y21.set y20.toNat (y21.getD (IntKind.i64.wrap (y20 + 1)).toNat z27)).length) (c := cl0) (k := .i64) (j := (IntKind.i64.wrap (y20 + 1))) (by kernel_rfl) (by kernel_rfl) (Ho29.isSome hb30.1 hb30.2) hb30.1 hb30.2 sl46) ?_
              refine WA.opK (i := 17) (kw' := 18) (m := 0) (b' := 262143) (by kernel_rfl) rfl hS (by kernel_rfl) (op := .store 27 (.tmp 76) (.tmp 74)) (ty := 0) (d := none) (g := none) (by kernel_rfl) (by kernel_rfl) (by kernel_rfl) (Ow.store Ho29 (i := 1) rfl hb30.1 hb30.2 (z := (y21.getD y20.toNat z27)) (v := .agg #[.int .i64 ((y21.getD y20.toNat z27).f0), .int .i64 ((y21.getD y20.toNat z27).f1), .int .i64 ((y21.getD y20.toNat z27).f2), .int .i64 ((y21.getD y20.toNat z27).f3), .string ((y21.getD y20.toNat z27).f4)]) (by kernel_rfl) (by kernel_rfl) sz27 (by exact rfl)) ?_
              rintro _ _ _ ⟨rfl, rfl, C31, Ho32, rfl⟩
              refine ⟨_, _, Under.refl, ?_⟩
              refine WA.reput 0 (v := .slice Al0 (y21.set y20.toNat (y21.getD (IntKind.i64.wrap (y20 + 1)).toNat z27)).length cl0) (v' := .slice Al0 ((y21.set y20.toNat (y21.getD (IntKind.i64.wrap (y20 + 1)).toNat z27)).set (IntKind.i64.wrap (y20 + 1)).toNat (y21.getD y20.toNat z27)).length cl0) (by kernel_rfl) (by simp only [List.length_set]) ?_
              refine WA.done hS (by kernel_rfl) ?_
              refine QP.pick [0, 10, 13] ?_
              refine QP.blockN ?_
              refine QP.next ?_
              refine WP.pick [0, 10, 13] ?_
              refine WP.regionP [0, 10, 13] (L' := [(0, .slice Al0 ((y21.set y20.toNat (y21.getD (IntKind.i64.wrap (y20 + 1)).toNat z27)).set (IntKind.i64.wrap (y20 + 1)).toNat (y21.getD y20.toNat z27)).length cl0), (10, .int .i64 s2), (13, .int .i64 (IntKind.i64.wrap (y20 + 1)))]) (by kernel_rfl) ?_
              refine QP.front (i := 1) rfl ?_
              refine QP.front (i := 1) rfl ?_
              refine QP.pick [0, 10, 13] ?_
              exact QP.meet ⟨kn23, Nat.lt_succ_self _, (IntKind.i64.wrap (y20 + 1)), ((y21.set y20.toNat (y21.getD (IntKind.i64.wrap (y20 + 1)).toNat z27)).set (IntKind.i64.wrap (y20 + 1)).toNat (y21.getD y20.toNat z27)), h, C31, rfl, rfl, rfl, Ho32, (by rw [List.length_set]; exact (by rw [List.length_set]; exact HLy21))⟩
            · replace hc := of_decide_eq_false hc
              rw [if_neg hc] at h
              have hc24 := hc
              clear hc
              refine WP.exit ?_
              refine QP.thenE ?_
              refine QP.thenE ?_
              refine QP.blockE ?_
              refine QP.pick [] ?_
              exact QP.meet ⟨_, Option.some.inj h, Cy21, rfl, rfl, rfl, Hy21, HLy21⟩
        · rintro _ _ _ ⟨s18, rfl, Cs18, rfl, rfl, rfl, Hs18, HLs18⟩
          clear h
          replace h := hk19
          refine QP.next ?_
          refine WP.pick [] ?_
          refine WP.ret ?_
          refine QP.thenR ?_
          obtain rfl := Option.some.inj h
          exact QP.returned [] [] _ (by kernel_rfl) (by kernel_rfl) (by kernel_rfl) (fun W hI => ⟨_, _, _, rfl, ⟨Cs18, rfl, Hs18, HLs18, rfl, rfl⟩, hI⟩)
    · replace hc := ne_of_beq_false hc
      rw [if_neg hc] at h
      have hc1 := hc
      clear hc
      refine WP.skip ?_
      refine QP.next ?_
      refine WP.pick [0, 1, 2, 3, 4] ?_
      refine WP.seq ?_
      refine WP.seqP [0, 1, 2, 3, 4, 80] (L' := [(0, .slice Al0 l0.length cl0), (1, .int .i64 a1), (2, .int .i64 a2), (3, .int .i64 a3), (4, .func (.func 59) #[] #[]), (80, .bool ((IntKind.i64.wrap (a3 - a2)) == 1))]) (by kernel_rfl) ?_
      refine WP.cond (b := ((IntKind.i64.wrap (a3 - a2)) == 1)) (by kernel_rfl) (fun hc => ?_) (fun hc => ?_)
      · replace hc := eq_of_beq hc
        rw [if_pos hc] at h
        have hc33 := hc
        clear hc
        refine WP.seqP [0, 2, 4, 14] (L' := [(0, .slice Al0 l0.length cl0), (2, .int .i64 a2), (4, .func (.func 59) #[] #[]), (14, .int .i64 a1)]) (by kernel_rfl) ?_
        refine WP.seqP [0, 2, 4, 14, 15] (L' := [(0, .slice Al0 l0.length cl0), (2, .int .i64 a2), (4, .func (.func 59) #[] #[]), (14, .int .i64 a1), (15, .int .i64 a2)]) (by kernel_rfl) ?_
        rw [Option.bind_eq_some_iff] at h
        obtain ⟨os34, h, hk35⟩ := h
        refine WP.cut (fun L' G' Γ' => ∃ s34 : Int, s34 = os34 ∧ L' = [(0, .slice Al0 l0.length cl0), (2, .int .i64 a2), (14, .int .i64 s34)] ∧ G = G' ∧ [] :: Cl0 :: Γ = Γ') ?_ ?_
        · clear hk35
          refine WP.block ?_
          refine WP.pick [0, 2, 4, 14, 15] ?_
          refine WP.loopF (fun kn38 L' G' Γ' => ∃ (y36 : Int), ∃ (y37 : Int), slices_symMergeCmpFunc_l2 l0 a2 kn38 y36 y37 = some os34 ∧ L' = [(0, .slice Al0 l0.length cl0), (2, .int .i64 a2), (4, .func (.func 59) #[] #[]), (14, .int .i64 y36), (15, .int .i64 y37)] ∧ G = G' ∧ [] :: Cl0 :: Γ = Γ') ?_ kf ⟨a1, a2, h, rfl, rfl, rfl⟩
          clear h
          rintro kn39 _ _ _ ⟨y36, y37, h, rfl, rfl, rfl⟩
          cases kn39 with
          | zero => exact absurd h (by simp [slices_symMergeCmpFunc_l2])
          | succ kn39 =>
            simp only [slices_symMergeCmpFunc_l2] at h
            refine WP.seq ?_
            refine WP.seqP [0, 2, 4, 14, 15, 85] (L' := [(0, .slice Al0 l0.length cl0), (2, .int .i64 a2), (4, .func (.func 59) #[] #[]), (14, .int .i64 y36), (15, .int .i64 y37), (85, .bool (decide (y36 < y37)))]) (by kernel_rfl) ?_
            refine WP.cond (b := decide (y36 < y37)) (by kernel_rfl) (fun hc => ?_) (fun hc => ?_)
            · replace hc := of_decide_eq_true hc
              rw [if_pos hc] at h
              have hc40 := hc
              clear hc
              refine WP.skip ?_
              refine QP.next ?_
              refine WP.pick [0, 2, 4, 14, 15] ?_
              refine WP.block ?_
              refine WP.seqP [0, 2, 4, 14, 15, 16] (L' := [(0, .slice Al0 l0.length cl0), (2, .int .i64 a2), (4, .func (.func 59) #[] #[]), (14, .int .i64 y36), (15, .int .i64 y37), (16, .int .i64 (IntKind.i64.wrap (shrK .u64 (IntKind.u64.wrap (IntKind.i64.wrap (y36 + y37))) 1)))]) (by kernel_rfl) ?_
              obtain ⟨v41, hv42, h⟩ := Option.bind_eq_some_iff.1 h
              replace hv42 := Option.some.inj hv42
              refine WP.reput 16 (v := .int .i64 (IntKind.i64.wrap (shrK .u64 (IntKind.u64.wrap (IntKind.i64.wrap (y36 + y37))) 1))) (v' := .int .i64 v41) (by kernel_rfl) (by subst hv42; rfl) ?_
              refine WP.pick [0, 2, 4, 14, 15, 16] ?_
              refine WP.seq ?_
              refine WP.any (N := 12) (S := [⟨some 92, [4], []⟩, ⟨some 93, [0], []⟩, ⟨some 94, [2], []⟩, ⟨some 95, [93, 94], [1, 2]⟩, ⟨some 96, [95], [3]⟩, ⟨some 97, [0], []⟩, ⟨some 98, [16], []⟩, ⟨some 99, [97, 98], [5, 6]⟩, ⟨some 100, [99], [7]⟩, ⟨some 101, [92, 96, 100], [0, 4, 8]⟩, ⟨some 102, [101], [9]⟩, ⟨some 103, [102], [10]⟩]) (kw := 12) (G0 := G) (Γ0 := [] :: Cl0 :: Γ) mo (by kernel_rfl) (fun hS => ?_)
              refine WA.pure [0, 1, 2, 5, 6] [0, 2, 4, 14, 15, 16, 92, 93, 94, 97, 98] (m := 7) (b' := 103) (L' := [(0, .slice Al0 l0.length cl0), (2, .int .i64 a2), (4, .func (.func 59) #[] #[]), (14, .int .i64 y36), (15, .int .i64 y37), (16, .int .i64 v41), (92, .func (.func 59) #[] #[]), (93, .slice Al0 l0.length cl0), (94, .int .i64 a2), (97, .slice Al0 l0.length cl0), (98, .int .i64 v41)]) (by kernel_rfl) (NoPanic.then (NoPanic.block (NoPanic.then (NoPanic.block (NoPanic.then (NoPanic.then (NoPanic.body))))))) Under.refl hS (by kernel_rfl) ?_
              by_cases hb43 : 0 ≤ a2 ∧ a2 < (l0.length : Int)
              case neg => rw [if_neg hb43] at h; cases h
              rw [if_pos hb43] at h
              refine WA.tellD [] (i := 3) (m := 6) (b' := 111) (by kernel_rfl) (NoPanic.then (NoPanic.block (NoPanic.then (NoPanic.block (NoPanic.then (NoPanic.then (NoPanic.body))))))) Under.refl hS (by kernel_rfl) (op := .indexAddr 46 (.tmp 93) (.tmp 94)) (ty := 0) (d := some 95) (g := none) (by kernel_rfl) (by kernel_rfl) (by kernel_rfl) (Tells.indexAddr (A := Al0) (n := l0.length) (c := cl0) (k := .i64) (j := a2) (by kernel_rfl) (by kernel_rfl) (Hl0.isSome hb43.1 hb43.2) hb43.1 hb43.2 sl46) ?_
              refine WA.tellDE [] (i := 4) (m := 5) (b' := 127) (by kernel_rfl) (NoPanic.then (NoPanic.block (NoPanic.then (NoPanic.block (NoPanic.then (NoPanic.then (NoPanic.body))))))) Under.refl hS (by kernel_rfl) (op := .load 27 (.tmp 95)) (ty := 27) (d := some 96) (g := none) (by kernel_rfl) (by kernel_rfl) (by kernel_rfl) (Hl0.load (i := 1) rfl (agg := true) hb43.1 hb43.2 z27 ag27 (fun h => by cases h) (by kernel_rfl)) ?_
              rintro _ rfl
              by_cases hb44 : 0 ≤ v41 ∧ v41 < (l0.length : Int)
              case neg => rw [if_neg hb44] at h; cases h
              rw [if_pos hb44] at h
              refine WA.tellD [] (i := 7) (m := 4) (b' := 255) (by kernel_rfl) (NoPanic.then (NoPanic.block (NoPanic.then (NoPanic.block (NoPanic.then (NoPanic.then (NoPanic.body))))))) Under.refl hS (by kernel_rfl) (op := .indexAddr 46 (.tmp 97) (.tmp 98)) (ty := 0) (d := some 99) (g := none) (by kernel_rfl) (by kernel_rfl) (by kernel_rfl) (Tells.indexAddr (A := Al0) (n := l0.length) (c := cl0) (k := .i64) (j := v41) (by kernel_rfl) (by kernel_rfl) (Hl0.isSome hb44.1 hb44.2) hb44.1 hb44.2 sl46) ?_
              refine WA.tellDE [] (i := 8) (m := 3) (b' := 511) (by kernel_rfl) (NoPanic.then (NoPanic.block (NoPanic.then (NoPanic.block (NoPanic.then (NoPanic.then (NoPanic.body))))))) Under.refl hS (by kernel_rfl) (op := .load 27 (.tmp 99)) (ty := 27) (d := some 100) (g := none) (by kernel_rfl) (by kernel_rfl) (by kernel_rfl) (Hl0.load (i := 1) rfl (agg := true) hb44.1 hb44.2 z27 ag27 (fun h => by cases h) (by kernel_rfl)) ?_
              rintro _ rfl
              rw [Option.bind_eq_some_iff] at h
              obtain ⟨t45, ht46, h⟩ := h
              refine WA.op (i := 9) (m := 2) (b' := 1023) (by kernel_rfl) hS (by kernel_rfl) (op := .call { callee := (.value (.tmp 92)), args := #[(.tmp 96), (.tmp 100)], argTypes := #[27, 27] }) (ty := 3) (d := some 101) (g := none) (by kernel_rfl) (by kernel_rfl) (by kernel_rfl) (Does.call (f := 59) (args := [.agg #[.int .i64 ((l0.getD a2.toNat z27).f0), .int .i64 ((l0.getD a2.toNat z27).f1), .int .i64 ((l0.getD a2.toNat z27).f2), .int .i64 ((l0.getD a2.toNat z27).f3), .string ((l0.getD a2.toNat z27).f4)], .agg #[.int .i64 ((l0.getD v41.toNat z27).f0), .int .i64 ((l0.getD v41.toNat z27).f1), .int .i64 ((l0.getD v41.toNat z27).f2), .int .i64 ((l0.getD v41.toNat z27).f3), .string ((l0.getD v41.toNat z27).f4)]]) (by kernel_rfl) (fun W hI => (record_order_calls (l0.getD a2.toNat z27) (l0.getD v41.toNat z27)  t45 ht46 hI))) ?_
              rintro _ _ _ ⟨rfl, rfl, rfl⟩
              refine ⟨_, _, Under.refl, Under.refl, ?_⟩
              refine WA.pure [10, 11] [0, 2, 4, 14, 15, 16, 103] (m := 0) (b' := 4095) (L' := [(0, .slice Al0 l0.length cl0), (2, .int .i64 a2), (4, .func (.func 59) #[] #[]), (14, .int .i64 y36), (15, .int .i64 y37), (16, .int .i64 v41), (103, .bool (!(decide (t45 < 0))))]) (by kernel_rfl) (NoPanic.then (NoPanic.block (NoPanic.then (NoPanic.block (NoPanic.then (NoPanic.then (NoPanic.body))))))) Under.refl hS (by kernel_rfl) ?_
              refine WA.done hS (by kernel_rfl) ?_
              refine QP.pick [0, 2, 4, 14, 15, 16, 103] ?_
              refine QP.next ?_
              refine WP.cond (b := (!(decide (t45 < 0)))) (by kernel_rfl) (fun hc => ?_) (fun hc => ?_)
              · replace hc := hc
                rw [if_pos hc] at h
                have hc49 := hc
                clear hc
                refine WP.regionP [0, 2, 4, 14, 15] (L' := [(0, .slice Al0 l0.length cl0), (2, .int .i64 a2), (4, .func (.func 59) #[] #[]), (14, .int .i64 (IntKind.i64.wrap (v41 + 1))), (15, .int .i64 y37)]) (by kernel_rfl) ?_
                refine QP.blockN ?_
                refine QP.front (i := 1) rfl ?_
                refine QP.front (i := 1) rfl ?_
                refine QP.pick [0, 2, 4, 14, 15] ?_
                exact QP.meet ⟨kn39, Nat.lt_succ_self _, (IntKind.i64.wrap (v41 + 1)), y37, h, rfl, rfl, rfl⟩
              · replace hc := (Bool.eq_false_iff.1 hc)
                rw [if_neg hc] at h
                have hc49 := hc
                clear hc
                refine WP.regionP [0, 2, 4, 14, 15] (L' := [(0, .slice Al0 l0.length cl0), (2, .int .i64 a2), (4, .func (.func 59) #[] #[]), (14, .int .i64 y36), (15, .int .i64 v41)]) (by kernel_rfl) ?_
                refine QP.blockN ?_
                refine QP.front (i := 1) rfl ?_
                refine QP.front (i := 1) rfl ?_
                refine QP.pick [0, 2, 4, 14, 15] ?_
                exact QP.meet ⟨kn39, Nat.lt_succ_self _, y36, v41, h, rfl, rfl, rfl⟩
            · replace hc := of_decide_eq_false hc
              rw [if_neg hc] at h
              have hc40 := hc
              clear hc
              refine WP.exit ?_
              refine QP.thenE ?_
              refine QP.thenE ?_
              refine QP.blockE ?_
              refine QP.pick [0, 2, 14] ?_
              exact QP.meet ⟨_, Option.some.inj h, rfl, rfl, rfl⟩
        · rintro _ _ _ ⟨s34, rfl, rfl, rfl, rfl⟩
          clear h
          replace h := hk35
          refine WP.seq ?_
          refine WP.seqP [0, 14, 17] (L' := [(0, .slice Al0 l0.length cl0), (14, .int .i64 s34), (17, .int .i64 a2)]) (by kernel_rfl) ?_
          rw [Option.bind_eq_some_iff] at h
          obtain ⟨os50, h, hk51⟩ := h
          refine WP.cutQ (fun L' G' Γ' => ∃ s50 : (List T27), s50 = os50 ∧ ∃ (Cs50 : Chunk), L' = [] ∧ G = G' ∧ [] :: Cs50 :: Γ = Γ' ∧ Ow k27 G Al0 cl0 s50 Cs50 ∧ s50.length = l0.length) ?_ ?_
          · clear hk51
            refine WP.block ?_
            refine WP.pick [0, 14, 17] ?_
            refine WP.loopF (fun kn54 L' G' Γ' => ∃ (y52 : Int), ∃ (y53 : List T27), slices_symMergeCmpFunc_l3 s34 kn54 y52 y53 = some os50 ∧ ∃ (Cy53 : Chunk), L' = [(0, .slice Al0 y53.length cl0), (14, .int .i64 s34), (17, .int .i64 y52)] ∧ G = G' ∧ [] :: Cy53 :: Γ = Γ' ∧ Ow k27 G Al0 cl0 y53 Cy53 ∧ y53.length = l0.length) ?_ kf ⟨a2, l0, h, Cl0, rfl, rfl, rfl, Hl0, rfl⟩
            clear h
            rintro kn55 _ _ _ ⟨y52, y53, h, Cy53, rfl, rfl, rfl, Hy53, HLy53⟩
            cases kn55 with
            | zero => exact absurd h (by simp [slices_symMergeCmpFunc_l3])
            | succ kn55 =>
              simp only [slices_symMergeCmpFunc_l3] at h
              refine WP.seq ?_
              refine WP.seqP [0, 14, 17, 110] (L' := [(0, .slice Al0 y53.length cl0), (14, .int .i64 s34), (17, .int .i64 y52), (110, .bool (decide (y52 > s34)))]) (by kernel_rfl) ?_
              refine WP.cond (b := decide (y52 > s34)) (by kernel_rfl) (fun hc => ?_) (fun hc => ?_)
              · replace hc := of_decide_eq_true hc
                rw [if_pos hc] at h
                have hc56 := hc
                clear hc
                refine WP.skip ?_
                refine QP.next ?_
                refine WP.pick [0, 14, 17] ?_
                refine WP.seq ?_
                refine WP.block ?_
                skip
                refine WP.any (N := 18) (S := [⟨some 113, [0], []⟩, ⟨some 114, [17], []⟩, ⟨some 115, [0], []⟩, ⟨some 116, [17], []⟩, ⟨some 117, [116], [3]⟩, ⟨some 118, [0], []⟩, ⟨some 119, [17], []⟩, ⟨some 120, [119], [6]⟩, ⟨some 121, [118, 120], [5, 7]⟩, ⟨some 122, [121], [8]⟩, ⟨some 123, [0], []⟩, ⟨some 124, [17], []⟩, ⟨some 125, [123, 124], [10, 11]⟩, ⟨some 126, [125], [12]⟩, ⟨some 127, [113, 114], [0, 1, 5, 6, 7, 8, 9, 13]⟩, ⟨none, [122, 127], [0, 1, 5, 6, 7, 8, 9, 13, 14]⟩, ⟨some 128, [115, 117], [0, 1, 2, 3, 4, 5, 6, 7, 8, 9, 10, 11, 12, 13, 14, 15]⟩, ⟨none, [126, 128], [0, 1, 2, 3, 4, 5, 6, 7, 8, 9, 10, 11, 12, 13, 14, 15, 16]⟩]) (kw := 15) (G0 := G) (Γ0 := [] :: Cy53 :: Γ) mo (by kernel_rfl) (fun hS => ?_)
                refine WA.pure [0, 1, 2, 3, 4, 5, 6, 7, 10, 11] [0, 14, 17, 113, 114, 115, 117, 118, 120, 123, 124] (m := 8) (b' := 3327) (L' := [(0, .slice Al0 y53.length cl0), (14, .int .i64 s34), (17, .int .i64 y52), (113, .slice Al0 y53.length cl0), (114, .int .i64 y52), (115, .slice Al0 y53.length cl0), (117, .int .i64 (IntKind.i64.wrap (y52 - 1))), (118, .slice Al0 y53.length cl0), (120, .int .i64 (IntKind.i64.wrap (y52 - 1))), (123, .slice Al0 y53.length cl0), (124, .int .i64 y52)]) (by kernel_rfl) (NoPanic.block (NoPanic.then (NoPanic.then (NoPanic.block (NoPanic.then (NoPanic.then (NoPanic.then (NoPanic.body)))))))) Under.refl hS (by kernel_rfl) ?_
                by_cases hb57 : 0 ≤ (IntKind.i64.wrap (y52 - 1)) ∧ (IntKind.i64.wrap (y52 - 1)) < (y53.length : Int)
                case neg => rw [if_neg hb57] at h; cases h
                rw [if_pos hb57] at h
                refine WA.tellD [15] (i := 8) (m := 7) (b' := 3583) (by kernel_rfl) (NoPanic.block (NoPanic.then (NoPanic.then (NoPanic.block (NoPanic.then (NoPanic.then (NoPanic.then (NoPanic.body)))))))) Under.refl hS (by kernel_rfl) (op := .indexAddr 46 (.tmp 118) (.tmp 120)) (ty := 0) (d := some 121) (g := none) (by kernel_rfl) (by kernel_rfl) (by kernel_rfl) (Tells.indexAddr (A := Al0) (n := y53.length) (c := cl0) (k := .i64) (j := (IntKind.i64.wrap (y52 - 1))) (by kernel_rfl) (by kernel_rfl) (Hy53.isSome hb57.1 hb57.2) hb57.1 hb57.2 sl46) ?_
                refine WA.tellDE [15] (i := 9) (m := 6) (b' := 4095) (by kernel_rfl) (NoPanic.block (NoPanic.then (NoPanic.then (NoPanic.block (NoPanic.then (NoPanic.then (NoPanic.then (NoPanic.body)))))))) Under.refl hS (by kernel_rfl) (op := .load 27 (.tmp 121)) (ty := 27) (d := some 122) (g := none) (by kernel_rfl) (by kernel_rfl) (by kernel_rfl) (Hy53.load (i := 1) rfl (agg := true) hb57.1 hb57.2 z27 ag27 (fun h => by cases h) (by kernel_rfl)) ?_
                rintro _ rfl
                by_cases hb58 : 0 ≤ y52 ∧ y52 < (y53.length : Int)
                case neg => rw [if_neg hb58] at h; cases h
                rw [if_pos hb58] at h
                refine WA.tellD [15, 13] (i := 12) (m := 5) (b' := 8191) (by kernel_rfl) (NoPanic.block (NoPanic.then (NoPanic.then (NoPanic.block (NoPanic.then (NoPanic.then (NoPanic.then (NoPanic.body)))))))) Under.refl hS (by kernel_rfl) (op := .indexAddr 46 (.tmp 123) (.tmp 124)) (ty := 0) (d := some 125) (g := none) (by kernel_rfl) (by kernel_rfl) (by kernel_rfl) (Tells.indexAddr (A := Al0) (n := y53.length) (c := cl0) (k := .i64) (j := y52) (by kernel_rfl) (by kernel_rfl) (Hy53.isSome hb58.1 hb58.2) hb58.1 hb58.2 sl46) ?_
                refine WA.tellDE [15] (i := 13) (m := 4) (b' := 16383) (by kernel_rfl) (NoPanic.block (NoPanic.then (NoPanic.then (NoPanic.block (NoPanic.then (NoPanic.then (NoPanic.then (NoPanic.body)))))))) Under.refl hS (by kernel_rfl) (op := .load 27 (.tmp 125)) (ty := 27) (d := some 126) (g := none) (by kernel_rfl) (by kernel_rfl) (by kernel_rfl) (Hy53.load (i := 1) rfl (agg := true) hb58.1 hb58.2 z27 ag27 (fun h => by cases h) (by kernel_rfl)) ?_
                rintro _ rfl
                by_cases hb59 : 0 ≤ y52 ∧ y52 < (y53.length : Int)
                case neg => rw [if_neg hb59] at h; cases h
                rw [if_pos hb59] at h
                refine WA.tellD [15] (i := 14) (m := 3) (b' := 32767) (by kernel_rfl) (NoPanic.block (NoPanic.then (NoPanic.then (NoPanic.block (NoPanic.then (NoPanic.then (NoPanic.then (NoPanic.body)))))))) Under.refl hS (by kernel_rfl) (op := .indexAddr 46 (.tmp 113) (.tmp 114)) (ty := 0) (d := some 127) (g := none) (by kernel_rfl) (by kernel_rfl) (by kernel_rfl) (Tells.indexAddr (A := Al0) (n := y53.length) (c := cl0) (k := .i64) (j := y52) (by kernel_rfl) (by kernel_rfl) (Hy53.isSome hb59.1 hb59.2) hb59.1 hb59.2 sl46) ?_
                refine WA.opK (i := 15) (kw' := 17) (m := 2) (b' := 65535) (by kernel_rfl) rfl hS (by kernel_rfl) (op := .store 27 (.tmp 127) (.tmp 122)) (ty := 0) (d := none) (g := none) (by kernel_rfl) (by kernel_rfl) (by kernel_rfl) (Ow.store Hy53 (i := 1) rfl hb59.1 hb59.2 (z := (y53.getD (IntKind.i64.wrap (y52 - 1)).toNat z27)) (v := .agg #[.int .i64 ((y53.getD (IntKind.i64.wrap (y52 - 1)).toNat z27).f0), .int .i64 ((y53.getD (IntKind.i64.wrap (y52 - 1)).toNat z27).f1), .int .i64 ((y53.getD (IntKind.i64.wrap (y52 - 1)).toNat z27).f2), .int .i64 ((y53.getD (IntKind.i64.wrap (y52 - 1)).toNat z27).f3), .string ((y53.getD (IntKind.i64.wrap (y52 - 1)).toNat z27).f4)]) (by kernel_rfl) (by kernel_rfl) sz27 (by exact rfl)) ?_
                rintro _ _ _ ⟨rfl, rfl, C60, Ho61, rfl⟩
                refine ⟨_, _, Under.refl, ?_⟩
                refine WA.reput 0 (v := .slice Al0 y53.length cl0) (v' := .slice Al0 (y53.set y52.toNat (y53.getD (IntKind.i64.wrap (y52 - 1)).toNat z27)).length cl0) (by kernel_rfl) (by simp only [List.length_set]) ?_
                refine WA.reput 115 (v := .slice Al0 y53.length cl0) (v' := .slice Al0 (y53.set y52.toNat (y53.getD (IntKind.i64.wrap (y52 - 1)).toNat z27)).length cl0) (by kernel_rfl) (by simp only [List.length_set]) ?_
                by_cases hb62 : 0 ≤ (IntKind.i64.wrap (y52 - 1)) ∧ (IntKind.i64.wrap (y52 - 1)) < ((y53.set y52.toNat (y53.getD (IntKind.i64.wrap (y52 - 1)).toNat z27)).length : Int)
                case neg => rw [if_neg hb62] at h; cases h
                rw [if_pos hb62] at h
                refine WA.tellD [17] (i := 16) (m := 1) (b' := 131071) (by kernel_rfl) (NoPanic.block (NoPanic.then (NoPanic.then (NoPanic.block (NoPanic.then (NoPanic.then (NoPanic.then (NoPanic.body)))))))) Under.refl hS (by kernel_rfl) (op := .indexAddr 46 (.tmp 115) (.tmp 117)) (ty := 0) (d := some 128) (g := none) (by kernel_rfl) (by kernel_rfl) (by kernel_rfl) (Tells.indexAddr (A := Al0) (n := (y53.set y52.toNat (y53.getD (IntKind.i64.wrap (y52 - 1)).toNat z27)).length) (c := cl0) (k := .i64) (j := (IntKind.i64.wrap (y52 - 1))) (by kernel_rfl) (by kernel_rfl) (Ho61.isSome hb62.1 hb62.2) hb62.1 hb62.2 sl46) ?_
                refine WA.opK (i := 17) (kw' := 18) (m := 0) (b' := 262143) (by kernel_rfl) rfl hS (by kernel_rfl) (op := .store 27 (.tmp 128) (.tmp 126)) (ty := 0) (d := none) (g := none) (by kernel_rfl) (by kernel_rfl) (by kernel_rfl) (Ow.store Ho61 (i := 1) rfl hb62.1 hb62.2 (z := (y53.getD y52.toNat z27)) (v := .agg #[.int .i64 ((y53.getD y52.toNat z27).f0), .int .i64 ((y53.getD y52.toNat z27).f1), .int .i64 ((y53.getD y52.toNat z27).f2), .int .i64 ((y53.getD y52.toNat z27).f3), .string ((y53.getD y52.toNat z27).f4)]) (by kernel_rfl) (by kernel_rfl) sz27 (by exact rfl)) ?_
                rintro _ _ _ ⟨rfl, rfl, C63, Ho64, rfl⟩
                refine ⟨_, _, Under.refl, ?_⟩
                refine WA.reput 0 (v := .slice Al0 (y53.set y52.toNat (y53.getD (IntKind.i64.wrap (y52 - 1)).toNat z27)).length cl0) (v' := .slice Al0 ((y53.set y52.toNat (y53.getD (IntKind.i64.wrap (y52 - 1)).toNat z27)).set (IntKind.i64.wrap (y52 - 1)).toNat (y53.getD y52.toNat z27)).length cl0) (by kernel_rfl) (by simp only [List.length_set]) ?_
                refine WA.done hS (by kernel_rfl) ?_
                refine QP.pick [0, 14, 17] ?_
                refine QP.blockN ?_
                refine QP.next ?_
                refine WP.pick [0, 14, 17] ?_
                refine WP.regionP [0, 14, 17] (L' := [(0, .slice Al0 ((y53.set y52.toNat (y53.getD (IntKind.i64.wrap (y52 - 1)).toNat z27)).set (IntKind.i64.wrap (y52 - 1)).toNat (y53.getD y52.toNat z27)).length cl0), (14, .int .i64 s34), (17, .int .i64 (IntKind.i64.wrap (y52 - 1)))]) (by kernel_rfl) ?_
                refine QP.front (i := 1) rfl ?_
                refine QP.front (i := 1) rfl ?_
                refine QP.pick [0, 14, 17] ?_
                exact QP.meet ⟨kn55, Nat.lt_succ_self _, (IntKind.i64.wrap (y52 - 1)), ((y53.set y52.toNat (y53.getD (IntKind.i64.wrap (y52 - 1)).toNat z27)).set (IntKind.i64.wrap (y52 - 1)).toNat (y53.getD y52.toNat z27)), h, C63, rfl, rfl, rfl, Ho64, (by rw [List.length_set]; exact (by rw [List.length_set]; exact HLy53))⟩
              · replace hc := of_decide_eq_false hc
                rw [if_neg hc] at h
                have hc56 := hc
                clear hc
                refine WP.exit ?_
                refine QP.thenE ?_
                refine QP.thenE ?_
                refine QP.blockE ?_
                refine QP.pick [] ?_
                exact QP.meet ⟨_, Option.some.inj h, Cy53, rfl, rfl, rfl, Hy53, HLy53⟩
          · rintro _ _ _ ⟨s50, rfl, Cs50, rfl, rfl, rfl, Hs50, HLs50⟩
            clear h
            replace h := hk51
            refine QP.next ?_
            refine WP.pick [] ?_
            refine WP.ret ?_
            refine QP.thenR ?_
            obtain rfl := Option.some.inj h
            exact QP.returned [] [] _ (by kernel_rfl) (by kernel_rfl) (by kernel_rfl) (fun W hI => ⟨_, _, _, rfl, ⟨Cs50, rfl, Hs50, HLs50, rfl, rfl⟩, hI⟩)
      · replace hc := ne_of_beq_false hc
        rw [if_neg hc] at h
        have hc33 := hc
        clear hc
        refine WP.skip ?_
        refine QP.next ?_
        refine WP.pick [0, 1, 2, 3, 4] ?_
        refine WP.seqP [0, 1, 2, 3, 4, 18] (L' := [(0, .slice Al0 l0.length cl0), (1, .int .i64 a1), (2, .int .i64 a2), (3, .int .i64 a3), (4, .func (.func 59) #[] #[]), (18, .int .i64 (IntKind.i64.wrap (shrK .u64 (IntKind.u64.wrap (IntKind.i64.wrap (a1 + a3))) 1)))]) (by kernel_rfl) ?_
        obtain ⟨v65, hv66, h⟩ := Option.bind_eq_some_iff.1 h
        replace hv66 := Option.some.inj hv66
        refine WP.reput 18 (v := .int .i64 (IntKind.i64.wrap (shrK .u64 (IntKind.u64.wrap (IntKind.i64.wrap (a1 + a3))) 1))) (v' := .int .i64 v65) (by kernel_rfl) (by subst hv66; rfl) ?_
        refine WP.pick [0, 1, 2, 3, 4, 18] ?_
        refine WP.seqP [0, 1, 2, 3, 4, 18, 19] (L' := [(0, .slice Al0 l0.length cl0), (1, .int .i64 a1), (2, .int .i64 a2), (3, .int .i64 a3), (4, .func (.func 59) #[] #[]), (18, .int .i64 v65), (19, .int .i64 (IntKind.i64.wrap (v65 + a2)))]) (by kernel_rfl) ?_
        refine WP.seqP [0, 1, 2, 3, 4, 18, 19] (L' := [(0, .slice Al0 l0.length cl0), (1, .int .i64 a1), (2, .int .i64 a2), (3, .int .i64 a3), (4, .func (.func 59) #[] #[]), (18, .int .i64 v65), (19, .int .i64 (IntKind.i64.wrap (v65 + a2)))]) (by kernel_rfl) ?_
        refine WP.seq ?_
        refine WP.seqP [0, 1, 2, 3, 4, 18, 19, 140] (L' := [(0, .slice Al0 l0.length cl0), (1, .int .i64 a1), (2, .int .i64 a2), (3, .int .i64 a3), (4, .func (.func 59) #[] #[]), (18, .int .i64 v65), (19, .int .i64 (IntKind.i64.wrap (v65 + a2))), (140, .bool (decide (a2 > v65)))]) (by kernel_rfl) ?_
        refine WP.cond (b := decide (a2 > v65)) (by kernel_rfl) (fun hc => ?_) (fun hc => ?_)
        · replace hc := of_decide_eq_true hc
          rw [if_pos hc] at h
          have hc67 := hc
          clear hc
          refine WP.seqP [0, 1, 2, 3, 4, 18, 19, 20] (L' := [(0, .slice Al0 l0.length cl0), (1, .int .i64 a1), (2, .int .i64 a2), (3, .int .i64 a3), (4, .func (.func 59) #[] #[]), (18, .int .i64 v65), (19, .int .i64 (IntKind.i64.wrap (v65 + a2))), (20, .int .i64 (IntKind.i64.wrap ((IntKind.i64.wrap (v65 + a2)) - a3)))]) (by kernel_rfl) ?_
          obtain ⟨v68, hv69, h⟩ := Option.bind_eq_some_iff.1 h
          replace hv69 := Option.some.inj hv69
          refine WP.reput 20 (v := .int .i64 (IntKind.i64.wrap ((IntKind.i64.wrap (v65 + a2)) - a3))) (v' := .int .i64 v68) (by kernel_rfl) (by subst hv69; rfl) ?_
          refine WP.pick [0, 1, 2, 3, 4, 18, 19, 20] ?_
          refine WP.regionP [0, 1, 2, 3, 4, 18, 19, 20, 21] (L' := [(0, .slice Al0 l0.length cl0), (1, .int .i64 a1), (2, .int .i64 a2), (3, .int .i64 a3), (4, .func (.func 59) #[] #[]), (18, .int .i64 v65), (19, .int .i64 (IntKind.i64.wrap (v65 + a2))), (20, .int .i64 v68), (21, .int .i64 v65)]) (by kernel_rfl) ?_
          refine QP.next ?_
          refine WP.pick [0, 1, 2, 3, 4, 18, 19, 20, 21] ?_
          refine WP.seqP [0, 1, 2, 3, 4, 18, 19, 20, 21, 22] (L' := [(0, .slice Al0 l0.length cl0), (1, .int .i64 a1), (2, .int .i64 a2), (3, .int .i64 a3), (4, .func (.func 59) #[] #[]), (18, .int .i64 v65), (19, .int .i64 (IntKind.i64.wrap (v65 + a2))), (20, .int .i64 v68), (21, .int .i64 v65), (22, .int .i64 (IntKind.i64.wrap ((IntKind.i64.wrap (v65 + a2)) - 1)))]) (by kernel_rfl) ?_
          obtain ⟨v70, hv71, h⟩ := Option.bind_eq_some_iff.1 h
          replace hv71 := Option.some.inj hv71
          refine WP.reput 22 (v := .int .i64 (IntKind.i64.wrap ((IntKind.i64.wrap (v65 + a2)) - 1))) (v' := .int .i64 v70) (by kernel_rfl) (by subst hv71; rfl) ?_
          refine WP.pick [0, 1, 2, 3, 4, 18, 19, 20, 21, 22] ?_
          rw [Option.bind_eq_some_iff] at h
          obtain ⟨os72, h, hk73⟩ := h
          refine WP.cut (fun L' G' Γ' => ∃ s72 : Int, s72 = os72 ∧ L' = [(0, .slice Al0 l0.length cl0), (1, .int .i64 a1), (2, .int .i64 a2), (3, .int .i64 a3), (4, .func (.func 59) #[] #[]), (18, .int .i64 v65), (19, .int .i64 (IntKind.i64.wrap (v65 + a2))), (20, .int .i64 s72)] ∧ G = G' ∧ [] :: Cl0 :: Γ = Γ') ?_ ?_
          · clear hk73
            refine WP.block ?_
            refine WP.pick [0, 1, 2, 3, 4, 18, 19, 20, 21, 22] ?_
            refine WP.loopF (fun kn76 L' G' Γ' => ∃ (y74 : Int), ∃ (y75 : Int), slices_symMergeCmpFunc_l4 l0 v70 kn76 y74 y75 = some os72 ∧ L' = [(0, .slice Al0 l0.length cl0), (1, .int .i64 a1), (2, .int .i64 a2), (3, .int .i64 a3), (4, .func (.func 59) #[] #[]), (18, .int .i64 v65), (19, .int .i64 (IntKind.i64.wrap (v65 + a2))), (20, .int .i64 y74), (21, .int .i64 y75), (22, .int .i64 v70)] ∧ G = G' ∧ [] :: Cl0 :: Γ = Γ') ?_ kf ⟨v68, v65, h, rfl, rfl, rfl⟩
            clear h
            rintro kn77 _ _ _ ⟨y74, y75, h, rfl, rfl, rfl⟩
            cases kn77 with
            | zero => exact absurd h (by simp [slices_symMergeCmpFunc_l4])
            | succ kn77 =>
              simp only [slices_symMergeCmpFunc_l4] at h
              refine WP.seq ?_
              refine WP.seqP [0, 1, 2, 3, 4, 18, 19, 20, 21, 22, 151] (L' := [(0, .slice Al0 l0.length cl0), (1, .int .i64 a1), (2, .int .i64 a2), (3, .int .i64 a3), (4, .func (.func 59) #[] #[]), (18, .int .i64 v65), (19, .int .i64 (IntKind.i64.wrap (v65 + a2))), (20, .int .i64 y74), (21, .int .i64 y75), (22, .int .i64 v70), (151, .bool (decide (y74 < y75)))]) (by kernel_rfl) ?_
              refine WP.cond (b := decide (y74 < y75)) (by kernel_rfl) (fun hc => ?_) (fun hc => ?_)
              · replace hc := of_decide_eq_true hc
                rw [if_pos hc] at h
                have hc78 := hc
                clear hc
                refine WP.skip ?_
                refine QP.next ?_
                refine WP.pick [0, 1, 2, 3, 4, 18, 19, 20, 21, 22] ?_
                refine WP.block ?_
                refine WP.seqP [0, 1, 2, 3, 4, 18, 19, 20, 21, 22, 23] (L' := [(0, .slice Al0 l0.length cl0), (1, .int .i64 a1), (2, .int .i64 a2), (3, .int .i64 a3), (4, .func (.func 59) #[] #[]), (18, .int .i64 v65), (19, .int .i64 (IntKind.i64.wrap (v65 + a2))), (20, .int .i64 y74), (21, .int .i64 y75), (22, .int .i64 v70), (23, .int .i64 (IntKind.i64.wrap (shrK .u64 (IntKind.u64.wrap (IntKind.i64.wrap (y74 + y75))) 1)))]) (by kernel_rfl) ?_
                obtain ⟨v79, hv80, h⟩ := Option.bind_eq_some_iff.1 h
                replace hv80 := Option.some.inj hv80
                refine WP.reput 23 (v := .int .i64 (IntKind.i64.wrap (shrK .u64 (IntKind.u64.wrap (IntKind.i64.wrap (y74 + y75))) 1))) (v' := .int .i64 v79) (by kernel_rfl) (by subst hv80; rfl) ?_
                refine WP.pick [0, 1, 2, 3, 4, 18, 19, 20, 21, 22, 23] ?_
                refine WP.seq ?_
                refine WP.any (N := 14) (S := [⟨some 158, [4], []⟩, ⟨some 159, [0], []⟩, ⟨some 160, [22], []⟩, ⟨some 161, [23], []⟩, ⟨some 162, [160, 161], [2, 3]⟩, ⟨some 163, [159, 162], [1, 4]⟩, ⟨some 164, [163], [5]⟩, ⟨some 165, [0], []⟩, ⟨some 166, [23], []⟩, ⟨some 167, [165, 166], [7, 8]⟩, ⟨some 168, [167], [9]⟩, ⟨some 169, [158, 164, 168], [0, 6, 10]⟩, ⟨some 170, [169], [11]⟩, ⟨some 171, [170], [12]⟩]) (kw := 14) (G0 := G) (Γ0 := [] :: Cl0 :: Γ) mo (by kernel_rfl) (fun hS => ?_)
                refine WA.pure [0, 1, 2, 3, 4, 7, 8] [0, 1, 2, 3, 4, 18, 19, 20, 21, 22, 23, 158, 159, 162, 165, 166] (m := 7) (b' := 415) (L' := [(0, .slice Al0 l0.length cl0), (1, .int .i64 a1), (2, .int .i64 a2), (3, .int .i64 a3), (4, .func (.func 59) #[] #[]), (18, .int .i64 v65), (19, .int .i64 (IntKind.i64.wrap (v65 + a2))), (20, .int .i64 y74), (21, .int .i64 y75), (22, .int .i64 v70), (23, .int .i64 v79), (158, .func (.func 59) #[] #[]), (159, .slice Al0 l0.length cl0), (162, .int .i64 (IntKind.i64.wrap (v70 - v79))), (165, .slice Al0 l0.length cl0), (166, .int .i64 v79)]) (by kernel_rfl) (NoPanic.then (NoPanic.block (NoPanic.then (NoPanic.block (NoPanic.then (NoPanic.body)))))) Under.refl hS (by kernel_rfl) ?_
                by_cases hb81 : 0 ≤ (IntKind.i64.wrap (v70 - v79)) ∧ (IntKind.i64.wrap (v70 - v79)) < (l0.length : Int)
                case neg => rw [if_neg hb81] at h; cases h
                rw [if_pos hb81] at h
                refine WA.tellD [] (i := 5) (m := 6) (b' := 447) (by kernel_rfl) (NoPanic.then (NoPanic.block (NoPanic.then (NoPanic.block (NoPanic.then (NoPanic.body)))))) Under.refl hS (by kernel_rfl) (op := .indexAddr 46 (.tmp 159) (.tmp 162)) (ty := 0) (d := some 163) (g := none) (by kernel_rfl) (by kernel_rfl) (by kernel_rfl) (Tells.indexAddr (A := Al0) (n := l0.length) (c := cl0) (k := .i64) (j := (IntKind.i64.wrap (v70 - v79))) (by kernel_rfl) (by kernel_rfl) (Hl0.isSome hb81.1 hb81.2) hb81.1 hb81.2 sl46) ?_
                refine WA.tellDE [] (i := 6) (m := 5) (b' := 511) (by kernel_rfl) (NoPanic.then (NoPanic.block (NoPanic.then (NoPanic.block (NoPanic.then (NoPanic.body)))))) Under.refl hS (by kernel_rfl) (op := .load 27 (.tmp 163)) (ty := 27) (d := some 164) (g := none) (by kernel_rfl) (by kernel_rfl) (by kernel_rfl) (Hl0.load (i := 1) rfl (agg := true) hb81.1 hb81.2 z27 ag27 (fun h => by cases h) (by kernel_rfl)) ?_
                rintro _ rfl
                by_cases hb82 : 0 ≤ v79 ∧ v79 < (l0.length : Int)
                case neg => rw [if_neg hb82] at h; cases h
                rw [if_pos hb82] at h
                refine WA.tellD [] (i := 9) (m := 4) (b' := 1023) (by kernel_rfl) (NoPanic.then (NoPanic.block (NoPanic.then (NoPanic.block (NoPanic.then (NoPanic.body)))))) Under.refl hS (by kernel_rfl) (op := .indexAddr 46 (.tmp 165) (.tmp 166)) (ty := 0) (d := some 167) (g := none) (by kernel_rfl) (by kernel_rfl) (by kernel_rfl) (Tells.indexAddr (A := Al0) (n := l0.length) (c := cl0) (k := .i64) (j := v79) (by kernel_rfl) (by kernel_rfl) (Hl0.isSome hb82.1 hb82.2) hb82.1 hb82.2 sl46) ?_
                refine WA.tellDE [] (i := 10) (m := 3) (b' := 2047) (by kernel_rfl) (NoPanic.then (NoPanic.block (NoPanic.then (NoPanic.block (NoPanic.then (NoPanic.body)))))) Under.refl hS (by kernel_rfl) (op := .load 27 (.tmp 167)) (ty := 27) (d := some 168) (g := none) (by kernel_rfl) (by kernel_rfl) (by kernel_rfl) (Hl0.load (i := 1) rfl (agg := true) hb82.1 hb82.2 z27 ag27 (fun h => by cases h) (by kernel_rfl)) ?_
                rintro _ rfl
                rw [Option.bind_eq_some_iff] at h
                obtain ⟨t83, ht84, h⟩ := h
                refine WA.op (i := 11) (m := 2) (b' := 4095) (by kernel_rfl) hS (by kernel_rfl) (op := .call { callee := (.value (.tmp 158)), args := #[(.tmp 164), (.tmp 168)], argTypes := #[27, 27] }) (ty := 3) (d := some 169) (g := none) (by kernel_rfl) (by kernel_rfl) (by kernel_rfl) (Does.call (f := 59) (args := [.agg #[.int .i64 ((l0.getD (IntKind.i64.wrap (v70 - v79)).toNat z27).f0), .int .i64 ((l0.getD (IntKind.i64.wrap (v70 - v79)).toNat z27).f1), .int .i64 ((l0.getD (IntKind.i64.wrap (v70 - v79)).toNat z27).f2), .int .i64 ((l0.getD (IntKind.i64.wrap (v70 - v79)).toNat z27).f3), .string ((l0.getD (IntKind.i64.wrap (v70 - v79)).toNat z27).f4)], .agg #[.int .i64 ((l0.getD v79.toNat z27).f0), .int .i64 ((l0.getD v79.toNat z27).f1), .int .i64 ((l0.getD v79.toNat z27).f2), .int .i64 ((l0.getD v79.toNat z27).f3), .string ((l0.getD v79.toNat z27).f4)]]) (by kernel_rfl) (fun W hI => (record_order_calls (l0.getD (IntKind.i64.wrap (v70 - v79)).toNat z27) (l0.getD v79.toNat z27)  t83 ht84 hI))) ?_
                rintro _ _ _ ⟨rfl, rfl, rfl⟩
                refine ⟨_, _, Under.refl, Under.refl, ?_⟩
                refine WA.pure [12, 13] [0, 1, 2, 3, 4, 18, 19, 20, 21, 22, 23, 171] (m := 0) (b' := 16383) (L' := [(0, .slice Al0 l0.length cl0), (1, .int .i64 a1), (2, .int .i64 a2), (3, .int .i64 a3), (4, .func (.func 59) #[] #[]), (18, .int .i64 v65), (19, .int .i64 (IntKind.i64.wrap (v65 + a2))), (20, .int .i64 y74), (21, .int .i64 y75), (22, .int .i64 v70), (23, .int .i64 v79), (171, .bool (!(decide (t83 < 0))))]) (by kernel_rfl) (NoPanic.then (NoPanic.block (NoPanic.then (NoPanic.block (NoPanic.then (NoPanic.body)))))) Under.refl hS (by kernel_rfl) ?_
                refine WA.done hS (by kernel_rfl) ?_
                refine QP.pick [0, 1, 2, 3, 4, 18, 19, 20, 21, 22, 23, 171] ?_
                refine QP.next ?_
                refine WP.cond (b := (!(decide (t83 < 0)))) (by kernel_rfl) (fun hc => ?_) (fun hc => ?_)
                · replace hc := hc
                  rw [if_pos hc] at h
                  have hc87 := hc
                  clear hc
                  refine WP.regionP [0, 1, 2, 3, 4, 18, 19, 20, 21, 22] (L' := [(0, .slice Al0 l0.length cl0), (1, .int .i64 a1), (2, .int .i64 a2), (3, .int .i64 a3), (4, .func (.func 59) #[] #[]), (18, .int .i64 v65), (19, .int .i64 (IntKind.i64.wrap (v65 + a2))), (20, .int .i64 (IntKind.i64.wrap (v79 + 1))), (21, .int .i64 y75), (22, .int .i64 v70)]) (by kernel_rfl) ?_
                  refine QP.blockN ?_
                  refine QP.front (i := 1) rfl ?_
                  refine QP.front (i := 1) rfl ?_
                  refine QP.pick [0, 1, 2, 3, 4, 18, 19, 20, 21, 22] ?_
                  exact QP.meet ⟨kn77, Nat.lt_succ_self _, (IntKind.i64.wrap (v79 + 1)), y75, h, rfl, rfl, rfl⟩
                · replace hc := (Bool.eq_false_iff.1 hc)
                  rw [if_neg hc] at h
                  have hc87 := hc
                  clear hc
                  refine WP.regionP [0, 1, 2, 3, 4, 18, 19, 20, 21, 22] (L' := [(0, .slice Al0 l0.length cl0), (1, .int .i64 a1), (2, .int .i64 a2), (3, .int .i64 a3), (4, .func (.func 59) #[] #[]), (18, .int .i64 v65), (19, .int .i64 (IntKind.i64.wrap (v65 + a2))), (20, .int .i64 y74), (21, .int .i64 v79), (22, .int .i64 v70)]) (by kernel_rfl) ?_
                  refine QP.blockN ?_
                  refine QP.front (i := 1) rfl ?_
                  refine QP.front (i := 1) rfl ?_
                  refine QP.pick [0, 1, 2, 3, 4, 18, 19, 20, 21, 22] ?_
                  exact QP.meet ⟨kn77, Nat.lt_succ_self _, y74, v79, h, rfl, rfl, rfl⟩
              · replace hc := of_decide_eq_false hc
                rw [if_neg hc] at h
                have hc78 := hc
                clear hc
                refine WP.exit ?_
                refine QP.thenE ?_
                refine QP.thenE ?_
                refine QP.blockE ?_
                refine QP.pick [0, 1, 2, 3, 4, 18, 19, 20] ?_
                exact QP.meet ⟨_, Option.some.inj h, rfl, rfl, rfl⟩
          · rintro _ _ _ ⟨s72, rfl, rfl, rfl, rfl⟩
            clear h
            replace h := hk73
            refine WP.seqP [0, 1, 2, 3, 4, 18, 20, 24] (L' := [(0, .slice Al0 l0.length cl0), (1, .int .i64 a1), (2, .int .i64 a2), (3, .int .i64 a3), (4, .func (.func 59) #[] #[]), (18, .int .i64 v65), (20, .int .i64 s72), (24, .int .i64 (IntKind.i64.wrap ((IntKind.i64.wrap (v65 + a2)) - s72)))]) (by kernel_rfl) ?_
            obtain ⟨v88, hv89, h⟩ := Option.bind_eq_some_iff.1 h
            replace hv89 := Option.some.inj hv89
            refine WP.reput 24 (v := .int .i64 (IntKind.i64.wrap ((IntKind.i64.wrap (v65 + a2)) - s72))) (v' := .int .i64 v88) (by kernel_rfl) (by subst hv89; rfl) ?_
            refine WP.pick [0, 1, 2, 3, 4, 18, 20, 24] ?_
            refine WP.seq ?_
            rw [Option.bind_eq_some_iff] at h
            obtain ⟨os90, h, hk91⟩ := h
            refine WP.cut (fun L' G' Γ' => ∃ s90 : Bool, s90 = os90 ∧ L' = [(0, .slice Al0 l0.length cl0), (1, .int .i64 a1), (2, .int .i64 a2), (3, .int .i64 a3), (4, .func (.func 59) #[] #[]), (18, .int .i64 v65), (20, .int .i64 s72), (24, .int .i64 v88), (185, .bool s90)] ∧ G = G' ∧ [] :: Cl0 :: Γ = Γ') ?_ ?_
            · clear hk91
              refine WP.region ?_
              refine WL.pure 0 4 [0, 1, 2, 3, 4, 18, 20, 24, 181] (L' := [(0, .slice Al0 l0.length cl0), (1, .int .i64 a1), (2, .int .i64 a2), (3, .int .i64 a3), (4, .func (.func 59) #[] #[]), (18, .int .i64 v65), (20, .int .i64 s72), (24, .int .i64 v88), (181, .bool (decide (s72 < a2)))]) (by kernel_rfl) (by decide) ?_
              refine WL.split 181 (b := decide (s72 < a2)) (by kernel_rfl) (fun hc => ?_) (fun hc => ?_)
              · replace hc := of_decide_eq_true hc
                rw [if_pos hc] at h
                have hc92 := hc
                clear hc
                refine WL.rest 4 [0, 1, 2, 3, 4, 18, 20, 24, 185] (L' := [(0, .slice Al0 l0.length cl0), (1, .int .i64 a1), (2, .int .i64 a2), (3, .int .i64 a3), (4, .func (.func 59) #[] #[]), (18, .int .i64 v65), (20, .int .i64 s72), (24, .int .i64 v88), (185, .bool (decide (a2 < v88)))]) (by kernel_rfl) ?_
                refine QP.pick [0, 1, 2, 3, 4, 18, 20, 24, 185] ?_
                exact QP.meet ⟨_, Option.some.inj h, rfl, rfl, rfl⟩
              · replace hc := of_decide_eq_false hc
                rw [if_neg hc] at h
                have hc92 := hc
                clear hc
                refine WL.rest 4 [0, 1, 2, 3, 4, 18, 20, 24, 185] (L' := [(0, .slice Al0 l0.length cl0), (1, .int .i64 a1), (2, .int .i64 a2), (3, .int .i64 a3), (4, .func (.func 59) #[] #[]), (18, .int .i64 v65), (20, .int .i64 s72), (24, .int .i64 v88), (185, .bool false)]) (by kernel_rfl) ?_
                refine QP.pick [0, 1, 2, 3, 4, 18, 20, 24, 185] ?_
                exact QP.meet ⟨_, Option.some.inj h, rfl, rfl, rfl⟩
            · rintro _ _ _ ⟨s90, rfl, rfl, rfl, rfl⟩
              clear h
              replace h := hk91
              refine WP.cond (b := s90) (by kernel_rfl) (fun hc => ?_) (fun hc => ?_)
              · replace hc := hc
                rw [if_pos hc] at h
                have hc93 := hc
                clear hc
                refine WP.region ?_
                refine WL.pure 0 5 [0, 1, 3, 4, 18, 20, 24, 186, 187, 188, 189, 190] (L' := [(0, .slice Al0 l0.length cl0), (1, .int .i64 a1), (3, .int .i64 a3), (4, .func (.func 59) #[] #[]), (18, .int .i64 v65), (20, .int .i64 s72), (24, .int .i64 v88), (186, .slice Al0 l0.length cl0), (187, .int .i64 s72), (188, .int .i64 a2), (189, .int .i64 v88), (190, .func (.func 59) #[] #[])]) (by kernel_rfl) (by decide) ?_
                refine WL.front (i := 1) rfl ?_
                refine WL.front (i := 1) rfl ?_
                rw [Option.bind_eq_some_iff] at h
                obtain ⟨t94, ht95, h⟩ := h
                refine WL.op (op := .call { callee := (.value (.func 90)), args := #[(.tmp 186), (.tmp 187), (.tmp 188), (.tmp 189), (.tmp 190)], argTypes := #[46, 3, 3, 3, 74] }) (ty := 0) (d := some 191) (g := none) (by kernel_rfl) (by kernel_rfl) (by kernel_rfl) (Does.call (f := 90) (args := [.slice Al0 l0.length cl0, .int .i64 s72, .int .i64 a2, .int .i64 v88, .func (.func 59) #[] #[]]) (by kernel_rfl) (fun W hI => (slices_rotateCmpFunc_calls kf l0 s72 a2 v88 Al0 cl0 Cl0 Hl0 t94 ht95 hI))) ?_
                rintro _ _ _ ⟨CR96p0, rfl, HR96p0, HLR96p0, rfl, rfl⟩
                refine WL.reput 0 (v := .slice Al0 l0.length cl0) (v' := .slice Al0 t94.length cl0) (by kernel_rfl) (by rw [HLR96p0]) ?_
                refine WL.rest 6 [0, 1, 3, 4, 18, 20, 24] (L' := [(0, .slice Al0 t94.length cl0), (1, .int .i64 a1), (3, .int .i64 a3), (4, .func (.func 59) #[] #[]), (18, .int .i64 v65), (20, .int .i64 s72), (24, .int .i64 v88)]) (by kernel_rfl) ?_
                refine QP.next ?_
                refine WP.pick [0, 1, 3, 4, 18, 20, 24] ?_
                refine WP.seq ?_
                rw [Option.bind_eq_some_iff] at h
                obtain ⟨os98, h, hk99⟩ := h
                refine WP.cut (fun L' G' Γ' => ∃ s98 : Bool, s98 = os98 ∧ L' = [(0, .slice Al0 t94.length cl0), (1, .int .i64 a1), (3, .int .i64 a3), (4, .func (.func 59) #[] #[]), (18, .int .i64 v65), (20, .int .i64 s72), (24, .int .i64 v88), (199, .bool s98)] ∧ G = G' ∧ [] :: CR96p0 :: Γ = Γ') ?_ ?_
                · clear hk99
                  refine WP.region ?_
                  refine WL.pure 0 4 [0, 1, 3, 4, 18, 20, 24, 195] (L' := [(0, .slice Al0 t94.length cl0), (1, .int .i64 a1), (3, .int .i64 a3), (4, .func (.func 59) #[] #[]), (18, .int .i64 v65), (20, .int .i64 s72), (24, .int .i64 v88), (195, .bool (decide (a1 < s72)))]) (by kernel_rfl) (by decide) ?_
                  refine WL.split 195 (b := decide (a1 < s72)) (by kernel_rfl) (fun hc => ?_) (fun hc => ?_)
                  · replace hc := of_decide_eq_true hc
                    rw [if_pos hc] at h
                    have hc100 := hc
                    clear hc
                    refine WL.rest 4 [0, 1, 3, 4, 18, 20, 24, 199] (L' := [(0, .slice Al0 t94.length cl0), (1, .int .i64 a1), (3, .int .i64 a3), (4, .func (.func 59) #[] #[]), (18, .int .i64 v65), (20, .int .i64 s72), (24, .int .i64 v88), (199, .bool (decide (s72 < v65)))]) (by kernel_rfl) ?_
                    refine QP.pick [0, 1, 3, 4, 18, 20, 24, 199] ?_
                    exact QP.meet ⟨_, Option.some.inj h, rfl, rfl, rfl⟩
                  · replace hc := of_decide_eq_false hc
                    rw [if_neg hc] at h
                    have hc100 := hc
                    clear hc
                    refine WL.rest 4 [0, 1, 3, 4, 18, 20, 24, 199] (L' := [(0, .slice Al0 t94.length cl0), (1, .int .i64 a1), (3, .int .i64 a3), (4, .func (.func 59) #[] #[]), (18, .int .i64 v65), (20, .int .i64 s72), (24, .int .i64 v88), (199, .bool false)]) (by kernel_rfl) ?_
                    refine QP.pick [0, 1, 3, 4, 18, 20, 24, 199] ?_
                    exact QP.meet ⟨_, Option.some.inj h, rfl, rfl, rfl⟩
                · rintro _ _ _ ⟨s98, rfl, rfl, rfl, rfl⟩
                  clear h
                  replace h := hk99
                  refine WP.cond (b := s98) (by kernel_rfl) (fun hc => ?_) (fun hc => ?_)
                  · replace hc := hc
                    rw [if_pos hc] at h
                    have hc101 := hc
                    clear hc
                    refine WP.region ?_
                    refine WL.pure 0 5 [0, 3, 4, 18, 24, 200, 201, 202, 203, 204] (L' := [(0, .slice Al0 t94.length cl0), (3, .int .i64 a3), (4, .func (.func 59) #[] #[]), (18, .int .i64 v65), (24, .int .i64 v88), (200, .slice Al0 t94.length cl0), (201, .int .i64 a1), (202, .int .i64 s72), (203, .int .i64 v65), (204, .func (.func 59) #[] #[])]) (by kernel_rfl) (by decide) ?_
                    refine WL.front (i := 1) rfl ?_
                    refine WL.front (i := 1) rfl ?_
                    rw [Option.bind_eq_some_iff] at h
                    obtain ⟨t102, ht103, h⟩ := h
                    refine WL.op (op := .call { callee := (.value (.func 84)), args := #[(.tmp 200), (.tmp 201), (.tmp 202), (.tmp 203), (.tmp 204)], argTypes := #[46, 3, 3, 3, 74] }) (ty := 0) (d := some 205) (g := none) (by kernel_rfl) (by kernel_rfl) (by kernel_rfl) (Does.call (f := 84) (args := [.slice Al0 t94.length cl0, .int .i64 a1, .int .i64 s72, .int .i64 v65, .func (.func 59) #[] #[]]) (by kernel_rfl) (fun W hI => (ih t94 a1 s72 v65 Al0 cl0 CR96p0 HR96p0 t102 ht103 hI))) ?_
                    rintro _ _ _ ⟨CR104p0, rfl, HR104p0, HLR104p0, rfl, rfl⟩
                    refine WL.reput 0 (v := .slice Al0 t94.length cl0) (v' := .slice Al0 t102.length cl0) (by kernel_rfl) (by rw [HLR104p0]) ?_
                    refine WL.rest 6 [0, 3, 4, 18, 24] (L' := [(0, .slice Al0 t102.length cl0), (3, .int .i64 a3), (4, .func (.func 59) #[] #[]), (18, .int .i64 v65), (24, .int .i64 v88)]) (by kernel_rfl) ?_
                    refine QP.next ?_
                    refine WP.pick [0, 3, 4, 18, 24] ?_
                    rw [Option.bind_eq_some_iff] at h
                    obtain ⟨os106, h, hk107⟩ := h
                    refine WP.cut (fun L' G' Γ' => ∃ s106 : Bool, s106 = os106 ∧ L' = [(0, .slice Al0 t102.length cl0), (3, .int .i64 a3), (4, .func (.func 59) #[] #[]), (18, .int .i64 v65), (24, .int .i64 v88), (213, .bool s106)] ∧ G = G' ∧ [] :: CR104p0 :: Γ = Γ') ?_ ?_
                    · clear hk107
                      refine WP.region ?_
                      refine WL.pure 0 4 [0, 3, 4, 18, 24, 209] (L' := [(0, .slice Al0 t102.length cl0), (3, .int .i64 a3), (4, .func (.func 59) #[] #[]), (18, .int .i64 v65), (24, .int .i64 v88), (209, .bool (decide (v65 < v88)))]) (by kernel_rfl) (by decide) ?_
                      refine WL.split 209 (b := decide (v65 < v88)) (by kernel_rfl) (fun hc => ?_) (fun hc => ?_)
                      · replace hc := of_decide_eq_true hc
                        rw [if_pos hc] at h
                        have hc108 := hc
                        clear hc
                        refine WL.rest 4 [0, 3, 4, 18, 24, 213] (L' := [(0, .slice Al0 t102.length cl0), (3, .int .i64 a3), (4, .func (.func 59) #[] #[]), (18, .int .i64 v65), (24, .int .i64 v88), (213, .bool (decide (v88 < a3)))]) (by kernel_rfl) ?_
                        refine QP.pick [0, 3, 4, 18, 24, 213] ?_
                        exact QP.meet ⟨_, Option.some.inj h, rfl, rfl, rfl⟩
                      · replace hc := of_decide_eq_false hc
                        rw [if_neg hc] at h
                        have hc108 := hc
                        clear hc
                        refine WL.rest 4 [0, 3, 4, 18, 24, 213] (L' := [(0, .slice Al0 t102.length cl0), (3, .int .i64 a3), (4, .func (.func 59) #[] #[]), (18, .int .i64 v65), (24, .int .i64 v88), (213, .bool false)]) (by kernel_rfl) ?_
                        refine QP.pick [0, 3, 4, 18, 24, 213] ?_
                        exact QP.meet ⟨_, Option.some.inj h, rfl, rfl, rfl⟩
                    · rintro _ _ _ ⟨s106, rfl, rfl, rfl, rfl⟩
                      clear h
                      replace h := hk107
                      refine WP.cond (b := s106) (by kernel_rfl) (fun hc => ?_) (fun hc => ?_)
                      · replace hc := hc
                        rw [if_pos hc] at h
                        have hc109 := hc
                        clear hc
                        refine WP.region ?_
                        refine WL.pure 0 5 [214, 215, 216, 217, 218] (L' := [(214, .slice Al0 t102.length cl0), (215, .int .i64 v65), (216, .int .i64 v88), (217, .int .i64 a3), (218, .func (.func 59) #[] #[])]) (by kernel_rfl) (by decide) ?_
                        refine WL.front (i := 1) rfl ?_
                        refine WL.front (i := 1) rfl ?_
                        rw [Option.bind_eq_some_iff] at h
                        obtain ⟨t110, ht111, h⟩ := h
                        refine WL.op (op := .call { callee := (.value (.func 84)), args := #[(.tmp 214), (.tmp 215), (.tmp 216), (.tmp 217), (.tmp 218)], argTypes := #[46, 3, 3, 3, 74] }) (ty := 0) (d := some 219) (g := none) (by kernel_rfl) (by kernel_rfl) (by kernel_rfl) (Does.call (f := 84) (args := [.slice Al0 t102.length cl0, .int .i64 v65, .int .i64 v88, .int .i64 a3, .func (.func 59) #[] #[]]) (by kernel_rfl) (fun W hI => (ih t102 v65 v88 a3 Al0 cl0 CR104p0 HR104p0 t110 ht111 hI))) ?_
                        rintro _ _ _ ⟨CR112p0, rfl, HR112p0, HLR112p0, rfl, rfl⟩
                        refine WL.rest 6 [] (L' := []) (by kernel_rfl) ?_
                        obtain rfl := Option.some.inj h
                        exact QP.returnedN [] [] _ (by kernel_rfl) (by kernel_rfl) (by kernel_rfl) (fun W hI => ⟨_, _, _, rfl, ⟨CR112p0, rfl, HR112p0, (HLR112p0.trans (HLR104p0.trans HLR96p0)), rfl, rfl⟩, hI⟩)
                      · replace hc := (Bool.eq_false_iff.1 hc)
                        rw [if_neg hc] at h
                        have hc109 := hc
                        clear hc
                        refine WP.skip ?_
                        obtain rfl := Option.some.inj h
                        exact QP.returnedN [] [] _ (by kernel_rfl) (by kernel_rfl) (by kernel_rfl) (fun W hI => ⟨_, _, _, rfl, ⟨CR104p0, rfl, HR104p0, (HLR104p0.trans HLR96p0), rfl, rfl⟩, hI⟩)
                  · replace hc := (Bool.eq_false_iff.1 hc)
                    rw [if_neg hc] at h
                    have hc101 := hc
                    clear hc
                    refine WP.skip ?_
                    refine QP.next ?_
                    refine WP.pick [0, 3, 4, 18, 24] ?_
                    rw [Option.bind_eq_some_iff] at h
                    obtain ⟨os114, h, hk115⟩ := h
                    refine WP.cut (fun L' G' Γ' => ∃ s114 : Bool, s114 = os114 ∧ L' = [(0, .slice Al0 t94.length cl0), (3, .int .i64 a3), (4, .func (.func 59) #[] #[]), (18, .int .i64 v65), (24, .int .i64 v88), (213, .bool s114)] ∧ G = G' ∧ [] :: CR96p0 :: Γ = Γ') ?_ ?_
                    · clear hk115
                      refine WP.region ?_
                      refine WL.pure 0 4 [0, 3, 4, 18, 24, 209] (L' := [(0, .slice Al0 t94.length cl0), (3, .int .i64 a3), (4, .func (.func 59) #[] #[]), (18, .int .i64 v65), (24, .int .i64 v88), (209, .bool (decide (v65 < v88)))]) (by kernel_rfl) (by decide) ?_
                      refine WL.split 209 (b := decide (v65 < v88)) (by kernel_rfl) (fun hc => ?_) (fun hc => ?_)
                      · replace hc := of_decide_eq_true hc
                        rw [if_pos hc] at h
                        have hc116 := hc
                        clear hc
                        refine WL.rest 4 [0, 3, 4, 18, 24, 213] (L' := [(0, .slice Al0 t94.length cl0), (3, .int .i64 a3), (4, .func (.func 59) #[] #[]), (18, .int .i64 v65), (24, .int .i64 v88), (213, .bool (decide (v88 < a3)))]) (by kernel_rfl) ?_
                        refine QP.pick [0, 3, 4, 18, 24, 213] ?_
                        exact QP.meet ⟨_, Option.some.inj h, rfl, rfl, rfl⟩
                      · replace hc := of_decide_eq_false hc
                        rw [if_neg hc] at h
                        have hc116 := hc
                        clear hc
                        refine WL.rest 4 [0, 3, 4, 18, 24, 213] (L' := [(0, .slice Al0 t94.length cl0), (3, .int .i64 a3), (4, .func (.func 59) #[] #[]), (18, .int .i64 v65), (24, .int .i64 v88), (213, .bool false)]) (by kernel_rfl) ?_
                        refine QP.pick [0, 3, 4, 18, 24, 213] ?_
                        exact QP.meet ⟨_, Option.some.inj h, rfl, rfl, rfl⟩
                    · rintro _ _ _ ⟨s114, rfl, rfl, rfl, rfl⟩
                      clear h
                      replace h := hk115
                      refine WP.cond (b := s114) (by kernel_rfl) (fun hc => ?_) (fun hc => ?_)
                      · replace hc := hc
                        rw [if_pos hc] at h
                        have hc117 := hc
                        clear hc
                        refine WP.region ?_
                        refine WL.pure 0 5 [214, 215, 216, 217, 218] (L' := [(214, .slice Al0 t94.length cl0), (215, .int .i64 v65), (216, .int .i64 v88), (217, .int .i64 a3), (218, .func (.func 59) #[] #[])]) (by kernel_rfl) (by decide) ?_
                        refine WL.front (i := 1) rfl ?_
                        refine WL.front (i := 1) rfl ?_
                        rw [Option.bind_eq_some_iff] at h
                        obtain ⟨t118, ht119, h⟩ := h
                        refine WL.op (op := .call { callee := (.value (.func 84)), args := #[(.tmp 214), (.tmp 215), (.tmp 216), (.tmp 217), (.tmp 218)], argTypes := #[46, 3, 3, 3, 74] }) (ty := 0) (d := some 219) (g := none) (by kernel_rfl) (by kernel_rfl) (by kernel_rfl) (Does.call (f := 84) (args := [.slice Al0 t94.length cl0, .int .i64 v65, .int .i64 v88, .int .i64 a3, .func (.func 59) #[] #[]]) (by kernel_rfl) (fun W hI => (ih t94 v65 v88 a3 Al0 cl0 CR96p0 HR96p0 t118 ht119 hI))) ?_
                        rintro _ _ _ ⟨CR120p0, rfl, HR120p0, HLR120p0, rfl, rfl⟩
                        refine WL.rest 6 [] (L' := []) (by kernel_rfl) ?_
                        obtain rfl := Option.some.inj h
                        exact QP.returnedN [] [] _ (by kernel_rfl) (by kernel_rfl) (by kernel_rfl) (fun W hI => ⟨_, _, _, rfl, ⟨CR120p0, rfl, HR120p0, (HLR120p0.trans HLR96p0), rfl, rfl⟩, hI⟩)
                      · replace hc := (Bool.eq_false_iff.1 hc)
                        rw [if_neg hc] at h
                        have hc117 := hc
                        clear hc
                        refine WP.skip ?_
                        obtain rfl := Option.some.inj h
                        exact QP.returnedN [] [] _ (by kernel_rfl) (by kernel_rfl) (by kernel_rfl) (fun W hI => ⟨_, _, _, rfl, ⟨CR96p0, rfl, HR96p0, HLR96p0, rfl, rfl⟩, hI⟩)
              · replace hc := (Bool.eq_false_iff.1 hc)
                rw [if_neg hc] at h
                have hc93 := hc
                clear hc
                refine WP.skip ?_
                refine QP.next ?_
                refine WP.pick [0, 1, 3, 4, 18, 20, 24] ?_
                refine WP.seq ?_
                rw [Option.bind_eq_some_iff] at h
                obtain ⟨os122, h, hk123⟩ := h
                refine WP.cut (fun L' G' Γ' => ∃ s122 : Bool, s122 = os122 ∧ L' = [(0, .slice Al0 l0.length cl0), (1, .int .i64 a1), (3, .int .i64 a3), (4, .func (.func 59) #[] #[]), (18, .int .i64 v65), (20, .int .i64 s72), (24, .int .i64 v88), (199, .bool s122)] ∧ G = G' ∧ [] :: Cl0 :: Γ = Γ') ?_ ?_
                · clear hk123
                  refine WP.region ?_
                  refine WL.pure 0 4 [0, 1, 3, 4, 18, 20, 24, 195] (L' := [(0, .slice Al0 l0.length cl0), (1, .int .i64 a1), (3, .int .i64 a3), (4, .func (.func 59) #[] #[]), (18, .int .i64 v65), (20, .int .i64 s72), (24, .int .i64 v88), (195, .bool (decide (a1 < s72)))]) (by kernel_rfl) (by decide) ?_
                  refine WL.split 195 (b := decide (a1 < s72)) (by kernel_rfl) (fun hc => ?_) (fun hc => ?_)
                  · replace hc := of_decide_eq_true hc
                    rw [if_pos hc] at h
                    have hc124 := hc
                    clear hc
                    refine WL.rest 4 [0, 1, 3, 4, 18, 20, 24, 199] (L' := [(0, .slice Al0 l0.length cl0), (1, .int .i64 a1), (3, .int .i64 a3), (4, .func (.func 59) #[] #[]), (18, .int .i64 v65), (20, .int .i64 s72), (24, .int .i64 v88), (199, .bool (decide (s72 < v65)))]) (by kernel_rfl) ?_
                    refine QP.pick [0, 1, 3, 4, 18, 20, 24, 199] ?_
                    exact QP.meet ⟨_, Option.some.inj h, rfl, rfl, rfl⟩
                  · replace hc := of_decide_eq_false hc
                    rw [if_neg hc] at h
                    have hc124 := hc
                    clear hc
                    refine WL.rest 4 [0, 1, 3, 4, 18, 20, 24, 199] (L' := [(0, .slice Al0 l0.length cl0), (1, .int .i64 a1), (3, .int .i64 a3), (4, .func (.func 59) #[] #[]), (18, .int .i64 v65), (20, .int .i64 s72), (24, .int .i64 v88), (199, .bool false)]) (by kernel_rfl) ?_
                    refine QP.pick [0, 1, 3, 4, 18, 20, 24, 199] ?_
                    exact QP.meet ⟨_, Option.some.inj h, rfl, rfl, rfl⟩
                · rintro _ _ _ ⟨s122, rfl, rfl, rfl, rfl⟩
                  clear h
                  replace h := hk123
                  refine WP.cond (b := s122) (by kernel_rfl) (fun hc => ?_) (fun hc => ?_)
                  · replace hc := hc
                    rw [if_pos hc] at h
                    have hc125 := hc
                    clear hc
                    refine WP.region ?_
                    refine WL.pure 0 5 [0, 3, 4, 18, 24, 200, 201, 202, 203, 204] (L' := [(0, .slice Al0 l0.length cl0), (3, .int .i64 a3), (4, .func (.func 59) #[] #[]), (18, .int .i64 v65), (24, .int .i64 v88), (200, .slice Al0 l0.length cl0), (201, .int .i64 a1), (202, .int .i64 s72), (203, .int .i64 v65), (204, .func (.func 59) #[] #[])]) (by kernel_rfl) (by decide) ?_
                    refine WL.front (i := 1) rfl ?_
                    refine WL.front (i := 1) rfl ?_
                    rw [Option.bind_eq_some_iff] at h
                    obtain ⟨t126, ht127, h⟩ := h
                    refine WL.op (op := .call { callee := (.value (.func 84)), args := #[(.tmp 200), (.tmp 201), (.tmp 202), (.tmp 203), (.tmp 204)], argTypes := #[46, 3, 3, 3, 74] }) (ty := 0) (d := some 205) (g := none) (by kernel_rfl) (by kernel_rfl) (by kernel_rfl) (Does.call (f := 84) (args := [.slice Al0 l0.length cl0, .int .i64 a1, .int .i64 s72, .int .i64 v65, .func (.func 59) #[] #[]]) (by kernel_rfl) (fun W hI => (ih l0 a1 s72 v65 Al0 cl0 Cl0 Hl0 t126 ht127 hI))) ?_
                    rintro _ _ _ ⟨CR128p0, rfl, HR128p0, HLR128p0, rfl, rfl⟩
                    refine WL.reput 0 (v := .slice Al0 l0.length cl0) (v' := .slice Al0 t126.length cl0) (by kernel_rfl) (by rw [HLR128p0]) ?_
                    refine WL.rest 6 [0, 3, 4, 18, 24] (L' := [(0, .slice Al0 t126.length cl0), (3, .int .i64 a3), (4, .func (.func 59) #[] #[]), (18, .int .i64 v65), (24, .int .i64 v88)]) (by kernel_rfl) ?_
                    refine QP.next ?_
                    refine WP.pick [0, 3, 4, 18, 24] ?_
                    rw [Option.bind_eq_some_iff] at h
                    obtain ⟨os130, h, hk131⟩ := h
                    refine WP.cut (fun L' G' Γ' => ∃ s130 : Bool, s130 = os130 ∧ L' = [(0, .slice Al0 t126.length cl0), (3, .int .i64 a3), (4, .func (.func 59) #[] #[]), (18, .int .i64 v65), (24, .int .i64 v88), (213, .bool s130)] ∧ G = G' ∧ [] :: CR128p0 :: Γ = Γ') ?_ ?_
                    · clear hk131
                      refine WP.region ?_
                      refine WL.pure 0 4 [0, 3, 4, 18, 24, 209] (L' := [(0, .slice Al0 t126.length cl0), (3, .int .i64 a3), (4, .func (.func 59) #[] #[]), (18, .int .i64 v65), (24, .int .i64 v88), (209, .bool (decide (v65 < v88)))]) (by kernel_rfl) (by decide) ?_
                      refine WL.split 209 (b := decide (v65 < v88)) (by kernel_rfl) (fun hc => ?_) (fun hc => ?_)
                      · replace hc := of_decide_eq_true hc
                        rw [if_pos hc] at h
                        have hc132 := hc
                        clear hc
                        refine WL.rest 4 [0, 3, 4, 18, 24, 213] (L' := [(0, .slice Al0 t126.length cl0), (3, .int .i64 a3), (4, .func (.func 59) #[] #[]), (18, .int .i64 v65), (24, .int .i64 v88), (213, .bool (decide (v88 < a3)))]) (by kernel_rfl) ?_
                        refine QP.pick [0, 3, 4, 18, 24, 213] ?_
                        exact QP.meet ⟨_, Option.some.inj h, rfl, rfl, rfl⟩
                      · replace hc := of_decide_eq_false hc
                        rw [if_neg hc] at h
                        have hc132 := hc
                        clear hc
                        refine WL.rest 4 [0, 3, 4, 18, 24, 213] (L' := [(0, .slice Al0 t126.length cl0), (3, .int .i64 a3), (4, .func (.func 59) #[] #[]), (18, .int .i64 v65), (24, .int .i64 v88), (213, .bool false)]) (by kernel_rfl) ?_
                        refine QP.pick [0, 3, 4, 18, 24, 213] ?_
                        exact QP.meet ⟨_, Option.some.inj h, rfl, rfl, rfl⟩
                    · rintro _ _ _ ⟨s130, rfl, rfl, rfl, rfl⟩
                      clear h
                      replace h := hk131
                      refine WP.cond (b := s130) (by kernel_rfl) (fun hc => ?_) (fun hc => ?_)
                      · replace hc := hc
                        rw [if_pos hc] at h
                        have hc133 := hc
                        clear hc
                        refine WP.region ?_
                        refine WL.pure 0 5 [214, 215, 216, 217, 218] (L' := [(214, .slice Al0 t126.length cl0), (215, .int .i64 v65), (216, .int .i64 v88), (217, .int .i64 a3), (218, .func (.func 59) #[] #[])]) (by kernel_rfl) (by decide) ?_
                        refine WL.front (i := 1) rfl ?_
                        refine WL.front (i := 1) rfl ?_
                        rw [Option.bind_eq_some_iff] at h
                        obtain ⟨t134, ht135, h⟩ := h
                        refine WL.op (op := .call { callee := (.value (.func 84)), args := #[(.tmp 214), (.tmp 215), (.tmp 216), (.tmp 217), (.tmp 218)], argTypes := #[46, 3, 3, 3, 74] }) (ty := 0) (d := some 219) (g := none) (by kernel_rfl) (by kernel_rfl) (by kernel_rfl) (Does.call (f := 84) (args := [.slice Al0 t126.length cl0, .int .i64 v65, .int .i64 v88, .int .i64 a3, .func (.func 59) #[] #[]]) (by kernel_rfl) (fun W hI => (ih t126 v65 v88 a3 Al0 cl0 CR128p0 HR128p0 t134 ht135 hI))) ?_
                        rintro _ _ _ ⟨CR136p0, rfl, HR136p0, HLR136p0, rfl, rfl⟩
                        refine WL.rest 6 [] (L' := []) (by kernel_rfl) ?_
                        obtain rfl := Option.some.inj h
                        exact QP.returnedN [] [] _ (by kernel_rfl) (by kernel_rfl) (by kernel_rfl) (fun W hI => ⟨_, _, _, rfl, ⟨CR136p0, rfl, HR136p0, (HLR136p0.trans HLR128p0), rfl, rfl⟩, hI⟩)
                      · replace hc := (Bool.eq_false_iff.1 hc)
                        rw [if_neg hc] at h
                        have hc133 := hc
                        clear hc
                        refine WP.skip ?_
                        obtain rfl := Option.some.inj h
                        exact QP.returnedN [] [] _ (by kernel_rfl) (by kernel_rfl) (by kernel_rfl) (fun W hI => ⟨_, _, _, rfl, ⟨CR128p0, rfl, HR128p0, HLR128p0, rfl, rfl⟩, hI⟩)
                  · replace hc := (Bool.eq_false_iff.1 hc)
                    rw [if_neg hc] at h
                    have hc125 := hc
                    clear hc
                    refine WP.skip ?_
                    refine QP.next ?_
                    refine WP.pick [0, 3, 4, 18, 24] ?_
                    rw [Option.bind_eq_some_iff] at h
                    obtain ⟨os138, h, hk139⟩ := h
                    refine WP.cut (fun L' G' Γ' => ∃ s138 : Bool, s138 = os138 ∧ L' = [(0, .slice Al0 l0.length cl0), (3, .int .i64 a3), (4, .func (.func 59) #[] #[]), (18, .int .i64 v65), (24, .int .i64 v88), (213, .bool s138)] ∧ G = G' ∧ [] :: Cl0 :: Γ = Γ') ?_ ?_
                    · clear hk139
                      refine WP.region ?_
                      refine WL.pure 0 4 [0, 3, 4, 18, 24, 209] (L' := [(0, .slice Al0 l0.length cl0), (3, .int .i64 a3), (4, .func (.func 59) #[] #[]), (18, .int .i64 v65), (24, .int .i64 v88), (209, .bool (decide (v65 < v88)))]) (by kernel_rfl) (by decide) ?_
                      refine WL.split 209 (b := decide (v65 < v88)) (by kernel_rfl) (fun hc => ?_) (fun hc => ?_)
                      · replace hc := of_decide_eq_true hc
                        rw [if_pos hc] at h
                        have hc140 := hc
                        clear hc
                        refine WL.rest 4 [0, 3, 4, 18, 24, 213] (L' := [(0, .slice Al0 l0.length cl0), (3, .int .i64 a3), (4, .func (.func 59) #[] #[]), (18, .int .i64 v65), (24, .int .i64 v88), (213, .bool (decide (v88 < a3)))]) (by kernel_rfl) ?_
                        refine QP.pick [0, 3, 4, 18, 24, 213] ?_
                        exact QP.meet ⟨_, Option.some.inj h, rfl, rfl, rfl⟩
                      · replace hc := of_decide_eq_false hc
                        rw [if_neg hc] at h
                        have hc140 := hc
                        clear hc
                        refine WL.rest 4 [0, 3, 4, 18, 24, 213] (L' := [(0, .slice Al0 l0.length cl0), (3, .int .i64 a3), (4, .func (.func 59) #[] #[]), (18, .int .i64 v65), (24, .int .i64 v88), (213, .bool false)]) (by kernel_rfl) ?_
                        refine QP.pick [0, 3, 4, 18, 24, 213] ?_
                        exact QP.meet ⟨_, Option.some.inj h, rfl, rfl, rfl⟩
                    · rintro _ _ _ ⟨s138, rfl, rfl, rfl, rfl⟩
                      clear h
                      replace h := hk139
                      refine WP.cond (b := s138) (by kernel_rfl) (fun hc => ?_) (fun hc => ?_)
                      · replace hc := hc
                        rw [if_pos hc] at h
                        have hc141 := hc
                        clear hc
                        refine WP.region ?_
                        refine WL.pure 0 5 [214, 215, 216, 217, 218] (L' := [(214, .slice Al0 l0.length cl0), (215, .int .i64 v65), (216, .int .i64 v88), (217, .int .i64 a3), (218, .func (.func 59) #[] #[])]) (by kernel_rfl) (by decide) ?_
                        refine WL.front (i := 1) rfl ?_
                        refine WL.front (i := 1) rfl ?_
                        rw [Option.bind_eq_some_iff] at h
                        obtain ⟨t142, ht143, h⟩ := h
                        refine WL.op (op := .call { callee := (.value (.func 84)), args := #[(.tmp 214), (.tmp 215), (.tmp 216), (.tmp 217), (.tmp 218)], argTypes := #[46, 3, 3, 3, 74] }) (ty := 0) (d := some 219) (g := none) (by kernel_rfl) (by kernel_rfl) (by kernel_rfl) (Does.call (f := 84) (args := [.slice Al0 l0.length cl0, .int .i64 v65, .int .i64 v88, .int .i64 a3, .func (.func 59) #[] #[]]) (by kernel_rfl) (fun W hI => (ih l0 v65 v88 a3 Al0 cl0 Cl0 Hl0 t142 ht143 hI))) ?_
                        rintro _ _ _ ⟨CR144p0, rfl, HR144p0, HLR144p0, rfl, rfl⟩
                        refine WL.rest 6 [] (L' := []) (by kernel_rfl) ?_
                        obtain rfl := Option.some.inj h
                        exact QP.returnedN [] [] _ (by kernel_rfl) (by kernel_rfl) (by kernel_rfl) (fun W hI => ⟨_, _, _, rfl, ⟨CR144p0, rfl, HR144p0, HLR144p0, rfl, rfl⟩, hI⟩)
                      · replace hc := (Bool.eq_false_iff.1 hc)
                        rw [if_neg hc] at h
                        have hc141 := hc
                        clear hc
                        refine WP.skip ?_
                        obtain rfl := Option.some.inj h
                        exact QP.returnedN [] [] _ (by kernel_rfl) (by kernel_rfl) (by kernel_rfl) (fun W hI => ⟨_, _, _, rfl, ⟨Cl0, rfl, Hl0, rfl, rfl, rfl⟩, hI⟩)
        · replace hc := of_decide_eq_false hc
          rw [if_neg hc] at h
          have hc67 := hc
          clear hc
          refine WP.seqP [0, 1, 2, 3, 4, 18, 19, 20] (L' := [(0, .slice Al0 l0.length cl0), (1, .int .i64 a1), (2, .int .i64 a2), (3, .int .i64 a3), (4, .func (.func 59) #[] #[]), (18, .int .i64 v65), (19, .int .i64 (IntKind.i64.wrap (v65 + a2))), (20, .int .i64 a1)]) (by kernel_rfl) ?_
          refine WP.regionP [0, 1, 2, 3, 4, 18, 19, 20, 21] (L' := [(0, .slice Al0 l0.length cl0), (1, .int .i64 a1), (2, .int .i64 a2), (3, .int .i64 a3), (4, .func (.func 59) #[] #[]), (18, .int .i64 v65), (19, .int .i64 (IntKind.i64.wrap (v65 + a2))), (20, .int .i64 a1), (21, .int .i64 a2)]) (by kernel_rfl) ?_
          refine QP.next ?_
          refine WP.pick [0, 1, 2, 3, 4, 18, 19, 20, 21] ?_
          refine WP.seqP [0, 1, 2, 3, 4, 18, 19, 20, 21, 22] (L' := [(0, .slice Al0 l0.length cl0), (1, .int .i64 a1), (2, .int .i64 a2), (3, .int .i64 a3), (4, .func (.func 59) #[] #[]), (18, .int .i64 v65), (19, .int .i64 (IntKind.i64.wrap (v65 + a2))), (20, .int .i64 a1), (21, .int .i64 a2), (22, .int .i64 (IntKind.i64.wrap ((IntKind.i64.wrap (v65 + a2)) - 1)))]) (by kernel_rfl) ?_
          obtain ⟨v146, hv147, h⟩ := Option.bind_eq_some_iff.1 h
          replace hv147 := Option.some.inj hv147
          refine WP.reput 22 (v := .int .i64 (IntKind.i64.wrap ((IntKind.i64.wrap (v65 + a2)) - 1))) (v' := .int .i64 v146) (by kernel_rfl) (by subst hv147; rfl) ?_
          refine WP.pick [0, 1, 2, 3, 4, 18, 19, 20, 21, 22] ?_
          rw [Option.bind_eq_some_iff] at h
          obtain ⟨os148, h, hk149⟩ := h
          refine WP.cut (fun L' G' Γ' => ∃ s148 : Int, s148 = os148 ∧ L' = [(0, .slice Al0 l0.length cl0), (1, .int .i64 a1), (2, .int .i64 a2), (3, .int .i64 a3), (4, .func (.func 59) #[] #[]), (18, .int .i64 v65), (19, .int .i64 (IntKind.i64.wrap (v65 + a2))), (20, .int .i64 s148)] ∧ G = G' ∧ [] :: Cl0 :: Γ = Γ') ?_ ?_
          · clear hk149
            refine WP.block ?_
            refine WP.pick [0, 1, 2, 3, 4, 18, 19, 20, 21, 22] ?_
            refine WP.loopF (fun kn152 L' G' Γ' => ∃ (y150 : Int), ∃ (y151 : Int), slices_symMergeCmpFunc_l5 l0 v146 kn152 y150 y151 = some os148 ∧ L' = [(0, .slice Al0 l0.length cl0), (1, .int .i64 a1), (2, .int .i64 a2), (3, .int .i64 a3), (4, .func (.func 59) #[] #[]), (18, .int .i64 v65), (19, .int .i64 (IntKind.i64.wrap (v65 + a2))), (20, .int .i64 y150), (21, .int .i64 y151), (22, .int .i64 v146)] ∧ G = G' ∧ [] :: Cl0 :: Γ = Γ') ?_ kf ⟨a1, a2, h, rfl, rfl, rfl⟩
            clear h
            rintro kn153 _ _ _ ⟨y150, y151, h, rfl, rfl, rfl⟩
            cases kn153 with
            | zero => exact absurd h (by simp [slices_symMergeCmpFunc_l5])
            | succ kn153 =>
              simp only [slices_symMergeCmpFunc_l5] at h
              refine WP.seq ?_
              refine WP.seqP [0, 1, 2, 3, 4, 18, 19, 20, 21, 22, 151] (L' := [(0, .slice Al0 l0.length cl0), (1, .int .i64 a1), (2, .int .i64 a2), (3, .int .i64 a3), (4, .func (.func 59) #[] #[]), (18, .int .i64 v65), (19, .int .i64 (IntKind.i64.wrap (v65 + a2))), (20, .int .i64 y150), (21, .int .i64 y151), (22, .int .i64 v146), (151, .bool (decide (y150 < y151)))]) (by kernel_rfl) ?_
              refine WP.cond (b := decide (y150 < y151)) (by kernel_rfl) (fun hc => ?_) (fun hc => ?_)
              · replace hc := of_decide_eq_true hc
                rw [if_pos hc] at h
                have hc154 := hc
                clear hc
                refine WP.skip ?_
                refine QP.next ?_
                refine WP.pick [0, 1, 2, 3, 4, 18, 19, 20, 21, 22] ?_
                refine WP.block ?_
                refine WP.seqP [0, 1, 2, 3, 4, 18, 19, 20, 21, 22, 23] (L' := [(0, .slice Al0 l0.length cl0), (1, .int .i64 a1), (2, .int .i64 a2), (3, .int .i64 a3), (4, .func (.func 59) #[] #[]), (18, .int .i64 v65), (19, .int .i64 (IntKind.i64.wrap (v65 + a2))), (20, .int .i64 y150), (21, .int .i64 y151), (22, .int .i64 v146), (23, .int .i64 (IntKind.i64.wrap (shrK .u64 (IntKind.u64.wrap (IntKind.i64.wrap (y150 + y151))) 1)))]) (by kernel_rfl) ?_
                obtain ⟨v155, hv156, h⟩ := Option.bind_eq_some_iff.1 h
                replace hv156 := Option.some.inj hv156
                refine WP.reput 23 (v := .int .i64 (IntKind.i64.wrap (shrK .u64 (IntKind.u64.wrap (IntKind.i64.wrap (y150 + y151))) 1))) (v' := .int .i64 v155) (by kernel_rfl) (by subst hv156; rfl) ?_
                refine WP.pick [0, 1, 2, 3, 4, 18, 19, 20, 21, 22, 23] ?_
                refine WP.seq ?_
                refine WP.any (N := 14) (S := [⟨some 158, [4], []⟩, ⟨some 159, [0], []⟩, ⟨some 160, [22], []⟩, ⟨some 161, [23], []⟩, ⟨some 162, [160, 161], [2, 3]⟩, ⟨some 163, [159, 162], [1, 4]⟩, ⟨some 164, [163], [5]⟩, ⟨some 165, [0], []⟩, ⟨some 166, [23], []⟩, ⟨some 167, [165, 166], [7, 8]⟩, ⟨some 168, [167], [9]⟩, ⟨some 169, [158, 164, 168], [0, 6, 10]⟩, ⟨some 170, [169], [11]⟩, ⟨some 171, [170], [12]⟩]) (kw := 14) (G0 := G) (Γ0 := [] :: Cl0 :: Γ) mo (by kernel_rfl) (fun hS => ?_)
                refine WA.pure [0, 1, 2, 3, 4, 7, 8] [0, 1, 2, 3, 4, 18, 19, 20, 21, 22, 23, 158, 159, 162, 165, 166] (m := 7) (b' := 415) (L' := [(0, .slice Al0 l0.length cl0), (1, .int .i64 a1), (2, .int .i64 a2), (3, .int .i64 a3), (4, .func (.func 59) #[] #[]), (18, .int .i64 v65), (19, .int .i64 (IntKind.i64.wrap (v65 + a2))), (20, .int .i64 y150), (21, .int .i64 y151), (22, .int .i64 v146), (23, .int .i64 v155), (158, .func (.func 59) #[] #[]), (159, .slice Al0 l0.length cl0), (162, .int .i64 (IntKind.i64.wrap (v146 - v155))), (165, .slice Al0 l0.length cl0), (166, .int .i64 v155)]) (by kernel_rfl) (NoPanic.then (NoPanic.block (NoPanic.then (NoPanic.block (NoPanic.then (NoPanic.body)))))) Under.refl hS (by kernel_rfl) ?_
                by_cases hb157 : 0 ≤ (IntKind.i64.wrap (v146 - v155)) ∧ (IntKind.i64.wrap (v146 - v155)) < (l0.length : Int)
                case neg => rw [if_neg hb157] at h; cases h
                rw [if_pos hb157] at h
                refine WA.tellD [] (i := 5) (m := 6) (b' := 447) (by kernel_rfl) (NoPanic.then (NoPanic.block (NoPanic.then (NoPanic.block (NoPanic.then (NoPanic.body)))))) Under.refl hS (by kernel_rfl) (op := .indexAddr 46 (.tmp 159) (.tmp 162)) (ty := 0) (d := some 163) (g := none) (by kernel_rfl) (by kernel_rfl) (by kernel_rfl) (Tells.indexAddr (A := Al0) (n := l0.length) (c := cl0) (k := .i64) (j := (IntKind.i64.wrap (v146 - v155))) (by kernel_rfl) (by kernel_rfl) (Hl0.isSome hb157.1 hb157.2) hb157.1 hb157.2 sl46) ?_
                refine WA.tellDE [] (i := 6) (m := 5) (b' := 511) (by kernel_rfl) (NoPanic.then (NoPanic.block (NoPanic.then (NoPanic.block (NoPanic.then (NoPanic.body)))))) Under.refl hS (by kernel_rfl) (op := .load 27 (.tmp 163)) (ty := 27) (d := some 164) (g := none) (by kernel_rfl) (by kernel_rfl) (by kernel_rfl) (Hl0.load (i := 1) rfl (agg := true) hb157.1 hb157.2 z27 ag27 (fun h => by cases h) (by kernel_rfl)) ?_
                rintro _ rfl
                by_cases hb158 : 0 ≤ v155 ∧ v155 < (l0.length : Int)
                case neg => rw [if_neg hb158] at h; cases h
                rw [if_pos hb158] at h
                refine WA.tellD [] (i := 9) (m := 4) (b' := 1023) (by kernel_rfl) (NoPanic.then (NoPanic.block (NoPanic.then (NoPanic.block (NoPanic.then (NoPanic.body)))))) Under.refl hS (by kernel_rfl) (op := .indexAddr 46 (.tmp 165) (.tmp 166)) (ty := 0) (d := some 167) (g := none) (by kernel_rfl) (by kernel_rfl) (by kernel_rfl) (Tells.indexAddr (A := Al0) (n := l0.length) (c := cl0) (k := .i64) (j := v155) (by kernel_rfl) (by kernel_rfl) (Hl0.isSome hb158.1 hb158.2) hb158.1 hb158.2 sl46) ?_
                refine WA.tellDE [] (i := 10) (m := 3) (b' := 2047) (by kernel_rfl) (NoPanic.then (NoPanic.block (NoPanic.then (NoPanic.block (NoPanic.then (NoPanic.body)))))) Under.refl hS (by kernel_rfl) (op := .load 27 (.tmp 167)) (ty := 27) (d := some 168) (g := none) (by kernel_rfl) (by kernel_rfl) (by kernel_rfl) (Hl0.load (i := 1) rfl (agg := true) hb158.1 hb158.2 z27 ag27 (fun h => by cases h) (by kernel_rfl)) ?_
                rintro _ rfl
                rw [Option.bind_eq_some_iff] at h
                obtain ⟨t159, ht160, h⟩ := h
                refine WA.op (i := 11) (m := 2) (b' := 4095) (by kernel_rfl) hS (by kernel_rfl) (op := .call { callee := (.value (.tmp 158)), args := #[(.tmp 164), (.tmp 168)], argTypes := #[27, 27] }) (ty := 3) (d := some 169) (g := none) (by kernel_rfl) (by kernel_rfl) (by kernel_rfl) (Does.call (f := 59) (args := [.agg #[.int .i64 ((l0.getD (IntKind.i64.wrap (v146 - v155)).toNat z27).f0), .int .i64 ((l0.getD (IntKind.i64.wrap (v146 - v155)).toNat z27).f1), .int .i64 ((l0.getD (IntKind.i64.wrap (v146 - v155)).toNat z27).f2), .int .i64 ((l0.getD (IntKind.i64.wrap (v146 - v155)).toNat z27).f3), .string ((l0.getD (IntKind.i64.wrap (v146 - v155)).toNat z27).f4)], .agg #[.int .i64 ((l0.getD v155.toNat z27).f0), .int .i64 ((l0.getD v155.toNat z27).f1), .int .i64 ((l0.getD v155.toNat z27).f2), .int .i64 ((l0.getD v155.toNat z27).f3), .string ((l0.getD v155.toNat z27).f4)]]) (by kernel_rfl) (fun W hI => (record_order_calls (l0.getD (IntKind.i64.wrap (v146 - v155)).toNat z27) (l0.getD v155.toNat z27)  t159 ht160 hI))) ?_
                rintro _ _ _ ⟨rfl, rfl, rfl⟩
                refine ⟨_, _, Under.refl, Under.refl, ?_⟩
                refine WA.pure [12, 13] [0, 1, 2, 3, 4, 18, 19, 20, 21, 22, 23, 171] (m := 0) (b' := 16383) (L' := [(0, .slice Al0 l0.length cl0), (1, .int .i64 a1), (2, .int .i64 a2), (3, .int .i64 a3), (4, .func (.func 59) #[] #[]), (18, .int .i64 v65), (19, .int .i64 (IntKind.i64.wrap (v65 + a2))), (20, .int .i64 y150), (21, .int .i64 y151), (22, .int .i64 v146), (23, .int .i64 v155), (171, .bool (!(decide (t159 < 0))))]) (by kernel_rfl) (NoPanic.then (NoPanic.block (NoPanic.then (NoPanic.block (NoPanic.then (NoPanic.body)))))) Under.refl hS (by kernel_rfl) ?_
                refine WA.done hS (by kernel_rfl) ?_
                refine QP.pick [0, 1, 2, 3, 4, 18, 19, 20, 21, 22, 23, 171] ?_
                refine QP.next ?_
                refine WP.cond (b := (!(decide (t159 < 0)))) (by kernel_rfl) (fun hc => ?_) (fun hc => ?_)
                · replace hc := hc
                  rw [if_pos hc] at h
                  have hc163 := hc
                  clear hc
                  refine WP.regionP [0, 1, 2, 3, 4, 18, 19, 20, 21, 22] (L' := [(0, .slice Al0 l0.length cl0), (1, .int .i64 a1), (2, .int .i64 a2), (3, .int .i64 a3), (4, .func (.func 59) #[] #[]), (18, .int .i64 v65), (19, .int .i64 (IntKind.i64.wrap (v65 + a2))), (20, .int .i64 (IntKind.i64.wrap (v155 + 1))), (21, .int .i64 y151), (22, .int .i64 v146)]) (by kernel_rfl) ?_
                  refine QP.blockN ?_
                  refine QP.front (i := 1) rfl ?_
                  refine QP.front (i := 1) rfl ?_
                  refine QP.pick [0, 1, 2, 3, 4, 18, 19, 20, 21, 22] ?_
                  exact QP.meet ⟨kn153, Nat.lt_succ_self _, (IntKind.i64.wrap (v155 + 1)), y151, h, rfl, rfl, rfl⟩
                · replace hc := (Bool.eq_false_iff.1 hc)
                  rw [if_neg hc] at h
                  have hc163 := hc
                  clear hc
                  refine WP.regionP [0, 1, 2, 3, 4, 18, 19, 20, 21, 22] (L' := [(0, .slice Al0 l0.length cl0), (1, .int .i64 a1), (2, .int .i64 a2), (3, .int .i64 a3), (4, .func (.func 59) #[] #[]), (18, .int .i64 v65), (19, .int .i64 (IntKind.i64.wrap (v65 + a2))), (20, .int .i64 y150), (21, .int .i64 v155), (22, .int .i64 v146)]) (by kernel_rfl) ?_
                  refine QP.blockN ?_
                  refine QP.front (i := 1) rfl ?_
                  refine QP.front (i := 1) rfl ?_
                  refine QP.pick [0, 1, 2, 3, 4, 18, 19, 20, 21, 22] ?_
                  exact QP.meet ⟨kn153, Nat.lt_succ_self _, y150, v155, h, rfl, rfl, rfl⟩
              · replace hc := of_decide_eq_false hc
                rw [if_neg hc] at h
                have hc154 := hc
                clear hc
                refine WP.exit ?_
                refine QP.thenE ?_
                refine QP.thenE ?_
                refine QP.blockE ?_
                refine QP.pick [0, 1, 2, 3, 4, 18, 19, 20] ?_
                exact QP.meet ⟨_, Option.some.inj h, rfl, rfl, rfl⟩
          · rintro _ _ _ ⟨s148, rfl, rfl, rfl, rfl⟩
            clear h
            replace h := hk149
            refine WP.seqP [0, 1, 2, 3, 4, 18, 20, 24] (L' := [(0, .slice Al0 l0.length cl0), (1, .int .i64 a1), (2, .int .i64 a2), (3, .int .i64 a3), (4, .func (.func 59) #[] #[]), (18, .int .i64 v65), (20, .int .i64 s148), (24, .int .i64 (IntKind.i64.wrap ((IntKind.i64.wrap (v65 + a2)) - s148)))]) (by kernel_rfl) ?_
            obtain ⟨v164, hv165, h⟩ := Option.bind_eq_some_iff.1 h
            replace hv165 := Option.some.inj hv165
            refine WP.reput 24 (v := .int .i64 (IntKind.i64.wrap ((IntKind.i64.wrap (v65 + a2)) - s148))) (v' := .int .i64 v164) (by kernel_rfl) (by subst hv165; rfl) ?_
            refine WP.pick [0, 1, 2, 3, 4, 18, 20, 24] ?_
            refine WP.seq ?_
            rw [Option.bind_eq_some_iff] at h
            obtain ⟨os166, h, hk167⟩ := h
            refine WP.cut (fun L' G' Γ' => ∃ s166 : Bool, s166 = os166 ∧ L' = [(0, .slice Al0 l0.length cl0), (1, .int .i64 a1), (2, .int .i64 a2), (3, .int .i64 a3), (4, .func (.func 59) #[] #[]), (18, .int .i64 v65), (20, .int .i64 s148), (24, .int .i64 v164), (185, .bool s166)] ∧ G = G' ∧ [] :: Cl0 :: Γ = Γ') ?_ ?_
            · clear hk167
              refine WP.region ?_
              refine WL.pure 0 4 [0, 1, 2, 3, 4, 18, 20, 24, 181] (L' := [(0, .slice Al0 l0.length cl0), (1, .int .i64 a1), (2, .int .i64 a2), (3, .int .i64 a3), (4, .func (.func 59) #[] #[]), (18, .int .i64 v65), (20, .int .i64 s148), (24, .int .i64 v164), (181, .bool (decide (s148 < a2)))]) (by kernel_rfl) (by decide) ?_
              refine WL.split 181 (b := decide (s148 < a2)) (by kernel_rfl) (fun hc => ?_) (fun hc => ?_)
              · replace hc := of_decide_eq_true hc
                rw [if_pos hc] at h
                have hc168 := hc
                clear hc
                refine WL.rest 4 [0, 1, 2, 3, 4, 18, 20, 24, 185] (L' := [(0, .slice Al0 l0.length cl0), (1, .int .i64 a1), (2, .int .i64 a2), (3, .int .i64 a3), (4, .func (.func 59) #[] #[]), (18, .int .i64 v65), (20, .int .i64 s148), (24, .int .i64 v164), (185, .bool (decide (a2 < v164)))]) (by kernel_rfl) ?_
                refine QP.pick [0, 1, 2, 3, 4, 18, 20, 24, 185] ?_
                exact QP.meet ⟨_, Option.some.inj h, rfl, rfl, rfl⟩
              · replace hc := of_decide_eq_false hc
                rw [if_neg hc] at h
                have hc168 := hc
                clear hc
                refine WL.rest 4 [0, 1, 2, 3, 4, 18, 20, 24, 185] (L' := [(0, .slice Al0 l0.length cl0), (1, .int .i64 a1), (2, .int .i64 a2), (3, .int .i64 a3), (4, .func (.func 59) #[] #[]), (18, .int .i64 v65), (20, .int .i64 s148), (24, .int .i64 v164), (185, .bool false)]) (by kernel_rfl) ?_
                refine QP.pick [0, 1, 2, 3, 4, 18, 20, 24, 185] ?_
                exact QP.meet ⟨_, Option.some.inj h, rfl, rfl, rfl⟩
            · rintro _ _ _ ⟨s166, rfl, rfl, rfl, rfl⟩
              clear h
              replace h := hk167
              refine WP.cond (b := s166) (by kernel_rfl) (fun hc => ?_) (fun hc => ?_)
              · replace hc := hc
                rw [if_pos hc] at h
                have hc169 := hc
                clear hc
                refine WP.region ?_
                refine WL.pure 0 5 [0, 1, 3, 4, 18, 20, 24, 186, 187, 188, 189, 190] (L' := [(0, .slice Al0 l0.length cl0), (1, .int .i64 a1), (3, .int .i64 a3), (4, .func (.func 59) #[] #[]), (18, .int .i64 v65), (20, .int .i64 s148), (24, .int .i64 v164), (186, .slice Al0 l0.length cl0), (187, .int .i64 s148), (188, .int .i64 a2), (189, .int .i64 v164), (190, .func (.func 59) #[] #[])]) (by kernel_rfl) (by decide) ?_
                refine WL.front (i := 1) rfl ?_
                refine WL.front (i := 1) rfl ?_
                rw [Option.bind_eq_some_iff] at h
                obtain ⟨t170, ht171, h⟩ := h
                refine WL.op (op := .call { callee := (.value (.func 90)), args := #[(.tmp 186), (.tmp 187), (.tmp 188), (.tmp 189), (.tmp 190)], argTypes := #[46, 3, 3, 3, 74] }) (ty := 0) (d := some 191) (g := none) (by kernel_rfl) (by kernel_rfl) (by kernel_rfl) (Does.call (f := 90) (args := [.slice Al0 l0.length cl0, .int .i64 s148, .int .i64 a2, .int .i64 v164, .func (.func 59) #[] #[]]) (by kernel_rfl) (fun W hI => (slices_rotateCmpFunc_calls kf l0 s148 a2 v164 Al0 cl0 Cl0 Hl0 t170 ht171 hI))) ?_
                rintro _ _ _ ⟨CR172p0, rfl, HR172p0, HLR172p0, rfl, rfl⟩
                refine WL.reput 0 (v := .slice Al0 l0.length cl0) (v' := .slice Al0 t170.length cl0) (by kernel_rfl) (by rw [HLR172p0]) ?_
                refine WL.rest 6 [0, 1, 3, 4, 18, 20, 24] (L' := [(0, .slice Al0 t170.length cl0), (1, .int .i64 a1), (3, .int .i64 a3), (4, .func (.func 59) #[] #[]), (18, .int .i64 v65), (20, .int .i64 s148), (24, .int .i64 v164)]) (by kernel_rfl) ?_
                refine QP.next ?_
                refine WP.pick [0, 1, 3, 4, 18, 20, 24] ?_
                refine WP.seq ?_
                rw [Option.bind_eq_some_iff] at h
                obtain ⟨os174, h, hk175⟩ := h
                refine WP.cut (fun L' G' Γ' => ∃ s174 : Bool, s174 = os174 ∧ L' = [(0, .slice Al0 t170.length cl0), (1, .int .i64 a1), (3, .int .i64 a3), (4, .func (.func 59) #[] #[]), (18, .int .i64 v65), (20, .int .i64 s148), (24, .int .i64 v164), (199, .bool s174)] ∧ G = G' ∧ [] :: CR172p0 :: Γ = Γ') ?_ ?_
                · clear hk175
                  refine WP.region ?_
                  refine WL.pure 0 4 [0, 1, 3, 4, 18, 20, 24, 195] (L' := [(0, .slice Al0 t170.length cl0), (1, .int .i64 a1), (3, .int .i64 a3), (4, .func (.func 59) #[] #[]), (18, .int .i64 v65), (20, .int .i64 s148), (24, .int .i64 v164), (195, .bool (decide (a1 < s148)))]) (by kernel_rfl) (by decide) ?_
                  refine WL.split 195 (b := decide (a1 < s148)) (by kernel_rfl) (fun hc => ?_) (fun hc => ?_)
                  · replace hc := of_decide_eq_true hc
                    rw [if_pos hc] at h
                    have hc176 := hc
                    clear hc
                    refine WL.rest 4 [0, 1, 3, 4, 18, 20, 24, 199] (L' := [(0, .slice Al0 t170.length cl0), (1, .int .i64 a1), (3, .int .i64 a3), (4, .func (.func 59) #[] #[]), (18, .int .i64 v65), (20, .int .i64 s148), (24, .int .i64 v164), (199, .bool (decide (s148 < v65)))]) (by kernel_rfl) ?_
                    refine QP.pick [0, 1, 3, 4, 18, 20, 24, 199] ?_
                    exact QP.meet ⟨_, Option.some.inj h, rfl, rfl, rfl⟩
                  · replace hc := of_decide_eq_false hc
                    rw [if_neg hc] at h
                    have hc176 := hc
                    clear hc
                    refine WL.rest 4 [0, 1, 3, 4, 18, 20, 24, 199] (L' := [(0, .slice Al0 t170.length cl0), (1, .int .i64 a1), (3, .int .i64 a3), (4, .func (.func 59) #[] #[]), (18, .int .i64 v65), (20, .int .i64 s148), (24, .int .i64 v164), (199, .bool false)]) (by kernel_rfl) ?_
                    refine QP.pick [0, 1, 3, 4, 18, 20, 24, 199] ?_
                    exact QP.meet ⟨_, Option.some.inj h, rfl, rfl, rfl⟩
                · rintro _ _ _ ⟨s174, rfl, rfl, rfl, rfl⟩
                  clear h
                  replace h := hk175
                  refine WP.cond (b := s174) (by kernel_rfl) (fun hc => ?_) (fun hc => ?_)
                  · replace hc := hc
                    rw [if_pos hc] at h
                    have hc177 := hc
                    clear hc
                    refine WP.region ?_
                    refine WL.pure 0 5 [0, 3, 4, 18, 24, 200, 201, 202, 203, 204] (L' := [(0, .slice Al0 t170.length cl0), (3, .int .i64 a3), (4, .func (.func 59) #[] #[]), (18, .int .i64 v65), (24, .int .i64 v164), (200, .slice Al0 t170.length cl0), (201, .int .i64 a1), (202, .int .i64 s148), (203, .int .i64 v65), (204, .func (.func 59) #[] #[])]) (by kernel_rfl) (by decide) ?_
                    refine WL.front (i := 1) rfl ?_
                    refine WL.front (i := 1) rfl ?_
                    rw [Option.bind_eq_some_iff] at h
                    obtain ⟨t178, ht179, h⟩ := h
                    refine WL.op (op := .call { callee := (.value (.func 84)), args := #[(.tmp 200), (.tmp 201), (.tmp 202), (.tmp 203), (.tmp 204)], argTypes := #[46, 3, 3, 3, 74] }) (ty := 0) (d := some 205) (g := none) (by kernel_rfl) (by kernel_rfl) (by kernel_rfl) (Does.call (f := 84) (args := [.slice Al0 t170.length cl0, .int .i64 a1, .int .i64 s148, .int .i64 v65, .func (.func 59) #[] #[]]) (by kernel_rfl) (fun W hI => (ih t170 a1 s148 v65 Al0 cl0 CR172p0 HR172p0 t178 ht179 hI))) ?_
                    rintro _ _ _ ⟨CR180p0, rfl, HR180p0, HLR180p0, rfl, rfl⟩
                    refine WL.reput 0 (v := .slice Al0 t170.length cl0) (v' := .slice Al0 t178.length cl0) (by kernel_rfl) (by rw [HLR180p0]) ?_
                    refine WL.rest 6 [0, 3, 4, 18, 24] (L' := [(0, .slice Al0 t178.length cl0), (3, .int .i64 a3), (4, .func (.func 59) #[] #[]), (18, .int .i64 v65), (24, .int .i64 v164)]) (by kernel_rfl) ?_
                    refine QP.next ?_
                    refine WP.pick [0, 3, 4, 18, 24] ?_
                    rw [Option.bind_eq_some_iff] at h
                    obtain ⟨os182, h, hk183⟩ := h
                    refine WP.cut (fun L' G' Γ' => ∃ s182 : Bool, s182 = os182 ∧ L' = [(0, .slice Al0 t178.length cl0), (3, .int .i64 a3), (4, .func (.func 59) #[] #[]), (18, .int .i64 v65), (24, .int .i64 v164), (213, .bool s182)] ∧ G = G' ∧ [] :: CR180p0 :: Γ = Γ') ?_ ?_
                    · clear hk183
                      refine WP.region ?_
                      refine WL.pure 0 4 [0, 3, 4, 18, 24, 209] (L' := [(0, .slice Al0 t178.length cl0), (3, .int .i64 a3), (4, .func (.func 59) #[] #[]), (18, .int .i64 v65), (24, .int .i64 v164), (209, .bool (decide (v65 < v164)))]) (by kernel_rfl) (by decide) ?_
                      refine WL.split 209 (b := decide (v65 < v164)) (by kernel_rfl) (fun hc => ?_) (fun hc => ?_)
                      · replace hc := of_decide_eq_true hc
                        rw [if_pos hc] at h
                        have hc184 := hc
                        clear hc
                        refine WL.rest 4 [0, 3, 4, 18, 24, 213] (L' := [(0, .slice Al0 t178.length cl0), (3, .int .i64 a3), (4, .func (.func 59) #[] #[]), (18, .int .i64 v65), (24, .int .i64 v164), (213, .bool (decide (v164 < a3)))]) (by kernel_rfl) ?_
                        refine QP.pick [0, 3, 4, 18, 24, 213] ?_
                        exact QP.meet ⟨_, Option.some.inj h, rfl, rfl, rfl⟩
                      · replace hc := of_decide_eq_false hc
                        rw [if_neg hc] at h
                        have hc184 := hc
                        clear hc
                        refine WL.rest 4 [0, 3, 4, 18, 24, 213] (L' := [(0, .slice Al0 t178.length cl0), (3, .int .i64 a3), (4, .func (.func 59) #[] #[]), (18, .int .i64 v65), (24, .int .i64 v164), (213, .bool false)]) (by kernel_rfl) ?_
                        refine QP.pick [0, 3, 4, 18, 24, 213] ?_
                        exact QP.meet ⟨_, Option.some.inj h, rfl, rfl, rfl⟩
                    · rintro _ _ _ ⟨s182, rfl, rfl, rfl, rfl⟩
                      clear h
                      replace h := hk183
                      refine WP.cond (b := s182) (by kernel_rfl) (fun hc => ?_) (fun hc => ?_)
                      · replace hc := hc
                        rw [if_pos hc] at h
                        have hc185 := hc
                        clear hc
                        refine WP.region ?_
                        refine WL.pure 0 5 [214, 215, 216, 217, 218] (L' := [(214, .slice Al0 t178.length cl0), (215, .int .i64 v65), (216, .int .i64 v164), (217, .int .i64 a3), (218, .func (.func 59) #[] #[])]) (by kernel_rfl) (by decide) ?_
                        refine WL.front (i := 1) rfl ?_
                        refine WL.front (i := 1) rfl ?_
                        rw [Option.bind_eq_some_iff] at h
                        obtain ⟨t186, ht187, h⟩ := h
                        refine WL.op (op := .call { callee := (.value (.func 84)), args := #[(.tmp 214), (.tmp 215), (.tmp 216), (.tmp 217), (.tmp 218)], argTypes := #[46, 3, 3, 3, 74] }) (ty := 0) (d := some 219) (g := none) (by kernel_rfl) (by kernel_rfl) (by kernel_rfl) (Does.call (f := 84) (args := [.slice Al0 t178.length cl0, .int .i64 v65, .int .i64 v164, .int .i64 a3, .func (.func 59) #[] #[]]) (by kernel_rfl) (fun W hI => (ih t178 v65 v164 a3 Al0 cl0 CR180p0 HR180p0 t186 ht187 hI))) ?_
                        rintro _ _ _ ⟨CR188p0, rfl, HR188p0, HLR188p0, rfl, rfl⟩
                        refine WL.rest 6 [] (L' := []) (by kernel_rfl) ?_
                        obtain rfl := Option.some.inj h
                        exact QP.returnedN [] [] _ (by kernel_rfl) (by kernel_rfl) (by kernel_rfl) (fun W hI => ⟨_, _, _, rfl, ⟨CR188p0, rfl, HR188p0, (HLR188p0.trans (HLR180p0.trans HLR172p0)), rfl, rfl⟩, hI⟩)
                      · replace hc := (Bool.eq_false_iff.1 hc)
                        rw [if_neg hc] at h
                        have hc185 := hc
                        clear hc
                        refine WP.skip ?_
                        obtain rfl := Option.some.inj h
                        exact QP.returnedN [] [] _ (by kernel_rfl) (by kernel_rfl) (by kernel_rfl) (fun W hI => ⟨_, _, _, rfl, ⟨CR180p0, rfl, HR180p0, (HLR180p0.trans HLR172p0), rfl, rfl⟩, hI⟩)
                  · replace hc := (Bool.eq_false_iff.1 hc)
                    rw [if_neg hc] at h
                    have hc177 := hc
                    clear hc
                    refine WP.skip ?_
                    refine QP.next ?_
                    refine WP.pick [0, 3, 4, 18, 24] ?_
                    rw [Option.bind_eq_some_iff] at h
                    obtain ⟨os190, h, hk191⟩ := h
                    refine WP.cut (fun L' G' Γ' => ∃ s190 : Bool, s190 = os190 ∧ L' = [(0, .slice Al0 t170.length cl0), (3, .int .i64 a3), (4, .func (.func 59) #[] #[]), (18, .int .i64 v65), (24, .int .i64 v164), (213, .bool s190)] ∧ G = G' ∧ [] :: CR172p0 :: Γ = Γ') ?_ ?_
                    · clear hk191
                      refine WP.region ?_
                      refine WL.pure 0 4 [0, 3, 4, 18, 24, 209] (L' := [(0, .slice Al0 t170.length cl0), (3, .int .i64 a3), (4, .func (.func 59) #[] #[]), (18, .int .i64 v65), (24, .int .i64 v164), (209, .bool (decide (v65 < v164)))]) (by kernel_rfl) (by decide) ?_
                      refine WL.split 209 (b := decide (v65 < v164)) (by kernel_rfl) (fun hc => ?_) (fun hc => ?_)
                      · replace hc := of_decide_eq_true hc
                        rw [if_pos hc] at h
                        have hc192 := hc
                        clear hc
                        refine WL.rest 4 [0, 3, 4, 18, 24, 213] (L' := [(0, .slice Al0 t170.length cl0), (3, .int .i64 a3), (4, .func (.func 59) #[] #[]), (18, .int .i64 v65), (24, .int .i64 v164), (213, .bool (decide (v164 < a3)))]) (by kernel_rfl) ?_
                        refine QP.pick [0, 3, 4, 18, 24, 213] ?_
                        exact QP.meet ⟨_, Option.some.inj h, rfl, rfl, rfl⟩
                      · replace hc := of_decide_eq_false hc
                        rw [if_neg hc] at h
                        have hc192 := hc
                        clear hc
                        refine WL.rest 4 [0, 3, 4, 18, 24, 213] (L' := [(0, .slice Al0 t170.length cl0), (3, .int .i64 a3), (4, .func (.func 59) #[] #[]), (18, .int .i64 v65), (24, .int .i64 v164), (213, .bool false)]) (by kernel_rfl) ?_
                        refine QP.pick [0, 3, 4, 18, 24, 213] ?_
                        exact QP.meet ⟨_, Option.some.inj h, rfl, rfl, rfl⟩
                    · rintro _ _ _ ⟨s190, rfl, rfl, rfl, rfl⟩
                      clear h
                      replace h := hk191
                      refine WP.cond (b := s190) (by kernel_rfl) (fun hc => ?_) (fun hc => ?_)
                      · replace hc := hc
                        rw [if_pos hc] at h
                        have hc193 := hc
                        clear hc
                        refine WP.region ?_
                        refine WL.pure 0 5 [214, 215, 216, 217, 218] (L' := [(214, .slice Al0 t170.length cl0), (215, .int .i64 v65), (216, .int .i64 v164), (217, .int .i64 a3), (218, .func (.func 59) #[] #[])]) (by kernel_rfl) (by decide) ?_
                        refine WL.front (i := 1) rfl ?_
                        refine WL.front (i := 1) rfl ?_
                        rw [Option.bind_eq_some_iff] at h
                        obtain ⟨t194, ht195, h⟩ := h
                        refine WL.op (op := .call { callee := (.value (.func 84)), args := #[(.tmp 214), (.tmp 215), (.tmp 216), (.tmp 217), (.tmp 218)], argTypes := #[46, 3, 3, 3, 74] }) (ty := 0) (d := some 219) (g := none) (by kernel_rfl) (by kernel_rfl) (by kernel_rfl) (Does.call (f := 84) (args := [.slice Al0 t170.length cl0, .int .i64 v65, .int .i64 v164, .int .i64 a3, .func (.func 59) #[] #[]]) (by kernel_rfl) (fun W hI => (ih t170 v65 v164 a3 Al0 cl0 CR172p0 HR172p0 t194 ht195 hI))) ?_
                        rintro _ _ _ ⟨CR196p0, rfl, HR196p0, HLR196p0, rfl, rfl⟩
                        refine WL.rest 6 [] (L' := []) (by kernel_rfl) ?_
                        obtain rfl := Option.some.inj h
                        exact QP.returnedN [] [] _ (by kernel_rfl) (by kernel_rfl) (by kernel_rfl) (fun W hI => ⟨_, _, _, rfl, ⟨CR196p0, rfl, HR196p0, (HLR196p0.trans HLR172p0), rfl, rfl⟩, hI⟩)
                      · replace hc := (Bool.eq_false_iff.1 hc)
                        rw [if_neg hc] at h
                        have hc193 := hc
                        clear hc
                        refine WP.skip ?_
                        obtain rfl := Option.some.inj h
                        exact QP.returnedN [] [] _ (by kernel_rfl) (by kernel_rfl) (by kernel_rfl) (fun W hI => ⟨_, _, _, rfl, ⟨CR172p0, rfl, HR172p0, HLR172p0, rfl, rfl⟩, hI⟩)
              · replace hc := (Bool.eq_false_iff.1 hc)
                rw [if_neg hc] at h
                have hc169 := hc
                clear hc
                refine WP.skip ?_
                refine QP.next ?_
                refine WP.pick [0, 1, 3, 4, 18, 20, 24] ?_
                refine WP.seq ?_
                rw [Option.bind_eq_some_iff] at h
                obtain ⟨os198, h, hk199⟩ := h
                refine WP.cut (fun L' G' Γ' => ∃ s198 : Bool, s198 = os198 ∧ L' = [(0, .slice Al0 l0.length cl0), (1, .int .i64 a1), (3, .int .i64 a3), (4, .func (.func 59) #[] #[]), (18, .int .i64 v65), (20, .int .i64 s148), (24, .int .i64 v164), (199, .bool s198)] ∧ G = G' ∧ [] :: Cl0 :: Γ = Γ') ?_ ?_
                · clear hk199
                  refine WP.region ?_
                  refine WL.pure 0 4 [0, 1, 3, 4, 18, 20, 24, 195] (L' := [(0, .slice Al0 l0.length cl0), (1, .int .i64 a1), (3, .int .i64 a3), (4, .func (.func 59) #[] #[]), (18, .int .i64 v65), (20, .int .i64 s148), (24, .int .i64 v164), (195, .bool (decide (a1 < s148)))]) (by kernel_rfl) (by decide) ?_
                  refine WL.split 195 (b := decide (a1 < s148)) (by kernel_rfl) (fun hc => ?_) (fun hc => ?_)
                  · replace hc := of_decide_eq_true hc
                    rw [if_pos hc] at h
                    have hc200 := hc
                    clear hc
                    refine WL.rest 4 [0, 1, 3, 4, 18, 20, 24, 199] (L' := [(0, .slice Al0 l0.length cl0), (1, .int .i64 a1), (3, .int .i64 a3), (4, .func (.func 59) #[] #[]), (18, .int .i64 v65), (20, .int .i64 s148), (24, .int .i64 v164), (199, .bool (decide (s148 < v65)))]) (by kernel_rfl) ?_
                    refine QP.pick [0, 1, 3, 4, 18, 20, 24, 199] ?_
                    exact QP.meet ⟨_, Option.some.inj h, rfl, rfl, rfl⟩
                  · replace hc := of_decide_eq_false hc
                    rw [if_neg hc] at h
                    have hc200 := hc
                    clear hc
                    refine WL.rest 4 [0, 1, 3, 4, 18, 20, 24, 199] (L' := [(0, .slice Al0 l0.length cl0), (1, .int .i64 a1), (3, .int .i64 a3), (4, .func (.func 59) #[] #[]), (18, .int .i64 v65), (20, .int .i64 s148), (24, .int .i64 v164), (199, .bool false)]) (by kernel_rfl) ?_
                    refine QP.pick [0, 1, 3, 4, 18, 20, 24, 199] ?_
                    exact QP.meet ⟨_, Option.some.inj h, rfl, rfl, rfl⟩
                · rintro _ _ _ ⟨s198, rfl, rfl, rfl, rfl⟩
                  clear h
                  replace h := hk199
                  refine WP.cond (b := s198) (by kernel_rfl) (fun hc => ?_) (fun hc => ?_)
                  · replace hc := hc
                    rw [if_pos hc] at h
                    have hc201 := hc
                    clear hc
                    refine WP.region ?_
                    refine WL.pure 0 5 [0, 3, 4, 18, 24, 200, 201, 202, 203, 204] (L' := [(0, .slice Al0 l0.length cl0), (3, .int .i64 a3), (4, .func (.func 59) #[] #[]), (18, .int .i64 v65), (24, .int .i64 v164), (200, .slice Al0 l0.length cl0), (201, .int .i64 a1), (202, .int .i64 s148), (203, .int .i64 v65), (204, .func (.func 59) #[] #[])]) (by kernel_rfl) (by decide) ?_
                    refine WL.front (i := 1) rfl ?_
                    refine WL.front (i := 1) rfl ?_
                    rw [Option.bind_eq_some_iff] at h
                    obtain ⟨t202, ht203, h⟩ := h
                    refine WL.op (op := .call { callee := (.value (.func 84)), args := #[(.tmp 200), (.tmp 201), (.tmp 202), (.tmp 203), (.tmp 204)], argTypes := #[46, 3, 3, 3, 74] }) (ty := 0) (d := some 205) (g := none) (by kernel_rfl) (by kernel_rfl) (by kernel_rfl) (Does.call (f := 84) (args := [.slice Al0 l0.length cl0, .int .i64 a1, .int .i64 s148, .int .i64 v65, .func (.func 59) #[] #[]]) (by kernel_rfl) (fun W hI => (ih l0 a1 s148 v65 Al0 cl0 Cl0 Hl0 t202 ht203 hI))) ?_
                    rintro _ _ _ ⟨CR204p0, rfl, HR204p0, HLR204p0, rfl, rfl⟩
                    refine WL.reput 0 (v := .slice Al0 l0.length cl0) (v' := .slice Al0 t202.length cl0) (by kernel_rfl) (by rw [HLR204p0]) ?_
                    refine WL.rest 6 [0, 3, 4, 18, 24] (L' := [(0, .slice Al0 t202.length cl0), (3, .int .i64 a3), (4, .func (.func 59) #[] #[]), (18, .int .i64 v65), (24, .int .i64 v164)]) (by kernel_rfl) ?_
                    refine QP.next ?_
                    refine WP.pick [0, 3, 4, 18, 24] ?_
                    rw [Option.bind_eq_some_iff] at h
                    obtain ⟨os206, h, hk207⟩ := h
                    refine WP.cut (fun L' G' Γ' => ∃ s206 : Bool, s206 = os206 ∧ L' = [(0, .slice Al0 t202.length cl0), (3, .int .i64 a3), (4, .func (.func 59) #[] #[]), (18, .int .i64 v65), (24, .int .i64 v164), (213, .bool s206)] ∧ G = G' ∧ [] :: CR204p0 :: Γ = Γ') ?_ ?_
                    · clear hk207
                      refine WP.region ?_
                      refine WL.pure 0 4 [0, 3, 4, 18, 24, 209] (L' := [(0, .slice Al0 t202.length cl0), (3, .int .i64 a3), (4, .func (.func 59) #[] #[]), (18, .int .i64 v65), (24, .int .i64 v164), (209, .bool (decide (v65 < v164)))]) (by kernel_rfl) (by decide) ?_
                      refine WL.split 209 (b := decide (v65 < v164)) (by kernel_rfl) (fun hc => ?_) (fun hc => ?_)
                      · replace hc := of_decide_eq_true hc
                        rw [if_pos hc] at h
                        have hc208 := hc
                        clear hc
                        refine WL.rest 4 [0, 3, 4, 18, 24, 213] (L' := [(0, .slice Al0 t202.length cl0), (3, .int .i64 a3), (4, .func (.func 59) #[] #[]), (18, .int .i64 v65), (24, .int .i64 v164), (213, .bool (decide (v164 < a3)))]) (by kernel_rfl) ?_
                        refine QP.pick [0, 3, 4, 18, 24, 213] ?_
                        exact QP.meet ⟨_, Option.some.inj h, rfl, rfl, rfl⟩
                      · replace hc := of_decide_eq_false hc
                        rw [if_neg hc] at h
                        have hc208 := hc
                        clear hc
                        refine WL.rest 4 [0, 3, 4, 18, 24, 213] (L' := [(0, .slice Al0 t202.length cl0), (3, .int .i64 a3), (4, .func (.func 59) #[] #[]), (18, .int .i64 v65), (24, .int .i64 v164), (213, .bool false)]) (by kernel_rfl) ?_
                        refine QP.pick [0, 3, 4, 18, 24, 213] ?_
                        exact QP.meet ⟨_, Option.some.inj h, rfl, rfl, rfl⟩
                    · rintro _ _ _ ⟨s206, rfl, rfl, rfl, rfl⟩
                      clear h
                      replace h := hk207
                      refine WP.cond (b := s206) (by kernel_rfl) (fun hc => ?_) (fun hc => ?_)
                      · replace hc := hc
                        rw [if_pos hc] at h
                        have hc209 := hc
                        clear hc
                        refine WP.region ?_
                        refine WL.pure 0 5 [214, 215, 216, 217, 218] (L' := [(214, .slice Al0 t202.length cl0), (215, .int .i64 v65), (216, .int .i64 v164), (217, .int .i64 a3), (218, .func (.func 59) #[] #[])]) (by kernel_rfl) (by decide) ?_
                        refine WL.front (i := 1) rfl ?_
                        refine WL.front (i := 1) rfl ?_
                        rw [Option.bind_eq_some_iff] at h
                        obtain ⟨t210, ht211, h⟩ := h
                        refine WL.op (op := .call { callee := (.value (.func 84)), args := #[(.tmp 214), (.tmp 215), (.tmp 216), (.tmp 217), (.tmp 218)], argTypes := #[46, 3, 3, 3, 74] }) (ty := 0) (d := some 219) (g := none) (by kernel_rfl) (by kernel_rfl) (by kernel_rfl) (Does.call (f := 84) (args := [.slice Al0 t202.length cl0, .int .i64 v65, .int .i64 v164, .int .i64 a3, .func (.func 59) #[] #[]]) (by kernel_rfl) (fun W hI => (ih t202 v65 v164 a3 Al0 cl0 CR204p0 HR204p0 t210 ht211 hI))) ?_
                        rintro _ _ _ ⟨CR212p0, rfl, HR212p0, HLR212p0, rfl, rfl⟩
                        refine WL.rest 6 [] (L' := []) (by kernel_rfl) ?_
                        obtain rfl := Option.some.inj h
                        exact QP.returnedN [] [] _ (by kernel_rfl) (by kernel_rfl) (by kernel_rfl) (fun W hI => ⟨_, _, _, rfl, ⟨CR212p0, rfl, HR212p0, (HLR212p0.trans HLR204p0), rfl, rfl⟩, hI⟩)
                      · replace hc := (Bool.eq_false_iff.1 hc)
                        rw [if_neg hc] at h
                        have hc209 := hc
                        clear hc
                        refine WP.skip ?_
                        obtain rfl := Option.some.inj h
                        exact QP.returnedN [] [] _ (by kernel_rfl) (by kernel_rfl) (by kernel_rfl) (fun W hI => ⟨_, _, _, rfl, ⟨CR204p0, rfl, HR204p0, HLR204p0, rfl, rfl⟩, hI⟩)
                  · replace hc := (Bool.eq_false_iff.1 hc)
                    rw [if_neg hc] at h
                    have hc201 := hc
                    clear hc
                    refine WP.skip ?_
                    refine QP.next ?_
                    refine WP.pick [0, 3, 4, 18, 24] ?_
                    rw [Option.bind_eq_some_iff] at h
                    obtain ⟨os214, h, hk215⟩ := h
                    refine WP.cut (fun L' G' Γ' => ∃ s214 : Bool, s214 = os214 ∧ L' = [(0, .slice Al0 l0.length cl0), (3, .int .i64 a3), (4, .func (.func 59) #[] #[]), (18, .int .i64 v65), (24, .int .i64 v164), (213, .bool s214)] ∧ G = G' ∧ [] :: Cl0 :: Γ = Γ') ?_ ?_
                    · clear hk215
                      refine WP.region ?_
                      refine WL.pure 0 4 [0, 3, 4, 18, 24, 209] (L' := [(0, .slice Al0 l0.length cl0), (3, .int .i64 a3), (4, .func (.func 59) #[] #[]), (18, .int .i64 v65), (24, .int .i64 v164), (209, .bool (decide (v65 < v164)))]) (by kernel_rfl) (by decide) ?_
                      refine WL.split 209 (b := decide (v65 < v164)) (by kernel_rfl) (fun hc => ?_) (fun hc => ?_)
                      · replace hc := of_decide_eq_true hc
                        rw [if_pos hc] at h
                        have hc216 := hc
                        clear hc
                        refine WL.rest 4 [0, 3, 4, 18, 24, 213] (L' := [(0, .slice Al0 l0.length cl0), (3, .int .i64 a3), (4, .func (.func 59) #[] #[]), (18, .int .i64 v65), (24, .int .i64 v164), (213, .bool (decide (v164 < a3)))]) (by kernel_rfl) ?_
                        refine QP.pick [0, 3, 4, 18, 24, 213] ?_
                        exact QP.meet ⟨_, Option.some.inj h, rfl, rfl, rfl⟩
                      · replace hc := of_decide_eq_false hc
                        rw [if_neg hc] at h
                        have hc216 := hc
                        clear hc
                        refine WL.rest 4 [0, 3, 4, 18, 24, 213] (L' := [(0, .slice Al0 l0.length cl0), (3, .int .i64 a3), (4, .func (.func 59) #[] #[]), (18, .int .i64 v65), (24, .int .i64 v164), (213, .bool false)]) (by kernel_rfl) ?_
                        refine QP.pick [0, 3, 4, 18, 24, 213] ?_
                        exact QP.meet ⟨_, Option.some.inj h, rfl, rfl, rfl⟩
                    · rintro _ _ _ ⟨s214, rfl, rfl, rfl, rfl⟩
                      clear h
                      replace h := hk215
                      refine WP.cond (b := s214) (by kernel_rfl) (fun hc => ?_) (fun hc => ?_)
                      · replace hc := hc
                        rw [if_pos hc] at h
                        have hc217 := hc
                        clear hc
                        refine WP.region ?_
                        refine WL.pure 0 5 [214, 215, 216, 217, 218] (L' := [(214, .slice Al0 l0.length cl0), (215, .int .i64 v65), (216, .int .i64 v164), (217, .int .i64 a3), (218, .func (.func 59) #[] #[])]) (by kernel_rfl) (by decide) ?_
                        refine WL.front (i := 1) rfl ?_
                        refine WL.front (i := 1) rfl ?_
                        rw [Option.bind_eq_some_iff] at h
                        obtain ⟨t218, ht219, h⟩ := h
                        refine WL.op (op := .call { callee := (.value (.func 84)), args := #[(.tmp 214), (.tmp 215), (.tmp 216), (.tmp 217), (.tmp 218)], argTypes := #[46, 3, 3, 3, 74] }) (ty := 0) (d := some 219) (g := none) (by kernel_rfl) (by kernel_rfl) (by kernel_rfl) (Does.call (f := 84) (args := [.slice Al0 l0.length cl0, .int .i64 v65, .int .i64 v164, .int .i64 a3, .func (.func 59) #[] #[]]) (by kernel_rfl) (fun W hI => (ih l0 v65 v164 a3 Al0 cl0 Cl0 Hl0 t218 ht219 hI))) ?_
                        rintro _ _ _ ⟨CR220p0, rfl, HR220p0, HLR220p0, rfl, rfl⟩
                        refine WL.rest 6 [] (L' := []) (by kernel_rfl) ?_
                        obtain rfl := Option.some.inj h
                        exact QP.returnedN [] [] _ (by kernel_rfl) (by kernel_rfl) (by kernel_rfl) (fun W hI => ⟨_, _, _, rfl, ⟨CR220p0, rfl, HR220p0, HLR220p0, rfl, rfl⟩, hI⟩)
                      · replace hc := (Bool.eq_false_iff.1 hc)
                        rw [if_neg hc] at h
                        have hc217 := hc
                        clear hc
                        refine WP.skip ?_
                        obtain rfl := Option.some.inj h
                        exact QP.returnedN [] [] _ (by kernel_rfl) (by kernel_rfl) (by kernel_rfl) (fun W hI => ⟨_, _, _, rfl, ⟨Cl0, rfl, Hl0, rfl, rfl, rfl⟩, hI⟩)
theorem slices_symMergeCmpFunc_calls {B : World} {G : GMap} {Γ : List Chunk} {W : World} (k : Nat) (l0 : List T27) (a1 : Int) (a2 : Int) (a3 : Int) (Al0 : Option Addr) (cl0 : Nat) (Cl0 : Chunk) (Hl0 : Ow k27 G Al0 cl0 l0 Cl0) (r : List T27) (h : slices_symMergeCmpFunc k l0 a1 a2 a3 = some r) (hI : Inv B G ([] :: Cl0 :: Γ) W) :
    Calls Tryd.prog 84 [.slice Al0 l0.length cl0, .int .i64 a1, .int .i64 a2, .int .i64 a3, .func (.func 59) #[] #[]].toArray W (Ret B (fun v G' Γ' => ∃ (CRp0 : Chunk), v = .tuple #[] ∧ Ow k27 G' Al0 cl0 r CRp0 ∧ r.length = l0.length ∧ G = G' ∧ [] :: CRp0 :: Γ = Γ')) := slices_symMergeCmpFunc_calls_k k l0 a1 a2 a3 Al0 cl0 Cl0 Hl0 r h hI
end Go.Proofs.YtjmhhmljldjmjaaDoor.Gf
