/- Walks of Go functions: what each tells, as a plain Lean function, and that the Go code comes to it. Written by gg.py of this repo. -/
import Derived.Test.YtjmhhmljldjmjaaDoorT
import Derived.Test.YtjmhhmljldjmjaaDoorF0
namespace Go.Proofs.YtjmhhmljldjmjaaDoor.Gf
open Go Go.Gg
set_option maxRecDepth 100000
set_option linter.unusedVariables false
set_option linter.unusedSimpArgs false

/-! ### grapevine/grapevinelaw1.TokensJoin: function 11 -/
def grapevinelaw1_TokensJoin_l0 (t30 : List T64) (t34 : List T64) (t38 : List T64) : Nat → Int → Option (Sum Bool Unit)
  | 0, _ => none
  | k + 1, y45 => (if y45 < (t38.length : Int) then (if y45 < (t30.length : Int) then (if 0 ≤ y45 ∧ y45 < (t30.length : Int) then ((if 0 ≤ y45 ∧ y45 < (t38.length : Int) then (if (!(((t38.getD y45.toNat z64).f0).toList == ((t30.getD y45.toNat z64).f0).toList)) = true then some true else (if 0 ≤ y45 ∧ y45 < (t38.length : Int) then some (((t38.getD y45.toNat z64).f1) != y45) else none)) else none).bind fun s51 => (if s51 = true then some (Sum.inl false) else grapevinelaw1_TokensJoin_l0 t30 t34 t38 k (IntKind.i64.wrap (y45 + 1)))) else none) else (if 0 ≤ (IntKind.i64.wrap (y45 - (t30.length : Int))) ∧ (IntKind.i64.wrap (y45 - (t30.length : Int))) < (t34.length : Int) then ((if 0 ≤ y45 ∧ y45 < (t38.length : Int) then (if (!(((t38.getD y45.toNat z64).f0).toList == ((t34.getD (IntKind.i64.wrap (y45 - (t30.length : Int))).toNat z64).f0).toList)) = true then some true else (if 0 ≤ y45 ∧ y45 < (t38.length : Int) then some (((t38.getD y45.toNat z64).f1) != y45) else none)) else none).bind fun s58 => (if s58 = true then some (Sum.inl false) else grapevinelaw1_TokensJoin_l0 t30 t34 t38 k (IntKind.i64.wrap (y45 + 1)))) else none)) else some (Sum.inr ()))
def grapevinelaw1_TokensJoin (k : Nat) (a0 : ByteArray) (a1 : ByteArray) (a2 : Int) : Option Bool := ((grapevinelaw0_Low a2 6).bind fun t4 => (if 0 ≤ t4 ∧ t4 < (([(⟨#[32]⟩ : ByteArray), (⟨#[45]⟩ : ByteArray), (⟨#[46]⟩ : ByteArray), (⟨#[10]⟩ : ByteArray), (⟨#[226, 130, 172]⟩ : ByteArray), (⟨#[95]⟩ : ByteArray)] : List ByteArray).length : Int) then ((some (([(⟨#[32]⟩ : ByteArray), (⟨#[45]⟩ : ByteArray), (⟨#[46]⟩ : ByteArray), (⟨#[10]⟩ : ByteArray), (⟨#[226, 130, 172]⟩ : ByteArray), (⟨#[95]⟩ : ByteArray)] : List ByteArray).getD t4.toNat (⟨#[]⟩ : ByteArray))).bind fun v9 => (if a0.size + v9.size ≤ 9223372036854775807 then (if (a0 ++ v9).size + a1.size ≤ 9223372036854775807 then ((if (((a0 ++ v9) ++ a1).size : Int) > 120 then some true else ((utf8_ValidString a0).bind fun t16 => (if (!t16) = true then some true else ((utf8_ValidString a1).bind fun t21 => some (!t21))))).bind fun s13 => (if s13 = true then ((grapevinelaw1_awake k ).bind fun t26 => some t26) else ((tokens_Of k a0).bind fun t30 => ((tokens_Of k a1).bind fun t34 => ((tokens_Of k ((a0 ++ v9) ++ a1)).bind fun t38 => (if ¬ (t38.length : Int) = (IntKind.i64.wrap ((t30.length : Int) + (t34.length : Int))) then some false else ((grapevinelaw1_TokensJoin_l0 t30 t34 t38 k 0).bind fun os43 => match os43 with | Sum.inl r => some r | Sum.inr s43 => ((grapevinelaw1_awake k ).bind fun t64 => some t64)))))))) else none) else none)) else none))
set_option maxHeartbeats 4000000 in
theorem grapevinelaw1_TokensJoin_calls {B : World} {G : GMap} {Γ : List Chunk} {W : World} (HT : Tabs B G) (k : Nat) (a0 : ByteArray) (a1 : ByteArray) (a2 : Int) (r : Bool) (h : grapevinelaw1_TokensJoin k a0 a1 a2 = some r) (hI : Inv B G (Γ) W) :
    Calls Tryd.prog 11 [.string a0, .string a1, .int .i64 a2].toArray W (Ret B (fun v G' Γ' => v = .bool r ∧ G = G' ∧ Γ = Γ')) := by
  refine calls_WP (Γ := Γ) (G := G) (B := B) Tryd.func11 rfl (by kernel_rfl) ?_ hI
  clear hI
  unfold grapevinelaw1_TokensJoin at h
  refine WP.seqP [0, 1, 2] (L' := [(0, .string a0), (1, .string a1), (2, .int .i64 a2)]) (by kernel_rfl) ?_
  refine WP.seqR ?_
  refine WL.op (op := .buildSlice 62 6 #[(0, (.const (.string { data := #[32] }))), (1, (.const (.string { data := #[45] }))), (2, (.const (.string { data := #[46] }))), (3, (.const (.string { data := #[10] }))), (4, (.const (.string { data := #[226, 130, 172] }))), (5, (.const (.string { data := #[95] })))]) (ty := 62) (d := some 14) (g := none) (by kernel_rfl) (by kernel_rfl) (by kernel_rfl) (Does.new (o := .cells #[.string (⟨#[32]⟩ : ByteArray), .string (⟨#[45]⟩ : ByteArray), .string (⟨#[46]⟩ : ByteArray), .string (⟨#[10]⟩ : ByteArray), .string (⟨#[226, 130, 172]⟩ : ByteArray), .string (⟨#[95]⟩ : ByteArray)] 9 (0, 0)) (v := fun r => .slice (some ⟨r, 0, none⟩) 6 6) (fun r => by kernel_rfl)) ?_
  rintro _ _ _ ⟨b1, rfl, rfl, rfl⟩
  have Ho3 : Ow kStr G (some ⟨b1, 0, none⟩) 6 ([(⟨#[32]⟩ : ByteArray), (⟨#[45]⟩ : ByteArray), (⟨#[46]⟩ : ByteArray), (⟨#[10]⟩ : ByteArray), (⟨#[226, 130, 172]⟩ : ByteArray), (⟨#[95]⟩ : ByteArray)] : List ByteArray) [(b1, .cells #[.string (⟨#[32]⟩ : ByteArray), .string (⟨#[45]⟩ : ByteArray), .string (⟨#[46]⟩ : ByteArray), .string (⟨#[10]⟩ : ByteArray), .string (⟨#[226, 130, 172]⟩ : ByteArray), .string (⟨#[95]⟩ : ByteArray)] 9 (0, 0))] := Ow.lit (kd := kStr) (G := G) (b := b1) (T := 9) (xs := ([(⟨#[32]⟩ : ByteArray), (⟨#[45]⟩ : ByteArray), (⟨#[46]⟩ : ByteArray), (⟨#[10]⟩ : ByteArray), (⟨#[226, 130, 172]⟩ : ByteArray), (⟨#[95]⟩ : ByteArray)] : List ByteArray)) (cs := [.string (⟨#[32]⟩ : ByteArray), .string (⟨#[45]⟩ : ByteArray), .string (⟨#[46]⟩ : ByteArray), .string (⟨#[10]⟩ : ByteArray), .string (⟨#[226, 130, 172]⟩ : ByteArray), .string (⟨#[95]⟩ : ByteArray)]) (.cons (x := (⟨#[32]⟩ : ByteArray)) (cs := [.string (⟨#[32]⟩ : ByteArray)]) (by exact rfl) (.cons (x := (⟨#[45]⟩ : ByteArray)) (cs := [.string (⟨#[45]⟩ : ByteArray)]) (by exact rfl) (.cons (x := (⟨#[46]⟩ : ByteArray)) (cs := [.string (⟨#[46]⟩ : ByteArray)]) (by exact rfl) (.cons (x := (⟨#[10]⟩ : ByteArray)) (cs := [.string (⟨#[10]⟩ : ByteArray)]) (by exact rfl) (.cons (x := (⟨#[226, 130, 172]⟩ : ByteArray)) (cs := [.string (⟨#[226, 130, 172]⟩ : ByteArray)]) (by exact rfl) (.cons (x := (⟨#[95]⟩ : ByteArray)) (cs := [.string (⟨#[95]⟩ : ByteArray)]) (by exact rfl) .nil))))))
  refine WL.pure 1 2 [0, 1, 14, 15] (L' := [(0, .string a0), (1, .string a1), (14, .slice (some ⟨b1, 0, none⟩) ([(⟨#[32]⟩ : ByteArray), (⟨#[45]⟩ : ByteArray), (⟨#[46]⟩ : ByteArray), (⟨#[10]⟩ : ByteArray), (⟨#[226, 130, 172]⟩ : ByteArray), (⟨#[95]⟩ : ByteArray)] : List ByteArray).length 6), (15, .int .i64 a2)]) (by kernel_rfl) (by decide) ?_
  rw [Option.bind_eq_some_iff] at h
  obtain ⟨t4, ht5, h⟩ := h
  refine WL.op (op := .call { callee := (.value (.func 24)), args := #[(.tmp 15), (.const (.int .i64 6))], argTypes := #[3, 3] }) (ty := 3) (d := some 16) (g := none) (by kernel_rfl) (by kernel_rfl) (by kernel_rfl) (Does.call (f := 24) (args := [.int .i64 a2, .int .i64 6]) (by kernel_rfl) (fun W hI => (grapevinelaw0_Low_calls a2 6  t4 ht5 hI))) ?_
  rintro _ _ _ ⟨rfl, rfl, rfl⟩
  by_cases hb8 : 0 ≤ t4 ∧ t4 < (([(⟨#[32]⟩ : ByteArray), (⟨#[45]⟩ : ByteArray), (⟨#[46]⟩ : ByteArray), (⟨#[10]⟩ : ByteArray), (⟨#[226, 130, 172]⟩ : ByteArray), (⟨#[95]⟩ : ByteArray)] : List ByteArray).length : Int)
  case neg => rw [if_neg hb8] at h; cases h
  rw [if_pos hb8] at h
  refine WL.tell (op := .indexAddr 62 (.tmp 14) (.tmp 16)) (ty := 0) (d := some 17) (g := none) (by kernel_rfl) (by kernel_rfl) (by kernel_rfl) (Tells.indexAddr (A := (some ⟨b1, 0, none⟩)) (n := ([(⟨#[32]⟩ : ByteArray), (⟨#[45]⟩ : ByteArray), (⟨#[46]⟩ : ByteArray), (⟨#[10]⟩ : ByteArray), (⟨#[226, 130, 172]⟩ : ByteArray), (⟨#[95]⟩ : ByteArray)] : List ByteArray).length) (c := 6) (k := .i64) (j := t4) (by kernel_rfl) (by kernel_rfl) (Ho3.isSome hb8.1 hb8.2) hb8.1 hb8.2 sl62) ?_
  refine WL.tellE (op := .load 9 (.tmp 17)) (ty := 9) (d := some 18) (g := none) (by kernel_rfl) (by kernel_rfl) (by kernel_rfl) (Ho3.load (i := 0) rfl (agg := false) hb8.1 hb8.2 (⟨#[]⟩ : ByteArray) ag9 (fun _ => rfl) (by kernel_rfl)) ?_
  rintro _ rfl
  refine WL.restQ 5 [0, 1, 7] (L' := [(0, .string a0), (1, .string a1), (7, .string (([(⟨#[32]⟩ : ByteArray), (⟨#[45]⟩ : ByteArray), (⟨#[46]⟩ : ByteArray), (⟨#[10]⟩ : ByteArray), (⟨#[226, 130, 172]⟩ : ByteArray), (⟨#[95]⟩ : ByteArray)] : List ByteArray).getD t4.toNat (⟨#[]⟩ : ByteArray)))]) (by kernel_rfl) ?_
  obtain ⟨v9, hv10, h⟩ := Option.bind_eq_some_iff.1 h
  replace hv10 := Option.some.inj hv10
  refine WP.reput 7 (v := .string (([(⟨#[32]⟩ : ByteArray), (⟨#[45]⟩ : ByteArray), (⟨#[46]⟩ : ByteArray), (⟨#[10]⟩ : ByteArray), (⟨#[226, 130, 172]⟩ : ByteArray), (⟨#[95]⟩ : ByteArray)] : List ByteArray).getD t4.toNat (⟨#[]⟩ : ByteArray))) (v' := .string v9) (by kernel_rfl) (by subst hv10; rfl) ?_
  refine WP.pick [0, 1, 7] ?_
  refine WP.dropAt 0 ?_
  refine WP.seqR ?_
  refine WL.pure 0 2 [0, 1, 19, 20] (L' := [(0, .string a0), (1, .string a1), (19, .string a0), (20, .string v9)]) (by kernel_rfl) (by decide) ?_
  by_cases hb11 : a0.size + v9.size ≤ 9223372036854775807
  case neg => rw [if_neg hb11] at h; cases h
  rw [if_pos hb11] at h
  refine WL.tell (op := .binOp .add 9 (.tmp 19) (.tmp 20) 9) (ty := 9) (d := some 21) (g := none) (by kernel_rfl) (by kernel_rfl) (by kernel_rfl) (Tells.cat (a := a0) (b := v9) (by kernel_rfl) (by kernel_rfl) hb11) ?_
  refine WL.pure 3 4 [0, 1, 21, 22] (L' := [(0, .string a0), (1, .string a1), (21, .string (a0 ++ v9)), (22, .string a1)]) (by kernel_rfl) (by decide) ?_
  by_cases hb12 : (a0 ++ v9).size + a1.size ≤ 9223372036854775807
  case neg => rw [if_neg hb12] at h; cases h
  rw [if_pos hb12] at h
  refine WL.tell (op := .binOp .add 9 (.tmp 21) (.tmp 22) 9) (ty := 9) (d := some 23) (g := none) (by kernel_rfl) (by kernel_rfl) (by kernel_rfl) (Tells.cat (a := (a0 ++ v9)) (b := a1) (by kernel_rfl) (by kernel_rfl) hb12) ?_
  refine WL.restQ 5 [0, 1, 8] (L' := [(0, .string a0), (1, .string a1), (8, .string ((a0 ++ v9) ++ a1))]) (by kernel_rfl) ?_
  refine WP.seq ?_
  rw [Option.bind_eq_some_iff] at h
  obtain ⟨os13, h, hk14⟩ := h
  refine WP.cut (fun L' G' Γ' => ∃ s13 : Bool, s13 = os13 ∧ L' = [(0, .string a0), (1, .string a1), (8, .string ((a0 ++ v9) ++ a1)), (36, .bool s13)] ∧ G = G' ∧ Γ = Γ') ?_ ?_
  · clear hk14
    refine WP.region ?_
    refine WL.pure 0 4 [0, 1, 8, 27] (L' := [(0, .string a0), (1, .string a1), (8, .string ((a0 ++ v9) ++ a1)), (27, .bool (decide ((((a0 ++ v9) ++ a1).size : Int) > 120)))]) (by kernel_rfl) (by decide) ?_
    refine WL.split 27 (b := decide ((((a0 ++ v9) ++ a1).size : Int) > 120)) (by kernel_rfl) (fun hc => ?_) (fun hc => ?_)
    · replace hc := of_decide_eq_true hc
      rw [if_pos hc] at h
      have hc15 := hc
      clear hc
      refine WL.rest 4 [0, 1, 8, 36] (L' := [(0, .string a0), (1, .string a1), (8, .string ((a0 ++ v9) ++ a1)), (36, .bool true)]) (by kernel_rfl) ?_
      refine QP.pick [0, 1, 8, 36] ?_
      exact QP.meet ⟨_, Option.some.inj h, rfl, rfl, rfl⟩
    · replace hc := of_decide_eq_false hc
      rw [if_neg hc] at h
      have hc15 := hc
      clear hc
      refine WL.pure 4 5 [0, 1, 8, 27, 28] (L' := [(0, .string a0), (1, .string a1), (8, .string ((a0 ++ v9) ++ a1)), (27, .bool false), (28, .string a0)]) (by kernel_rfl) (by decide) ?_
      rw [Option.bind_eq_some_iff] at h
      obtain ⟨t16, ht17, h⟩ := h
      refine WL.op (op := .call { callee := (.value (.func 50)), args := #[(.tmp 28)], argTypes := #[9] }) (ty := 4) (d := some 29) (g := some (3, false)) (by kernel_rfl) (by kernel_rfl) (by kernel_rfl) (Does.call (f := 50) (args := [.string a0]) (by kernel_rfl) (fun W hI => (utf8_ValidString_calls HT a0  t16 ht17 hI))) ?_
      rintro _ _ _ ⟨rfl, rfl, rfl⟩
      refine WL.pure 6 9 [0, 1, 8, 32] (L' := [(0, .string a0), (1, .string a1), (8, .string ((a0 ++ v9) ++ a1)), (32, .bool (!t16))]) (by kernel_rfl) (by decide) ?_
      refine WL.split 32 (b := (!t16)) (by kernel_rfl) (fun hc => ?_) (fun hc => ?_)
      · replace hc := hc
        rw [if_pos hc] at h
        have hc20 := hc
        clear hc
        refine WL.rest 9 [0, 1, 8, 36] (L' := [(0, .string a0), (1, .string a1), (8, .string ((a0 ++ v9) ++ a1)), (36, .bool true)]) (by kernel_rfl) ?_
        refine QP.pick [0, 1, 8, 36] ?_
        exact QP.meet ⟨_, Option.some.inj h, rfl, rfl, rfl⟩
      · replace hc := (Bool.eq_false_iff.1 hc)
        rw [if_neg hc] at h
        have hc20 := hc
        clear hc
        refine WL.pure 9 10 [0, 1, 8, 32, 33] (L' := [(0, .string a0), (1, .string a1), (8, .string ((a0 ++ v9) ++ a1)), (32, .bool false), (33, .string a1)]) (by kernel_rfl) (by decide) ?_
        rw [Option.bind_eq_some_iff] at h
        obtain ⟨t21, ht22, h⟩ := h
        refine WL.op (op := .call { callee := (.value (.func 50)), args := #[(.tmp 33)], argTypes := #[9] }) (ty := 4) (d := some 34) (g := some (8, false)) (by kernel_rfl) (by kernel_rfl) (by kernel_rfl) (Does.call (f := 50) (args := [.string a1]) (by kernel_rfl) (fun W hI => (utf8_ValidString_calls HT a1  t21 ht22 hI))) ?_
        rintro _ _ _ ⟨rfl, rfl, rfl⟩
        refine WL.rest 11 [0, 1, 8, 36] (L' := [(0, .string a0), (1, .string a1), (8, .string ((a0 ++ v9) ++ a1)), (36, .bool (!t21))]) (by kernel_rfl) ?_
        refine QP.pick [0, 1, 8, 36] ?_
        exact QP.meet ⟨_, Option.some.inj h, rfl, rfl, rfl⟩
  · rintro _ _ _ ⟨s13, rfl, rfl, rfl, rfl⟩
    clear h
    replace h := hk14
    refine WP.cond (b := s13) (by kernel_rfl) (fun hc => ?_) (fun hc => ?_)
    · replace hc := hc
      rw [if_pos hc] at h
      have hc25 := hc
      clear hc
      refine WP.seqR ?_
      rw [Option.bind_eq_some_iff] at h
      obtain ⟨t26, ht27, h⟩ := h
      refine WL.op (op := .call { callee := (.value (.func 39)), args := #[], argTypes := #[] }) (ty := 4) (d := some 37) (g := none) (by kernel_rfl) (by kernel_rfl) (by kernel_rfl) (Does.call (f := 39) (args := []) (by kernel_rfl) (fun W hI => (grapevinelaw1_awake_calls HT k   t26 ht27 hI))) ?_
      rintro _ _ _ ⟨rfl, rfl, rfl⟩
      refine WL.restQ 1 [6] (L' := [(6, .bool t26)]) (by kernel_rfl) ?_
      refine WP.ret ?_
      refine QP.thenR ?_
      obtain rfl := Option.some.inj h
      exact QP.returned [6] [.bool t26] _ (by kernel_rfl) (by kernel_rfl) (by kernel_rfl) (fun W hI => ⟨_, _, _, rfl, ⟨rfl, rfl, rfl⟩, hI⟩)
    · replace hc := (Bool.eq_false_iff.1 hc)
      rw [if_neg hc] at h
      have hc25 := hc
      clear hc
      refine WP.skip ?_
      refine QP.next ?_
      refine WP.pick [0, 1, 8] ?_
      refine WP.seqR ?_
      refine WL.pure 0 1 [1, 8, 38] (L' := [(1, .string a1), (8, .string ((a0 ++ v9) ++ a1)), (38, .string a0)]) (by kernel_rfl) (by decide) ?_
      rw [Option.bind_eq_some_iff] at h
      obtain ⟨t30, ht31, h⟩ := h
      refine WL.op (op := .call { callee := (.value (.func 40)), args := #[(.tmp 38)], argTypes := #[9] }) (ty := 56) (d := some 39) (g := none) (by kernel_rfl) (by kernel_rfl) (by kernel_rfl) (Does.call (f := 40) (args := [.string a0]) (by kernel_rfl) (fun W hI => (tokens_Of_calls HT k a0  t30 ht31 hI))) ?_
      rintro _ _ _ ⟨AR32, cR32, CR32, rfl, HR32, rfl, rfl⟩
      refine WL.pure 2 3 [8, 39, 40] (L' := [(8, .string ((a0 ++ v9) ++ a1)), (39, .slice AR32 t30.length cR32), (40, .string a1)]) (by kernel_rfl) (by decide) ?_
      rw [Option.bind_eq_some_iff] at h
      obtain ⟨t34, ht35, h⟩ := h
      refine WL.op (op := .call { callee := (.value (.func 40)), args := #[(.tmp 40)], argTypes := #[9] }) (ty := 56) (d := some 41) (g := none) (by kernel_rfl) (by kernel_rfl) (by kernel_rfl) (Does.call (f := 40) (args := [.string a1]) (by kernel_rfl) (fun W hI => (tokens_Of_calls HT k a1  t34 ht35 hI))) ?_
      rintro _ _ _ ⟨AR36, cR36, CR36, rfl, HR36, rfl, rfl⟩
      refine WL.pure 4 5 [39, 41, 42] (L' := [(39, .slice AR32 t30.length cR32), (41, .slice AR36 t34.length cR36), (42, .string ((a0 ++ v9) ++ a1))]) (by kernel_rfl) (by decide) ?_
      rw [Option.bind_eq_some_iff] at h
      obtain ⟨t38, ht39, h⟩ := h
      refine WL.op (op := .call { callee := (.value (.func 40)), args := #[(.tmp 42)], argTypes := #[9] }) (ty := 56) (d := some 43) (g := none) (by kernel_rfl) (by kernel_rfl) (by kernel_rfl) (Does.call (f := 40) (args := [.string ((a0 ++ v9) ++ a1)]) (by kernel_rfl) (fun W hI => (tokens_Of_calls HT k ((a0 ++ v9) ++ a1)  t38 ht39 hI))) ?_
      rintro _ _ _ ⟨AR40, cR40, CR40, rfl, HR40, rfl, rfl⟩
      refine WL.restQ 6 [9, 10, 11] (L' := [(9, .slice AR32 t30.length cR32), (10, .slice AR36 t34.length cR36), (11, .slice AR40 t38.length cR40)]) (by kernel_rfl) ?_
      refine WP.seq ?_
      refine WP.seqP [9, 10, 11, 51] (L' := [(9, .slice AR32 t30.length cR32), (10, .slice AR36 t34.length cR36), (11, .slice AR40 t38.length cR40), (51, .bool ((t38.length : Int) != (IntKind.i64.wrap ((t30.length : Int) + (t34.length : Int)))))]) (by kernel_rfl) ?_
      refine WP.cond (b := ((t38.length : Int) != (IntKind.i64.wrap ((t30.length : Int) + (t34.length : Int))))) (by kernel_rfl) (fun hc => ?_) (fun hc => ?_)
      · replace hc := (bne_iff_ne.1 hc)
        rw [if_pos hc] at h
        have hc42 := hc
        clear hc
        refine WP.seqP [6] (L' := [(6, .bool false)]) (by kernel_rfl) ?_
        refine WP.dropAt 2 ?_
        refine WP.dropAt 1 ?_
        refine WP.dropAt 0 ?_
        refine WP.ret ?_
        refine QP.thenR ?_
        obtain rfl := Option.some.inj h
        exact QP.returned [6] [.bool false] _ (by kernel_rfl) (by kernel_rfl) (by kernel_rfl) (fun W hI => ⟨_, _, _, rfl, ⟨rfl, rfl, rfl⟩, hI⟩)
      · replace hc := (not_not_intro (bne_eq_false_iff_eq.1 hc))
        rw [if_neg hc] at h
        have hc42 := hc
        clear hc
        refine WP.skip ?_
        refine QP.next ?_
        refine WP.pick [9, 10, 11] ?_
        refine WP.seq ?_
        refine WP.seqP [9, 10, 11, 12] (L' := [(9, .slice AR32 t30.length cR32), (10, .slice AR36 t34.length cR36), (11, .slice AR40 t38.length cR40), (12, .int .i64 0)]) (by kernel_rfl) ?_
        rw [Option.bind_eq_some_iff] at h
        obtain ⟨os43, h, hk44⟩ := h
        refine WP.cutQ (fun L' G' Γ' => ∃ s43 : Unit, Sum.inr s43 = os43 ∧ L' = [] ∧ G = G' ∧ Γ = Γ') ?_ ?_
        · skip
          refine WP.block ?_
          refine WP.pick [9, 10, 11, 12] ?_
          refine WP.loopF (fun kn46 L' G' Γ' => ∃ (y45 : Int), grapevinelaw1_TokensJoin_l0 t30 t34 t38 kn46 y45 = some os43 ∧ L' = [(9, .slice AR32 t30.length cR32), (10, .slice AR36 t34.length cR36), (11, .slice AR40 t38.length cR40), (12, .int .i64 y45)] ∧ G = G' ∧ CR40 :: CR36 :: CR32 :: Γ = Γ') ?_ k ⟨0, h, rfl, rfl, rfl⟩
          clear h
          rintro kn47 _ _ _ ⟨y45, h, rfl, rfl, rfl⟩
          cases kn47 with
          | zero => exact absurd h (by simp [grapevinelaw1_TokensJoin_l0])
          | succ kn47 =>
            simp only [grapevinelaw1_TokensJoin_l0] at h
            refine WP.seq ?_
            refine WP.seqP [9, 10, 11, 12, 55] (L' := [(9, .slice AR32 t30.length cR32), (10, .slice AR36 t34.length cR36), (11, .slice AR40 t38.length cR40), (12, .int .i64 y45), (55, .bool (decide (y45 < (t38.length : Int))))]) (by kernel_rfl) ?_
            refine WP.cond (b := decide (y45 < (t38.length : Int))) (by kernel_rfl) (fun hc => ?_) (fun hc => ?_)
            · replace hc := of_decide_eq_true hc
              rw [if_pos hc] at h
              have hc48 := hc
              clear hc
              refine WP.skip ?_
              refine QP.next ?_
              refine WP.pick [9, 10, 11, 12] ?_
              refine WP.seq ?_
              refine WP.block ?_
              refine WP.seqP [9, 10, 11, 12] (L' := [(9, .slice AR32 t30.length cR32), (10, .slice AR36 t34.length cR36), (11, .slice AR40 t38.length cR40), (12, .int .i64 y45)]) (by kernel_rfl) ?_
              refine WP.seq ?_
              refine WP.seqP [9, 10, 11, 12, 61] (L' := [(9, .slice AR32 t30.length cR32), (10, .slice AR36 t34.length cR36), (11, .slice AR40 t38.length cR40), (12, .int .i64 y45), (61, .bool (decide (y45 < (t30.length : Int))))]) (by kernel_rfl) ?_
              refine WP.cond (b := decide (y45 < (t30.length : Int))) (by kernel_rfl) (fun hc => ?_) (fun hc => ?_)
              · replace hc := of_decide_eq_true hc
                rw [if_pos hc] at h
                have hc49 := hc
                clear hc
                refine WP.region ?_
                refine WL.pure 0 2 [9, 10, 11, 12, 62, 63] (L' := [(9, .slice AR32 t30.length cR32), (10, .slice AR36 t34.length cR36), (11, .slice AR40 t38.length cR40), (12, .int .i64 y45), (62, .slice AR32 t30.length cR32), (63, .int .i64 y45)]) (by kernel_rfl) (by decide) ?_
                by_cases hb50 : 0 ≤ y45 ∧ y45 < (t30.length : Int)
                case neg => rw [if_neg hb50] at h; cases h
                rw [if_pos hb50] at h
                refine WL.tell (op := .indexAddr 56 (.tmp 62) (.tmp 63)) (ty := 0) (d := some 64) (g := none) (by kernel_rfl) (by kernel_rfl) (by kernel_rfl) (Tells.indexAddr (A := AR32) (n := t30.length) (c := cR32) (k := .i64) (j := y45) (by kernel_rfl) (by kernel_rfl) (HR32.isSome hb50.1 hb50.2) hb50.1 hb50.2 sl56) ?_
                refine WL.tell (op := .fieldAddr 64 (.tmp 64) 0) (ty := 0) (d := some 65) (g := none) (by kernel_rfl) (by kernel_rfl) (by kernel_rfl) (Tells.fieldElem (m := y45.toNat * 2) (A := AR32) (by kernel_rfl) (HR32.isSome hb50.1 hb50.2) fi64_0) ?_
                refine WL.tellE (op := .load 9 (.tmp 65)) (ty := 9) (d := some 66) (g := none) (by kernel_rfl) (by kernel_rfl) (by kernel_rfl) (HR32.loadF (i := 2) rfl (agg := false) (off := 0) hb50.1 hb50.2 z64 ag9 (fun _ => rfl) (by decide) (by kernel_rfl)) ?_
                rintro _ rfl
                refine WL.rest 5 [9, 10, 11, 12, 13] (L' := [(9, .slice AR32 t30.length cR32), (10, .slice AR36 t34.length cR36), (11, .slice AR40 t38.length cR40), (12, .int .i64 y45), (13, .string ((t30.getD y45.toNat z64).f0))]) (by kernel_rfl) ?_
                refine QP.next ?_
                refine WP.pick [9, 10, 11, 12, 13] ?_
                rw [Option.bind_eq_some_iff] at h
                obtain ⟨os51, h, hk52⟩ := h
                refine WP.cut (fun L' G' Γ' => ∃ s51 : Bool, s51 = os51 ∧ L' = [(9, .slice AR32 t30.length cR32), (10, .slice AR36 t34.length cR36), (11, .slice AR40 t38.length cR40), (12, .int .i64 y45), (90, .bool s51)] ∧ G = G' ∧ CR40 :: CR36 :: CR32 :: Γ = Γ') ?_ ?_
                · clear hk52
                  refine WP.region ?_
                  refine WL.pure 0 2 [9, 10, 11, 12, 13, 75, 76] (L' := [(9, .slice AR32 t30.length cR32), (10, .slice AR36 t34.length cR36), (11, .slice AR40 t38.length cR40), (12, .int .i64 y45), (13, .string ((t30.getD y45.toNat z64).f0)), (75, .slice AR40 t38.length cR40), (76, .int .i64 y45)]) (by kernel_rfl) (by decide) ?_
                  by_cases hb53 : 0 ≤ y45 ∧ y45 < (t38.length : Int)
                  case neg => rw [if_neg hb53] at h; cases h
                  rw [if_pos hb53] at h
                  refine WL.tell (op := .indexAddr 56 (.tmp 75) (.tmp 76)) (ty := 0) (d := some 77) (g := none) (by kernel_rfl) (by kernel_rfl) (by kernel_rfl) (Tells.indexAddr (A := AR40) (n := t38.length) (c := cR40) (k := .i64) (j := y45) (by kernel_rfl) (by kernel_rfl) (HR40.isSome hb53.1 hb53.2) hb53.1 hb53.2 sl56) ?_
                  refine WL.tell (op := .fieldAddr 64 (.tmp 77) 0) (ty := 0) (d := some 78) (g := none) (by kernel_rfl) (by kernel_rfl) (by kernel_rfl) (Tells.fieldElem (m := y45.toNat * 2) (A := AR40) (by kernel_rfl) (HR40.isSome hb53.1 hb53.2) fi64_0) ?_
                  refine WL.tellE (op := .load 9 (.tmp 78)) (ty := 9) (d := some 79) (g := none) (by kernel_rfl) (by kernel_rfl) (by kernel_rfl) (HR40.loadF (i := 0) rfl (agg := false) (off := 0) hb53.1 hb53.2 z64 ag9 (fun _ => rfl) (by decide) (by kernel_rfl)) ?_
                  rintro _ rfl
                  refine WL.pure 5 8 [9, 10, 11, 12, 82] (L' := [(9, .slice AR32 t30.length cR32), (10, .slice AR36 t34.length cR36), (11, .slice AR40 t38.length cR40), (12, .int .i64 y45), (82, .bool (!(((t38.getD y45.toNat z64).f0).toList == ((t30.getD y45.toNat z64).f0).toList)))]) (by kernel_rfl) (by decide) ?_
                  refine WL.split 82 (b := (!(((t38.getD y45.toNat z64).f0).toList == ((t30.getD y45.toNat z64).f0).toList))) (by kernel_rfl) (fun hc => ?_) (fun hc => ?_)
                  · replace hc := hc
                    rw [if_pos hc] at h
                    have hc54 := hc
                    clear hc
                    refine WL.rest 8 [9, 10, 11, 12, 90] (L' := [(9, .slice AR32 t30.length cR32), (10, .slice AR36 t34.length cR36), (11, .slice AR40 t38.length cR40), (12, .int .i64 y45), (90, .bool true)]) (by kernel_rfl) ?_
                    refine QP.pick [9, 10, 11, 12, 90] ?_
                    exact QP.meet ⟨_, Option.some.inj h, rfl, rfl, rfl⟩
                  · replace hc := (Bool.eq_false_iff.1 hc)
                    rw [if_neg hc] at h
                    have hc54 := hc
                    clear hc
                    refine WL.pure 8 10 [9, 10, 11, 12, 82, 83, 84] (L' := [(9, .slice AR32 t30.length cR32), (10, .slice AR36 t34.length cR36), (11, .slice AR40 t38.length cR40), (12, .int .i64 y45), (82, .bool false), (83, .slice AR40 t38.length cR40), (84, .int .i64 y45)]) (by kernel_rfl) (by decide) ?_
                    by_cases hb55 : 0 ≤ y45 ∧ y45 < (t38.length : Int)
                    case neg => rw [if_neg hb55] at h; cases h
                    rw [if_pos hb55] at h
                    refine WL.tell (op := .indexAddr 56 (.tmp 83) (.tmp 84)) (ty := 0) (d := some 85) (g := some (7, false)) (by kernel_rfl) (by kernel_rfl) (by kernel_rfl) (Tells.indexAddr (A := AR40) (n := t38.length) (c := cR40) (k := .i64) (j := y45) (by kernel_rfl) (by kernel_rfl) (HR40.isSome hb55.1 hb55.2) hb55.1 hb55.2 sl56) ?_
                    refine WL.tell (op := .fieldAddr 64 (.tmp 85) 1) (ty := 0) (d := some 86) (g := some (7, false)) (by kernel_rfl) (by kernel_rfl) (by kernel_rfl) (Tells.fieldElem (m := y45.toNat * 2) (A := AR40) (by kernel_rfl) (HR40.isSome hb55.1 hb55.2) fi64_1) ?_
                    refine WL.tellE (op := .load 3 (.tmp 86)) (ty := 3) (d := some 87) (g := some (7, false)) (by kernel_rfl) (by kernel_rfl) (by kernel_rfl) (HR40.loadF (i := 0) rfl (agg := false) (off := 1) hb55.1 hb55.2 z64 ag3 (fun _ => rfl) (by decide) (by kernel_rfl)) ?_
                    rintro _ rfl
                    refine WL.rest 13 [9, 10, 11, 12, 90] (L' := [(9, .slice AR32 t30.length cR32), (10, .slice AR36 t34.length cR36), (11, .slice AR40 t38.length cR40), (12, .int .i64 y45), (90, .bool (((t38.getD y45.toNat z64).f1) != y45))]) (by kernel_rfl) ?_
                    refine QP.pick [9, 10, 11, 12, 90] ?_
                    exact QP.meet ⟨_, Option.some.inj h, rfl, rfl, rfl⟩
                · rintro _ _ _ ⟨s51, rfl, rfl, rfl, rfl⟩
                  clear h
                  replace h := hk52
                  refine WP.cond (b := s51) (by kernel_rfl) (fun hc => ?_) (fun hc => ?_)
                  · replace hc := hc
                    rw [if_pos hc] at h
                    have hc56 := hc
                    clear hc
                    refine WP.seqP [6] (L' := [(6, .bool false)]) (by kernel_rfl) ?_
                    refine WP.dropAt 2 ?_
                    refine WP.dropAt 1 ?_
                    refine WP.dropAt 0 ?_
                    refine WP.ret ?_
                    refine QP.blockR ?_
                    refine QP.thenR ?_
                    refine QP.thenR ?_
                    refine QP.blockR ?_
                    refine QP.thenR ?_
                    refine QP.thenR ?_
                    obtain rfl := Option.some.inj h
                    obtain rfl := Option.some.inj (show some _ = some _ from hk44)
                    exact QP.returned [6] [.bool false] _ (by kernel_rfl) (by kernel_rfl) (by kernel_rfl) (fun W hI => ⟨_, _, _, rfl, ⟨rfl, rfl, rfl⟩, hI⟩)
                  · replace hc := (Bool.eq_false_iff.1 hc)
                    rw [if_neg hc] at h
                    have hc56 := hc
                    clear hc
                    refine WP.skip ?_
                    refine QP.blockN ?_
                    refine QP.next ?_
                    refine WP.pick [9, 10, 11, 12] ?_
                    refine WP.regionP [9, 10, 11, 12] (L' := [(9, .slice AR32 t30.length cR32), (10, .slice AR36 t34.length cR36), (11, .slice AR40 t38.length cR40), (12, .int .i64 (IntKind.i64.wrap (y45 + 1)))]) (by kernel_rfl) ?_
                    refine QP.front (i := 2) rfl ?_
                    refine QP.front (i := 2) rfl ?_
                    refine QP.front (i := 2) rfl ?_
                    refine QP.pick [9, 10, 11, 12] ?_
                    exact QP.meet ⟨kn47, Nat.lt_succ_self _, (IntKind.i64.wrap (y45 + 1)), h, rfl, rfl, rfl⟩
              · replace hc := of_decide_eq_false hc
                rw [if_neg hc] at h
                have hc49 := hc
                clear hc
                refine WP.region ?_
                refine WL.pure 0 5 [9, 10, 11, 12, 67, 71] (L' := [(9, .slice AR32 t30.length cR32), (10, .slice AR36 t34.length cR36), (11, .slice AR40 t38.length cR40), (12, .int .i64 y45), (67, .slice AR36 t34.length cR36), (71, .int .i64 (IntKind.i64.wrap (y45 - (t30.length : Int))))]) (by kernel_rfl) (by decide) ?_
                by_cases hb57 : 0 ≤ (IntKind.i64.wrap (y45 - (t30.length : Int))) ∧ (IntKind.i64.wrap (y45 - (t30.length : Int))) < (t34.length : Int)
                case neg => rw [if_neg hb57] at h; cases h
                rw [if_pos hb57] at h
                refine WL.tell (op := .indexAddr 56 (.tmp 67) (.tmp 71)) (ty := 0) (d := some 72) (g := none) (by kernel_rfl) (by kernel_rfl) (by kernel_rfl) (Tells.indexAddr (A := AR36) (n := t34.length) (c := cR36) (k := .i64) (j := (IntKind.i64.wrap (y45 - (t30.length : Int)))) (by kernel_rfl) (by kernel_rfl) (HR36.isSome hb57.1 hb57.2) hb57.1 hb57.2 sl56) ?_
                refine WL.tell (op := .fieldAddr 64 (.tmp 72) 0) (ty := 0) (d := some 73) (g := none) (by kernel_rfl) (by kernel_rfl) (by kernel_rfl) (Tells.fieldElem (m := (IntKind.i64.wrap (y45 - (t30.length : Int))).toNat * 2) (A := AR36) (by kernel_rfl) (HR36.isSome hb57.1 hb57.2) fi64_0) ?_
                refine WL.tellE (op := .load 9 (.tmp 73)) (ty := 9) (d := some 74) (g := none) (by kernel_rfl) (by kernel_rfl) (by kernel_rfl) (HR36.loadF (i := 1) rfl (agg := false) (off := 0) hb57.1 hb57.2 z64 ag9 (fun _ => rfl) (by decide) (by kernel_rfl)) ?_
                rintro _ rfl
                refine WL.rest 8 [9, 10, 11, 12, 13] (L' := [(9, .slice AR32 t30.length cR32), (10, .slice AR36 t34.length cR36), (11, .slice AR40 t38.length cR40), (12, .int .i64 y45), (13, .string ((t34.getD (IntKind.i64.wrap (y45 - (t30.length : Int))).toNat z64).f0))]) (by kernel_rfl) ?_
                refine QP.next ?_
                refine WP.pick [9, 10, 11, 12, 13] ?_
                rw [Option.bind_eq_some_iff] at h
                obtain ⟨os58, h, hk59⟩ := h
                refine WP.cut (fun L' G' Γ' => ∃ s58 : Bool, s58 = os58 ∧ L' = [(9, .slice AR32 t30.length cR32), (10, .slice AR36 t34.length cR36), (11, .slice AR40 t38.length cR40), (12, .int .i64 y45), (90, .bool s58)] ∧ G = G' ∧ CR40 :: CR36 :: CR32 :: Γ = Γ') ?_ ?_
                · clear hk59
                  refine WP.region ?_
                  refine WL.pure 0 2 [9, 10, 11, 12, 13, 75, 76] (L' := [(9, .slice AR32 t30.length cR32), (10, .slice AR36 t34.length cR36), (11, .slice AR40 t38.length cR40), (12, .int .i64 y45), (13, .string ((t34.getD (IntKind.i64.wrap (y45 - (t30.length : Int))).toNat z64).f0)), (75, .slice AR40 t38.length cR40), (76, .int .i64 y45)]) (by kernel_rfl) (by decide) ?_
                  by_cases hb60 : 0 ≤ y45 ∧ y45 < (t38.length : Int)
                  case neg => rw [if_neg hb60] at h; cases h
                  rw [if_pos hb60] at h
                  refine WL.tell (op := .indexAddr 56 (.tmp 75) (.tmp 76)) (ty := 0) (d := some 77) (g := none) (by kernel_rfl) (by kernel_rfl) (by kernel_rfl) (Tells.indexAddr (A := AR40) (n := t38.length) (c := cR40) (k := .i64) (j := y45) (by kernel_rfl) (by kernel_rfl) (HR40.isSome hb60.1 hb60.2) hb60.1 hb60.2 sl56) ?_
                  refine WL.tell (op := .fieldAddr 64 (.tmp 77) 0) (ty := 0) (d := some 78) (g := none) (by kernel_rfl) (by kernel_rfl) (by kernel_rfl) (Tells.fieldElem (m := y45.toNat * 2) (A := AR40) (by kernel_rfl) (HR40.isSome hb60.1 hb60.2) fi64_0) ?_
                  refine WL.tellE (op := .load 9 (.tmp 78)) (ty := 9) (d := some 79) (g := none) (by kernel_rfl) (by kernel_rfl) (by kernel_rfl) (HR40.loadF (i := 0) rfl (agg := false) (off := 0) hb60.1 hb60.2 z64 ag9 (fun _ => rfl) (by decide) (by kernel_rfl)) ?_
                  rintro _ rfl
                  refine WL.pure 5 8 [9, 10, 11, 12, 82] (L' := [(9, .slice AR32 t30.length cR32), (10, .slice AR36 t34.length cR36), (11, .slice AR40 t38.length cR40), (12, .int .i64 y45), (82, .bool (!(((t38.getD y45.toNat z64).f0).toList == ((t34.getD (IntKind.i64.wrap (y45 - (t30.length : Int))).toNat z64).f0).toList)))]) (by kernel_rfl) (by decide) ?_
                  refine WL.split 82 (b := (!(((t38.getD y45.toNat z64).f0).toList == ((t34.getD (IntKind.i64.wrap (y45 - (t30.length : Int))).toNat z64).f0).toList))) (by kernel_rfl) (fun hc => ?_) (fun hc => ?_)
                  · replace hc := hc
                    rw [if_pos hc] at h
                    have hc61 := hc
                    clear hc
                    refine WL.rest 8 [9, 10, 11, 12, 90] (L' := [(9, .slice AR32 t30.length cR32), (10, .slice AR36 t34.length cR36), (11, .slice AR40 t38.length cR40), (12, .int .i64 y45), (90, .bool true)]) (by kernel_rfl) ?_
                    refine QP.pick [9, 10, 11, 12, 90] ?_
                    exact QP.meet ⟨_, Option.some.inj h, rfl, rfl, rfl⟩
                  · replace hc := (Bool.eq_false_iff.1 hc)
                    rw [if_neg hc] at h
                    have hc61 := hc
                    clear hc
                    refine WL.pure 8 10 [9, 10, 11, 12, 82, 83, 84] (L' := [(9, .slice AR32 t30.length cR32), (10, .slice AR36 t34.length cR36), (11, .slice AR40 t38.length cR40), (12, .int .i64 y45), (82, .bool false), (83, .slice AR40 t38.length cR40), (84, .int .i64 y45)]) (by kernel_rfl) (by decide) ?_
                    by_cases hb62 : 0 ≤ y45 ∧ y45 < (t38.length : Int)
                    case neg => rw [if_neg hb62] at h; cases h
                    rw [if_pos hb62] at h
                    refine WL.tell (op := .indexAddr 56 (.tmp 83) (.tmp 84)) (ty := 0) (d := some 85) (g := some (7, false)) (by kernel_rfl) (by kernel_rfl) (by kernel_rfl) (Tells.indexAddr (A := AR40) (n := t38.length) (c := cR40) (k := .i64) (j := y45) (by kernel_rfl) (by kernel_rfl) (HR40.isSome hb62.1 hb62.2) hb62.1 hb62.2 sl56) ?_
                    refine WL.tell (op := .fieldAddr 64 (.tmp 85) 1) (ty := 0) (d := some 86) (g := some (7, false)) (by kernel_rfl) (by kernel_rfl) (by kernel_rfl) (Tells.fieldElem (m := y45.toNat * 2) (A := AR40) (by kernel_rfl) (HR40.isSome hb62.1 hb62.2) fi64_1) ?_
                    refine WL.tellE (op := .load 3 (.tmp 86)) (ty := 3) (d := some 87) (g := some (7, false)) (by kernel_rfl) (by kernel_rfl) (by kernel_rfl) (HR40.loadF (i := 0) rfl (agg := false) (off := 1) hb62.1 hb62.2 z64 ag3 (fun _ => rfl) (by decide) (by kernel_rfl)) ?_
                    rintro _ rfl
                    refine WL.rest 13 [9, 10, 11, 12, 90] (L' := [(9, .slice AR32 t30.length cR32), (10, .slice AR36 t34.length cR36), (11, .slice AR40 t38.length cR40), (12, .int .i64 y45), (90, .bool (((t38.getD y45.toNat z64).f1) != y45))]) (by kernel_rfl) ?_
                    refine QP.pick [9, 10, 11, 12, 90] ?_
                    exact QP.meet ⟨_, Option.some.inj h, rfl, rfl, rfl⟩
                · rintro _ _ _ ⟨s58, rfl, rfl, rfl, rfl⟩
                  clear h
                  replace h := hk59
                  refine WP.cond (b := s58) (by kernel_rfl) (fun hc => ?_) (fun hc => ?_)
                  · replace hc := hc
                    rw [if_pos hc] at h
                    have hc63 := hc
                    clear hc
                    refine WP.seqP [6] (L' := [(6, .bool false)]) (by kernel_rfl) ?_
                    refine WP.dropAt 2 ?_
                    refine WP.dropAt 1 ?_
                    refine WP.dropAt 0 ?_
                    refine WP.ret ?_
                    refine QP.blockR ?_
                    refine QP.thenR ?_
                    refine QP.thenR ?_
                    refine QP.blockR ?_
                    refine QP.thenR ?_
                    refine QP.thenR ?_
                    obtain rfl := Option.some.inj h
                    obtain rfl := Option.some.inj (show some _ = some _ from hk44)
                    exact QP.returned [6] [.bool false] _ (by kernel_rfl) (by kernel_rfl) (by kernel_rfl) (fun W hI => ⟨_, _, _, rfl, ⟨rfl, rfl, rfl⟩, hI⟩)
                  · replace hc := (Bool.eq_false_iff.1 hc)
                    rw [if_neg hc] at h
                    have hc63 := hc
                    clear hc
                    refine WP.skip ?_
                    refine QP.blockN ?_
                    refine QP.next ?_
                    refine WP.pick [9, 10, 11, 12] ?_
                    refine WP.regionP [9, 10, 11, 12] (L' := [(9, .slice AR32 t30.length cR32), (10, .slice AR36 t34.length cR36), (11, .slice AR40 t38.length cR40), (12, .int .i64 (IntKind.i64.wrap (y45 + 1)))]) (by kernel_rfl) ?_
                    refine QP.front (i := 2) rfl ?_
                    refine QP.front (i := 2) rfl ?_
                    refine QP.front (i := 2) rfl ?_
                    refine QP.pick [9, 10, 11, 12] ?_
                    exact QP.meet ⟨kn47, Nat.lt_succ_self _, (IntKind.i64.wrap (y45 + 1)), h, rfl, rfl, rfl⟩
            · replace hc := of_decide_eq_false hc
              rw [if_neg hc] at h
              have hc48 := hc
              clear hc
              refine WP.exit ?_
              refine QP.thenE ?_
              refine QP.thenE ?_
              refine QP.blockE ?_
              refine QP.dropAt 2 ?_
              refine QP.dropAt 1 ?_
              refine QP.dropAt 0 ?_
              refine QP.pick [] ?_
              exact QP.meet ⟨_, Option.some.inj h, rfl, rfl, rfl⟩
        · rintro _ _ _ ⟨s43, rfl, rfl, rfl, rfl⟩
          clear h
          replace h := hk44
          dsimp only at h
          refine QP.next ?_
          refine WP.pick [] ?_
          refine WP.seqR ?_
          rw [Option.bind_eq_some_iff] at h
          obtain ⟨t64, ht65, h⟩ := h
          refine WL.op (op := .call { callee := (.value (.func 39)), args := #[], argTypes := #[] }) (ty := 4) (d := some 91) (g := none) (by kernel_rfl) (by kernel_rfl) (by kernel_rfl) (Does.call (f := 39) (args := []) (by kernel_rfl) (fun W hI => (grapevinelaw1_awake_calls HT k   t64 ht65 hI))) ?_
          rintro _ _ _ ⟨rfl, rfl, rfl⟩
          refine WL.restQ 1 [6] (L' := [(6, .bool t64)]) (by kernel_rfl) ?_
          refine WP.ret ?_
          obtain rfl := Option.some.inj h
          exact QP.returned [6] [.bool t64] _ (by kernel_rfl) (by kernel_rfl) (by kernel_rfl) (fun W hI => ⟨_, _, _, rfl, ⟨rfl, rfl, rfl⟩, hI⟩)
/-- The plain law. -/
def TokensJoin_Pure : Prop := ∀ (a0 : ByteArray) (a1 : ByteArray) (a2 : Int), a0.size ≤ 140737488351232 → a1.size ≤ 140737488351232 → (Lit.int .i64 a2).wf = true → ∃ k, grapevinelaw1_TokensJoin k a0 a1 a2 = some true
end Go.Proofs.YtjmhhmljldjmjaaDoor.Gf
