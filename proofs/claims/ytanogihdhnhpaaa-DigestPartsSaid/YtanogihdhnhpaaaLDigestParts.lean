/- Walks of Go functions: what each tells, as a plain Lean function, and that the Go code comes to it. Written by gg.py of this repo. -/
import Derived.Test.YtanogihdhnhpaaaT
import Derived.Test.YtanogihdhnhpaaaF0
namespace Go.Proofs.Ytanogihdhnhpaaa.Gf
open Go Go.Gg
set_option maxRecDepth 100000
set_option linter.unusedVariables false
set_option linter.unusedSimpArgs false

/-! ### grapevine/grapevinelaw5.DigestParts: function 4 -/
def grapevinelaw5_DigestParts (k : Nat) (l0 : List Int) (a1 : Int) (a2 : Int) (a3 : Int) : Option Bool := (if (l0.length : Int) > 300 then ((grapevinelaw5_awake k ).bind fun t2 => some t2) else ((grapevinelaw0_Low a1 (IntKind.i64.wrap ((l0.length : Int) + 1))).bind fun t4 => ((grapevinelaw0_Low a2 (IntKind.i64.wrap ((l0.length : Int) + 1))).bind fun t6 => ((digest_Of k ([l0] : List (List Int))).bind fun t11 => (if 0 ≤ (0 : Int) ∧ (0 : Int) ≤ (if t6 < t4 then t6 else t4) ∧ (if t6 < t4 then t6 else t4) ≤ (l0.length : Int) then (if 0 ≤ (if t6 < t4 then t6 else t4) ∧ (if t6 < t4 then t6 else t4) ≤ (if t6 > t4 then t6 else t4) ∧ (if t6 > t4 then t6 else t4) ≤ (l0.length : Int) then (if 0 ≤ (if t6 > t4 then t6 else t4) ∧ (if t6 > t4 then t6 else t4) ≤ (l0.length : Int) ∧ (l0.length : Int) ≤ (l0.length : Int) then ((digest_Of k ([((l0.take (if t6 < t4 then t6 else t4).toNat).drop (0 : Int).toNat), ((l0.take (if t6 > t4 then t6 else t4).toNat).drop (if t6 < t4 then t6 else t4).toNat), ([] : List Int), ((l0.take (l0.length : Int).toNat).drop (if t6 > t4 then t6 else t4).toNat)] : List (List Int))).bind fun t23 => (if ¬ t23 = t11 then some false else ((if (l0.length : Int) = 0 then some true else some (a3 == 0)).bind fun s27 => (if s27 = true then ((grapevinelaw5_awake k ).bind fun t31 => some t31) else (if ([] : List Int).length + l0.length ≤ 1073741824 then ((grapevinelaw0_Low t4 (l0.length : Int)).bind fun t35 => (if 0 ≤ t35 ∧ t35 < ((([] : List Int) ++ l0).length : Int) then (if 0 ≤ t35 ∧ t35 < ((([] : List Int) ++ l0).length : Int) then (((digest_Of k ([((([] : List Int) ++ l0).set t35.toNat (Go.bits .xor .u8 ((([] : List Int) ++ l0).getD t35.toNat 0) a3))] : List (List Int))).bind fun t50 => (if ¬ t50 = t11 then ((grapevinelaw5_awake k ).bind fun t54 => some t54) else some false)).bind fun s41 => some s41) else none) else none)) else none))))) else none) else none) else none)))))
set_option maxHeartbeats 4000000 in
theorem grapevinelaw5_DigestParts_calls {B : World} {G : GMap} {Γ : List Chunk} {W : World} (k : Nat) (l0 : List Int) (a1 : Int) (a2 : Int) (a3 : Int) (Al0 : Option Addr) (cl0 : Nat) (Hl0 : Rd (kInt .u8) G Al0 cl0 l0) (r : Bool) (h : grapevinelaw5_DigestParts k l0 a1 a2 a3 = some r) (hI : Inv B G (Γ) W) :
    Calls Try.prog 4 [.slice Al0 l0.length cl0, .int .i64 a1, .int .i64 a2, .int .u8 a3].toArray W (Ret B (fun v G' Γ' => v = .bool r ∧ G = G' ∧ Γ = Γ')) := by
  refine calls_WP (Γ := Γ) (G := G) (B := B) Try.func4 rfl (by kernel_rfl) ?_ hI
  clear hI
  unfold grapevinelaw5_DigestParts at h
  refine WP.seqP [0, 1, 2, 3] (L' := [(0, .slice Al0 l0.length cl0), (1, .int .i64 a1), (2, .int .i64 a2), (3, .int .u8 a3)]) (by kernel_rfl) ?_
  refine WP.seq ?_
  refine WP.seqP [0, 1, 2, 3, 16] (L' := [(0, .slice Al0 l0.length cl0), (1, .int .i64 a1), (2, .int .i64 a2), (3, .int .u8 a3), (16, .bool (decide ((l0.length : Int) > 300)))]) (by kernel_rfl) ?_
  refine WP.cond (b := decide ((l0.length : Int) > 300)) (by kernel_rfl) (fun hc => ?_) (fun hc => ?_)
  · replace hc := of_decide_eq_true hc
    rw [if_pos hc] at h
    have hc1 := hc
    clear hc
    refine WP.seqR ?_
    rw [Option.bind_eq_some_iff] at h
    obtain ⟨t2, ht3, h⟩ := h
    refine WL.op (op := .call { callee := (.value (.func 12)), args := #[], argTypes := #[] }) (ty := 4) (d := some 17) (g := none) (by kernel_rfl) (by kernel_rfl) (by kernel_rfl) (Does.call (f := 12) (args := []) (by kernel_rfl) (fun W hI => (grapevinelaw5_awake_calls k   t2 ht3 hI))) ?_
    rintro _ _ _ ⟨rfl, rfl, rfl⟩
    refine WL.restQ 1 [8] (L' := [(8, .bool t2)]) (by kernel_rfl) ?_
    refine WP.ret ?_
    refine QP.thenR ?_
    obtain rfl := Option.some.inj h
    exact QP.returned [8] [.bool t2] _ (by kernel_rfl) (by kernel_rfl) (by kernel_rfl) (fun W hI => ⟨_, _, _, rfl, ⟨rfl, rfl, rfl⟩, hI⟩)
  · replace hc := of_decide_eq_false hc
    rw [if_neg hc] at h
    have hc1 := hc
    clear hc
    refine WP.skip ?_
    refine QP.next ?_
    refine WP.pick [0, 1, 2, 3] ?_
    refine WP.seqR ?_
    refine WL.pure 0 4 [0, 1, 2, 3, 18, 21] (L' := [(0, .slice Al0 l0.length cl0), (1, .int .i64 a1), (2, .int .i64 a2), (3, .int .u8 a3), (18, .int .i64 a1), (21, .int .i64 (IntKind.i64.wrap ((l0.length : Int) + 1)))]) (by kernel_rfl) (by decide) ?_
    rw [Option.bind_eq_some_iff] at h
    obtain ⟨t4, ht5, h⟩ := h
    refine WL.op (op := .call { callee := (.value (.func 17)), args := #[(.tmp 18), (.tmp 21)], argTypes := #[3, 3] }) (ty := 3) (d := some 22) (g := none) (by kernel_rfl) (by kernel_rfl) (by kernel_rfl) (Does.call (f := 17) (args := [.int .i64 a1, .int .i64 (IntKind.i64.wrap ((l0.length : Int) + 1))]) (by kernel_rfl) (fun W hI => (grapevinelaw0_Low_calls a1 (IntKind.i64.wrap ((l0.length : Int) + 1))  t4 ht5 hI))) ?_
    rintro _ _ _ ⟨rfl, rfl, rfl⟩
    refine WL.pure 5 9 [0, 1, 2, 3, 22, 23, 26] (L' := [(0, .slice Al0 l0.length cl0), (1, .int .i64 a1), (2, .int .i64 a2), (3, .int .u8 a3), (22, .int .i64 t4), (23, .int .i64 a2), (26, .int .i64 (IntKind.i64.wrap ((l0.length : Int) + 1)))]) (by kernel_rfl) (by decide) ?_
    rw [Option.bind_eq_some_iff] at h
    obtain ⟨t6, ht7, h⟩ := h
    refine WL.op (op := .call { callee := (.value (.func 17)), args := #[(.tmp 23), (.tmp 26)], argTypes := #[3, 3] }) (ty := 3) (d := some 27) (g := none) (by kernel_rfl) (by kernel_rfl) (by kernel_rfl) (Does.call (f := 17) (args := [.int .i64 a2, .int .i64 (IntKind.i64.wrap ((l0.length : Int) + 1))]) (by kernel_rfl) (fun W hI => (grapevinelaw0_Low_calls a2 (IntKind.i64.wrap ((l0.length : Int) + 1))  t6 ht7 hI))) ?_
    rintro _ _ _ ⟨rfl, rfl, rfl⟩
    refine WL.restQ 10 [0, 1, 2, 3] (L' := [(0, .slice Al0 l0.length cl0), (1, .int .i64 t4), (2, .int .i64 t6), (3, .int .u8 a3)]) (by kernel_rfl) ?_
    refine WP.seqP [0, 1, 3, 9, 10] (L' := [(0, .slice Al0 l0.length cl0), (1, .int .i64 t4), (3, .int .u8 a3), (9, .int .i64 (if t6 < t4 then t6 else t4)), (10, .int .i64 (if t6 > t4 then t6 else t4))]) (by kernel_rfl) ?_
    refine WP.seqR ?_
    refine WL.pure 0 1 [0, 1, 3, 9, 10, 34] (L' := [(0, .slice Al0 l0.length cl0), (1, .int .i64 t4), (3, .int .u8 a3), (9, .int .i64 (if t6 < t4 then t6 else t4)), (10, .int .i64 (if t6 > t4 then t6 else t4)), (34, .slice Al0 l0.length cl0)]) (by kernel_rfl) (by decide) ?_
    refine WL.op (op := .buildSlice 22 1 #[(0, (.tmp 34))]) (ty := 22) (d := some 35) (g := none) (by kernel_rfl) (by kernel_rfl) (by kernel_rfl) (Does.new (o := .cells #[.slice Al0 l0.length cl0] 32 (0, 0)) (v := fun r => .slice (some ⟨r, 0, none⟩) 1 1) (fun r => by kernel_rfl)) ?_
    rintro _ _ _ ⟨b8, rfl, rfl, rfl⟩
    have Ho10 : Ow (kSlice (kInt .u8)) G (some ⟨b8, 0, none⟩) 1 ([l0] : List (List Int)) [(b8, .cells #[.slice Al0 l0.length cl0] 32 (0, 0))] := Ow.lit (kd := (kSlice (kInt .u8))) (G := G) (b := b8) (T := 32) (xs := ([l0] : List (List Int))) (cs := [.slice Al0 l0.length cl0]) (.cons (x := l0) (cs := [.slice Al0 l0.length cl0]) ⟨Al0, cl0, rfl, Hl0⟩ .nil)
    rw [Option.bind_eq_some_iff] at h
    obtain ⟨t11, ht12, h⟩ := h
    refine WL.op (op := .call { callee := (.value (.func 13)), args := #[(.tmp 35)], argTypes := #[22] }) (ty := 26) (d := some 36) (g := none) (by kernel_rfl) (by kernel_rfl) (by kernel_rfl) (Does.call (Φ := fun v' G' Γ' => v' = .int .u64 t11 ∧ G = G' ∧ [(b8, .cells #[.slice Al0 l0.length cl0] 32 (0, 0))] :: Γ = Γ') (f := 13) (args := [.slice (some ⟨b8, 0, none⟩) ([l0] : List (List Int)).length 1]) (by kernel_rfl) (fun W hI => Calls.lend (i := 0) rfl (Ow.nodup Ho10) hI (fun _ e l13 hI => by subst e; exact (digest_Of_calls k ([l0] : List (List Int)) (some ⟨b8, 0, none⟩) 1 (Ho10.rd l13) t11 ht12 hI)))) ?_
    rintro _ _ _ ⟨rfl, rfl, rfl⟩
    refine WL.restQ 3 [0, 1, 3, 9, 10, 11] (L' := [(0, .slice Al0 l0.length cl0), (1, .int .i64 t4), (3, .int .u8 a3), (9, .int .i64 (if t6 < t4 then t6 else t4)), (10, .int .i64 (if t6 > t4 then t6 else t4)), (11, .int .u64 t11)]) (by kernel_rfl) ?_
    refine WP.seq ?_
    refine WP.seq ?_
    refine WP.any (G0 := G) (Γ0 := [(b8, .cells #[.slice Al0 l0.length cl0] 32 (0, 0))] :: Γ) mo ?_
    refine WA.pure [0, 1, 3, 4, 5, 7, 8, 12] [0, 1, 3, 11, 37, 38, 40, 41, 42, 44, 45, 49] (m := 6) (done' := #[true, true, false, true, true, true, false, true, true, false, false, false, true, false]) (L' := [(0, .slice Al0 l0.length cl0), (1, .int .i64 t4), (3, .int .u8 a3), (11, .int .u64 t11), (37, .slice Al0 l0.length cl0), (38, .int .i64 (if t6 < t4 then t6 else t4)), (40, .slice Al0 l0.length cl0), (41, .int .i64 (if t6 < t4 then t6 else t4)), (42, .int .i64 (if t6 > t4 then t6 else t4)), (44, .slice Al0 l0.length cl0), (45, .int .i64 (if t6 > t4 then t6 else t4)), (49, .int .u64 t11)]) (by kernel_rfl) (by repeat (first | exact NoPanic.body | refine NoPanic.then ?_ | refine NoPanic.block ?_)) Under.refl (by kernel_rfl) ?_
    by_cases hb14 : 0 ≤ (0 : Int) ∧ (0 : Int) ≤ (if t6 < t4 then t6 else t4) ∧ (if t6 < t4 then t6 else t4) ≤ (l0.length : Int)
    case neg => rw [if_neg hb14] at h; cases h
    rw [if_pos hb14] at h
    refine WA.tellS (i := 2) (m := 5) (by kernel_rfl) (by repeat (first | exact NoPanic.body | refine NoPanic.then ?_ | refine NoPanic.block ?_)) Under.refl (by kernel_rfl) (op := .slice 32 (.tmp 37) none (some (.tmp 38)) none) (ty := 32) (d := some 39) (g := none) (by kernel_rfl) (by kernel_rfl) (by kernel_rfl) (Hl0.slice (l := 0) (h := (if t6 < t4 then t6 else t4)) (by kernel_rfl) rfl ⟨.i64, by kernel_rfl⟩ hb14.1 hb14.2.1 hb14.2.2 sl32) ?_
    rintro AP15 cP15 HP15
    by_cases hb16 : 0 ≤ (if t6 < t4 then t6 else t4) ∧ (if t6 < t4 then t6 else t4) ≤ (if t6 > t4 then t6 else t4) ∧ (if t6 > t4 then t6 else t4) ≤ (l0.length : Int)
    case neg => rw [if_neg hb16] at h; cases h
    rw [if_pos hb16] at h
    refine WA.tellS (i := 6) (m := 4) (by kernel_rfl) (by repeat (first | exact NoPanic.body | refine NoPanic.then ?_ | refine NoPanic.block ?_)) Under.refl (by kernel_rfl) (op := .slice 32 (.tmp 40) (some (.tmp 41)) (some (.tmp 42)) none) (ty := 32) (d := some 43) (g := none) (by kernel_rfl) (by kernel_rfl) (by kernel_rfl) (Hl0.slice (l := (if t6 < t4 then t6 else t4)) (h := (if t6 > t4 then t6 else t4)) (by kernel_rfl) ⟨.i64, by kernel_rfl⟩ ⟨.i64, by kernel_rfl⟩ hb16.1 hb16.2.1 hb16.2.2 sl32) ?_
    rintro AP17 cP17 HP17
    by_cases hb18 : 0 ≤ (if t6 > t4 then t6 else t4) ∧ (if t6 > t4 then t6 else t4) ≤ (l0.length : Int) ∧ (l0.length : Int) ≤ (l0.length : Int)
    case neg => rw [if_neg hb18] at h; cases h
    rw [if_pos hb18] at h
    refine WA.tellS (i := 9) (m := 3) (by kernel_rfl) (by repeat (first | exact NoPanic.body | refine NoPanic.then ?_ | refine NoPanic.block ?_)) Under.refl (by kernel_rfl) (op := .slice 32 (.tmp 44) (some (.tmp 45)) none none) (ty := 32) (d := some 46) (g := none) (by kernel_rfl) (by kernel_rfl) (by kernel_rfl) (Hl0.slice (l := (if t6 > t4 then t6 else t4)) (h := (l0.length : Int)) (by kernel_rfl) ⟨.i64, by kernel_rfl⟩ rfl hb18.1 hb18.2.1 hb18.2.2 sl32) ?_
    rintro AP19 cP19 HP19
    refine WA.op (i := 10) (m := 2) (by kernel_rfl) (by kernel_rfl) (op := .buildSlice 22 4 #[(0, (.tmp 39)), (1, (.tmp 43)), (2, (.const (.slice none 0 0))), (3, (.tmp 46))]) (ty := 22) (d := some 47) (g := none) (by kernel_rfl) (by kernel_rfl) (by kernel_rfl) (Does.new (o := .cells #[.slice AP15 ((l0.take (if t6 < t4 then t6 else t4).toNat).drop (0 : Int).toNat).length cP15, .slice AP17 ((l0.take (if t6 > t4 then t6 else t4).toNat).drop (if t6 < t4 then t6 else t4).toNat).length cP17, .slice none 0 0, .slice AP19 ((l0.take (l0.length : Int).toNat).drop (if t6 > t4 then t6 else t4).toNat).length cP19] 32 (0, 0)) (v := fun r => .slice (some ⟨r, 0, none⟩) 4 4) (fun r => by kernel_rfl)) ?_
    rintro _ _ _ ⟨b20, rfl, rfl, rfl⟩
    refine ⟨_, _, Under.cons Under.refl, Under.refl, ?_⟩
    have Ho22 : Ow (kSlice (kInt .u8)) G (some ⟨b20, 0, none⟩) 4 ([((l0.take (if t6 < t4 then t6 else t4).toNat).drop (0 : Int).toNat), ((l0.take (if t6 > t4 then t6 else t4).toNat).drop (if t6 < t4 then t6 else t4).toNat), ([] : List Int), ((l0.take (l0.length : Int).toNat).drop (if t6 > t4 then t6 else t4).toNat)] : List (List Int)) [(b20, .cells #[.slice AP15 ((l0.take (if t6 < t4 then t6 else t4).toNat).drop (0 : Int).toNat).length cP15, .slice AP17 ((l0.take (if t6 > t4 then t6 else t4).toNat).drop (if t6 < t4 then t6 else t4).toNat).length cP17, .slice none 0 0, .slice AP19 ((l0.take (l0.length : Int).toNat).drop (if t6 > t4 then t6 else t4).toNat).length cP19] 32 (0, 0))] := Ow.lit (kd := (kSlice (kInt .u8))) (G := G) (b := b20) (T := 32) (xs := ([((l0.take (if t6 < t4 then t6 else t4).toNat).drop (0 : Int).toNat), ((l0.take (if t6 > t4 then t6 else t4).toNat).drop (if t6 < t4 then t6 else t4).toNat), ([] : List Int), ((l0.take (l0.length : Int).toNat).drop (if t6 > t4 then t6 else t4).toNat)] : List (List Int))) (cs := [.slice AP15 ((l0.take (if t6 < t4 then t6 else t4).toNat).drop (0 : Int).toNat).length cP15, .slice AP17 ((l0.take (if t6 > t4 then t6 else t4).toNat).drop (if t6 < t4 then t6 else t4).toNat).length cP17, .slice none 0 0, .slice AP19 ((l0.take (l0.length : Int).toNat).drop (if t6 > t4 then t6 else t4).toNat).length cP19]) (.cons (x := ((l0.take (if t6 < t4 then t6 else t4).toNat).drop (0 : Int).toNat)) (cs := [.slice AP15 ((l0.take (if t6 < t4 then t6 else t4).toNat).drop (0 : Int).toNat).length cP15]) ⟨AP15, cP15, rfl, HP15⟩ (.cons (x := ((l0.take (if t6 > t4 then t6 else t4).toNat).drop (if t6 < t4 then t6 else t4).toNat)) (cs := [.slice AP17 ((l0.take (if t6 > t4 then t6 else t4).toNat).drop (if t6 < t4 then t6 else t4).toNat).length cP17]) ⟨AP17, cP17, rfl, HP17⟩ (.cons (x := ([] : List Int)) (cs := [.slice none 0 0]) ⟨none, 0, rfl, (Rd.nil _ _ _ _)⟩ (.cons (x := ((l0.take (l0.length : Int).toNat).drop (if t6 > t4 then t6 else t4).toNat)) (cs := [.slice AP19 ((l0.take (l0.length : Int).toNat).drop (if t6 > t4 then t6 else t4).toNat).length cP19]) ⟨AP19, cP19, rfl, HP19⟩ .nil))))
    rw [Option.bind_eq_some_iff] at h
    obtain ⟨t23, ht24, h⟩ := h
    refine WA.op (i := 11) (m := 1) (by kernel_rfl) (by kernel_rfl) (op := .call { callee := (.value (.func 13)), args := #[(.tmp 47)], argTypes := #[22] }) (ty := 26) (d := some 48) (g := none) (by kernel_rfl) (by kernel_rfl) (by kernel_rfl) (Does.call (Φ := fun v' G' Γ' => v' = .int .u64 t23 ∧ G = G' ∧ [(b20, .cells #[.slice AP15 ((l0.take (if t6 < t4 then t6 else t4).toNat).drop (0 : Int).toNat).length cP15, .slice AP17 ((l0.take (if t6 > t4 then t6 else t4).toNat).drop (if t6 < t4 then t6 else t4).toNat).length cP17, .slice none 0 0, .slice AP19 ((l0.take (l0.length : Int).toNat).drop (if t6 > t4 then t6 else t4).toNat).length cP19] 32 (0, 0))] :: [(b8, .cells #[.slice Al0 l0.length cl0] 32 (0, 0))] :: Γ = Γ') (f := 13) (args := [.slice (some ⟨b20, 0, none⟩) ([((l0.take (if t6 < t4 then t6 else t4).toNat).drop (0 : Int).toNat), ((l0.take (if t6 > t4 then t6 else t4).toNat).drop (if t6 < t4 then t6 else t4).toNat), ([] : List Int), ((l0.take (l0.length : Int).toNat).drop (if t6 > t4 then t6 else t4).toNat)] : List (List Int)).length 4]) (by kernel_rfl) (fun W hI => Calls.lend (i := 0) rfl (Ow.nodup Ho22) hI (fun _ e l25 hI => by subst e; exact (digest_Of_calls k ([((l0.take (if t6 < t4 then t6 else t4).toNat).drop (0 : Int).toNat), ((l0.take (if t6 > t4 then t6 else t4).toNat).drop (if t6 < t4 then t6 else t4).toNat), ([] : List Int), ((l0.take (l0.length : Int).toNat).drop (if t6 > t4 then t6 else t4).toNat)] : List (List Int)) (some ⟨b20, 0, none⟩) 4 (Ho22.rd l25) t23 ht24 hI)))) ?_
    rintro _ _ _ ⟨rfl, rfl, rfl⟩
    refine ⟨_, _, Under.refl, Under.refl, ?_⟩
    refine WA.pure [13] [0, 1, 3, 11, 50] (m := 0) (done' := #[true, true, true, true, true, true, true, true, true, true, true, true, true, true]) (L' := [(0, .slice Al0 l0.length cl0), (1, .int .i64 t4), (3, .int .u8 a3), (11, .int .u64 t11), (50, .bool (t23 != t11))]) (by kernel_rfl) (by repeat (first | exact NoPanic.body | refine NoPanic.then ?_ | refine NoPanic.block ?_)) Under.refl (by kernel_rfl) ?_
    refine WA.done (by kernel_rfl) ?_
    refine QP.pick [0, 1, 3, 11, 50] ?_
    refine QP.next ?_
    refine WP.cond (b := (t23 != t11)) (by kernel_rfl) (fun hc => ?_) (fun hc => ?_)
    · replace hc := (bne_iff_ne.1 hc)
      rw [if_pos hc] at h
      have hc26 := hc
      clear hc
      refine WP.seqP [8] (L' := [(8, .bool false)]) (by kernel_rfl) ?_
      refine WP.ret ?_
      refine QP.thenR ?_
      obtain rfl := Option.some.inj h
      refine QP.dropAt 1 ?_
      refine QP.dropAt 0 ?_
      exact QP.returned [8] [.bool false] _ (by kernel_rfl) (by kernel_rfl) (by kernel_rfl) (fun W hI => ⟨_, _, _, rfl, ⟨rfl, rfl, rfl⟩, hI⟩)
    · replace hc := (not_not_intro (bne_eq_false_iff_eq.1 hc))
      rw [if_neg hc] at h
      have hc26 := hc
      clear hc
      refine WP.skip ?_
      refine QP.next ?_
      refine WP.pick [0, 1, 3, 11] ?_
      refine WP.seq ?_
      rw [Option.bind_eq_some_iff] at h
      obtain ⟨os27, h, hk28⟩ := h
      refine WP.cut (fun L' G' Γ' => ∃ s27 : Bool, s27 = os27 ∧ L' = [(0, .slice Al0 l0.length cl0), (1, .int .i64 t4), (3, .int .u8 a3), (11, .int .u64 t11), (57, .bool s27)] ∧ G = G' ∧ [(b20, .cells #[.slice AP15 ((l0.take (if t6 < t4 then t6 else t4).toNat).drop (0 : Int).toNat).length cP15, .slice AP17 ((l0.take (if t6 > t4 then t6 else t4).toNat).drop (if t6 < t4 then t6 else t4).toNat).length cP17, .slice none 0 0, .slice AP19 ((l0.take (l0.length : Int).toNat).drop (if t6 > t4 then t6 else t4).toNat).length cP19] 32 (0, 0))] :: [(b8, .cells #[.slice Al0 l0.length cl0] 32 (0, 0))] :: Γ = Γ') ?_ ?_
      · clear hk28
        refine WP.region ?_
        refine WL.pure 0 4 [0, 1, 3, 11, 54] (L' := [(0, .slice Al0 l0.length cl0), (1, .int .i64 t4), (3, .int .u8 a3), (11, .int .u64 t11), (54, .bool ((l0.length : Int) == 0))]) (by kernel_rfl) (by decide) ?_
        refine WL.split 54 (b := ((l0.length : Int) == 0)) (by kernel_rfl) (fun hc => ?_) (fun hc => ?_)
        · replace hc := eq_of_beq hc
          rw [if_pos hc] at h
          have hc29 := hc
          clear hc
          refine WL.rest 4 [0, 1, 3, 11, 57] (L' := [(0, .slice Al0 l0.length cl0), (1, .int .i64 t4), (3, .int .u8 a3), (11, .int .u64 t11), (57, .bool true)]) (by kernel_rfl) ?_
          refine QP.pick [0, 1, 3, 11, 57] ?_
          exact QP.meet ⟨_, Option.some.inj h, rfl, rfl, rfl⟩
        · replace hc := ne_of_beq_false hc
          rw [if_neg hc] at h
          have hc29 := hc
          clear hc
          refine WL.rest 4 [0, 1, 3, 11, 57] (L' := [(0, .slice Al0 l0.length cl0), (1, .int .i64 t4), (3, .int .u8 a3), (11, .int .u64 t11), (57, .bool (a3 == 0))]) (by kernel_rfl) ?_
          refine QP.pick [0, 1, 3, 11, 57] ?_
          exact QP.meet ⟨_, Option.some.inj h, rfl, rfl, rfl⟩
      · rintro _ _ _ ⟨s27, rfl, rfl, rfl, rfl⟩
        clear h
        replace h := hk28
        refine WP.cond (b := s27) (by kernel_rfl) (fun hc => ?_) (fun hc => ?_)
        · replace hc := hc
          rw [if_pos hc] at h
          have hc30 := hc
          clear hc
          refine WP.seqR ?_
          rw [Option.bind_eq_some_iff] at h
          obtain ⟨t31, ht32, h⟩ := h
          refine WL.op (op := .call { callee := (.value (.func 12)), args := #[], argTypes := #[] }) (ty := 4) (d := some 58) (g := none) (by kernel_rfl) (by kernel_rfl) (by kernel_rfl) (Does.call (f := 12) (args := []) (by kernel_rfl) (fun W hI => (grapevinelaw5_awake_calls k   t31 ht32 hI))) ?_
          rintro _ _ _ ⟨rfl, rfl, rfl⟩
          refine WL.restQ 1 [8] (L' := [(8, .bool t31)]) (by kernel_rfl) ?_
          refine WP.ret ?_
          refine QP.thenR ?_
          obtain rfl := Option.some.inj h
          refine QP.dropAt 1 ?_
          refine QP.dropAt 0 ?_
          exact QP.returned [8] [.bool t31] _ (by kernel_rfl) (by kernel_rfl) (by kernel_rfl) (fun W hI => ⟨_, _, _, rfl, ⟨rfl, rfl, rfl⟩, hI⟩)
        · replace hc := (Bool.eq_false_iff.1 hc)
          rw [if_neg hc] at h
          have hc30 := hc
          clear hc
          refine WP.skip ?_
          refine QP.next ?_
          refine WP.pick [0, 1, 3, 11] ?_
          refine WP.seqR ?_
          refine WL.pure 0 1 [0, 1, 3, 11, 59] (L' := [(0, .slice Al0 l0.length cl0), (1, .int .i64 t4), (3, .int .u8 a3), (11, .int .u64 t11), (59, .slice Al0 l0.length cl0)]) (by kernel_rfl) (by decide) ?_
          refine WL.addNil ?_
          by_cases hb33 : ([] : List Int).length + l0.length ≤ 1073741824
          case neg => rw [if_neg hb33] at h; cases h
          rw [if_pos hb33] at h
          refine WL.op (op := .call { callee := (.builtin .append), args := #[(.const (.slice none 0 0)), (.tmp 59)], argTypes := #[32, 32] }) (ty := 32) (d := some 60) (g := none) (by kernel_rfl) (by kernel_rfl) (by kernel_rfl) (Ow.append (ys := l0) (v := .slice Al0 l0.length cl0) (Ow.nil (kInt .u8) G) (i := 0) rfl (by kernel_rfl) (by kernel_rfl) Hl0.src sl32 ze5 nt32 (by decide) hb33) ?_
          rintro _ _ _ ⟨rfl, AN34, cN34, CN34, rfl, HN34, rfl⟩
          refine WL.restQ 2 [0, 1, 3, 11, 12] (L' := [(0, .slice Al0 l0.length cl0), (1, .int .i64 t4), (3, .int .u8 a3), (11, .int .u64 t11), (12, .slice AN34 (([] : List Int) ++ l0).length cN34)]) (by kernel_rfl) ?_
          refine WP.seqR ?_
          refine WL.pure 0 3 [3, 11, 12, 61, 63] (L' := [(3, .int .u8 a3), (11, .int .u64 t11), (12, .slice AN34 (([] : List Int) ++ l0).length cN34), (61, .int .i64 t4), (63, .int .i64 (l0.length : Int))]) (by kernel_rfl) (by decide) ?_
          rw [Option.bind_eq_some_iff] at h
          obtain ⟨t35, ht36, h⟩ := h
          refine WL.op (op := .call { callee := (.value (.func 17)), args := #[(.tmp 61), (.tmp 63)], argTypes := #[3, 3] }) (ty := 3) (d := some 64) (g := none) (by kernel_rfl) (by kernel_rfl) (by kernel_rfl) (Does.call (f := 17) (args := [.int .i64 t4, .int .i64 (l0.length : Int)]) (by kernel_rfl) (fun W hI => (grapevinelaw0_Low_calls t4 (l0.length : Int)  t35 ht36 hI))) ?_
          rintro _ _ _ ⟨rfl, rfl, rfl⟩
          refine WL.restQ 4 [3, 11, 12, 13] (L' := [(3, .int .u8 a3), (11, .int .u64 t11), (12, .slice AN34 (([] : List Int) ++ l0).length cN34), (13, .int .i64 t35)]) (by kernel_rfl) ?_
          refine WP.seqR ?_
          refine WL.pure 0 4 [3, 11, 12, 65, 66, 67, 68] (L' := [(3, .int .u8 a3), (11, .int .u64 t11), (12, .slice AN34 (([] : List Int) ++ l0).length cN34), (65, .slice AN34 (([] : List Int) ++ l0).length cN34), (66, .int .i64 t35), (67, .slice AN34 (([] : List Int) ++ l0).length cN34), (68, .int .i64 t35)]) (by kernel_rfl) (by decide) ?_
          by_cases hb37 : 0 ≤ t35 ∧ t35 < ((([] : List Int) ++ l0).length : Int)
          case neg => rw [if_neg hb37] at h; cases h
          rw [if_pos hb37] at h
          refine WL.tell (op := .indexAddr 32 (.tmp 67) (.tmp 68)) (ty := 0) (d := some 69) (g := none) (by kernel_rfl) (by kernel_rfl) (by kernel_rfl) (Tells.indexAddr (A := AN34) (n := (([] : List Int) ++ l0).length) (c := cN34) (k := .i64) (j := t35) (by kernel_rfl) (by kernel_rfl) (HN34.isSome hb37.1 hb37.2) hb37.1 hb37.2 sl32) ?_
          refine WL.tellE (op := .load 5 (.tmp 69)) (ty := 5) (d := some 70) (g := none) (by kernel_rfl) (by kernel_rfl) (by kernel_rfl) (HN34.load (i := 0) rfl (agg := false) hb37.1 hb37.2 0 ag5 (fun _ => rfl) (by kernel_rfl)) ?_
          rintro _ rfl
          refine WL.pure 6 8 [11, 12, 65, 66, 72] (L' := [(11, .int .u64 t11), (12, .slice AN34 (([] : List Int) ++ l0).length cN34), (65, .slice AN34 (([] : List Int) ++ l0).length cN34), (66, .int .i64 t35), (72, .int .u8 (Go.bits .xor .u8 ((([] : List Int) ++ l0).getD t35.toNat 0) a3))]) (by kernel_rfl) (by decide) ?_
          by_cases hb38 : 0 ≤ t35 ∧ t35 < ((([] : List Int) ++ l0).length : Int)
          case neg => rw [if_neg hb38] at h; cases h
          rw [if_pos hb38] at h
          refine WL.tell (op := .indexAddr 32 (.tmp 65) (.tmp 66)) (ty := 0) (d := some 73) (g := none) (by kernel_rfl) (by kernel_rfl) (by kernel_rfl) (Tells.indexAddr (A := AN34) (n := (([] : List Int) ++ l0).length) (c := cN34) (k := .i64) (j := t35) (by kernel_rfl) (by kernel_rfl) (HN34.isSome hb38.1 hb38.2) hb38.1 hb38.2 sl32) ?_
          refine WL.op (op := .store 5 (.tmp 73) (.tmp 72)) (ty := 0) (d := none) (g := none) (by kernel_rfl) (by kernel_rfl) (by kernel_rfl) (Ow.store HN34 (i := 0) rfl hb38.1 hb38.2 (z := (Go.bits .xor .u8 ((([] : List Int) ++ l0).getD t35.toNat 0) a3)) (v := .int .u8 (Go.bits .xor .u8 ((([] : List Int) ++ l0).getD t35.toNat 0) a3)) (by kernel_rfl) (by kernel_rfl) sz5 (by exact rfl)) ?_
          rintro _ _ _ ⟨rfl, rfl, C39, Ho40, rfl⟩
          refine WL.reput 12 (v := .slice AN34 (([] : List Int) ++ l0).length cN34) (v' := .slice AN34 ((([] : List Int) ++ l0).set t35.toNat (Go.bits .xor .u8 ((([] : List Int) ++ l0).getD t35.toNat 0) a3)).length cN34) (by kernel_rfl) (by rw [List.length_set]) ?_
          refine WL.restQ 10 [11, 12] (L' := [(11, .int .u64 t11), (12, .slice AN34 ((([] : List Int) ++ l0).set t35.toNat (Go.bits .xor .u8 ((([] : List Int) ++ l0).getD t35.toNat 0) a3)).length cN34)]) (by kernel_rfl) ?_
          rw [Option.bind_eq_some_iff] at h
          obtain ⟨os41, h, hk42⟩ := h
          refine WP.cut (fun L' G' Γ' => ∃ s41 : Bool, s41 = os41 ∧ L' = [(8, .bool s41)] ∧ G = G' ∧ [(b20, .cells #[.slice AP15 ((l0.take (if t6 < t4 then t6 else t4).toNat).drop (0 : Int).toNat).length cP15, .slice AP17 ((l0.take (if t6 > t4 then t6 else t4).toNat).drop (if t6 < t4 then t6 else t4).toNat).length cP17, .slice none 0 0, .slice AP19 ((l0.take (l0.length : Int).toNat).drop (if t6 > t4 then t6 else t4).toNat).length cP19] 32 (0, 0))] :: [(b8, .cells #[.slice Al0 l0.length cl0] 32 (0, 0))] :: Γ = Γ') ?_ ?_
          · clear hk42
            refine WP.region ?_
            refine WL.pure 0 1 [11, 74] (L' := [(11, .int .u64 t11), (74, .slice AN34 ((([] : List Int) ++ l0).set t35.toNat (Go.bits .xor .u8 ((([] : List Int) ++ l0).getD t35.toNat 0) a3)).length cN34)]) (by kernel_rfl) (by decide) ?_
            refine WL.freeze (i := 0) rfl (fun G46 hG47 hle48 => ?_)
            have Hz49 := Ho40.rd (by rw [← hG47]; exact hle48)
            rw [← hG47] at Hz49
            refine WL.op (op := .buildSlice 22 1 #[(0, (.tmp 74))]) (ty := 22) (d := some 75) (g := none) (by kernel_rfl) (by kernel_rfl) (by kernel_rfl) (Does.new (o := .cells #[.slice AN34 ((([] : List Int) ++ l0).set t35.toNat (Go.bits .xor .u8 ((([] : List Int) ++ l0).getD t35.toNat 0) a3)).length cN34] 32 (0, 0)) (v := fun r => .slice (some ⟨r, 0, none⟩) 1 1) (fun r => by kernel_rfl)) ?_
            rintro _ _ _ ⟨b43, rfl, rfl, rfl⟩
            have Ho45 : Ow (kSlice (kInt .u8)) G46 (some ⟨b43, 0, none⟩) 1 ([((([] : List Int) ++ l0).set t35.toNat (Go.bits .xor .u8 ((([] : List Int) ++ l0).getD t35.toNat 0) a3))] : List (List Int)) [(b43, .cells #[.slice AN34 ((([] : List Int) ++ l0).set t35.toNat (Go.bits .xor .u8 ((([] : List Int) ++ l0).getD t35.toNat 0) a3)).length cN34] 32 (0, 0))] := Ow.lit (kd := (kSlice (kInt .u8))) (G := G46) (b := b43) (T := 32) (xs := ([((([] : List Int) ++ l0).set t35.toNat (Go.bits .xor .u8 ((([] : List Int) ++ l0).getD t35.toNat 0) a3))] : List (List Int))) (cs := [.slice AN34 ((([] : List Int) ++ l0).set t35.toNat (Go.bits .xor .u8 ((([] : List Int) ++ l0).getD t35.toNat 0) a3)).length cN34]) (.cons (x := ((([] : List Int) ++ l0).set t35.toNat (Go.bits .xor .u8 ((([] : List Int) ++ l0).getD t35.toNat 0) a3))) (cs := [.slice AN34 ((([] : List Int) ++ l0).set t35.toNat (Go.bits .xor .u8 ((([] : List Int) ++ l0).getD t35.toNat 0) a3)).length cN34]) ⟨AN34, cN34, rfl, Hz49⟩ .nil)
            rw [Option.bind_eq_some_iff] at h
            obtain ⟨t50, ht51, h⟩ := h
            refine WL.op (op := .call { callee := (.value (.func 13)), args := #[(.tmp 75)], argTypes := #[22] }) (ty := 26) (d := some 76) (g := none) (by kernel_rfl) (by kernel_rfl) (by kernel_rfl) (Does.call (Φ := fun v' G' Γ' => v' = .int .u64 t50 ∧ G46 = G' ∧ [(b43, .cells #[.slice AN34 ((([] : List Int) ++ l0).set t35.toNat (Go.bits .xor .u8 ((([] : List Int) ++ l0).getD t35.toNat 0) a3)).length cN34] 32 (0, 0))] :: [] :: [(b20, .cells #[.slice AP15 ((l0.take (if t6 < t4 then t6 else t4).toNat).drop (0 : Int).toNat).length cP15, .slice AP17 ((l0.take (if t6 > t4 then t6 else t4).toNat).drop (if t6 < t4 then t6 else t4).toNat).length cP17, .slice none 0 0, .slice AP19 ((l0.take (l0.length : Int).toNat).drop (if t6 > t4 then t6 else t4).toNat).length cP19] 32 (0, 0))] :: [(b8, .cells #[.slice Al0 l0.length cl0] 32 (0, 0))] :: Γ = Γ') (f := 13) (args := [.slice (some ⟨b43, 0, none⟩) ([((([] : List Int) ++ l0).set t35.toNat (Go.bits .xor .u8 ((([] : List Int) ++ l0).getD t35.toNat 0) a3))] : List (List Int)).length 1]) (by kernel_rfl) (fun W hI => Calls.lend (i := 0) rfl (Ow.nodup Ho45) hI (fun _ e l52 hI => by subst e; exact (digest_Of_calls k ([((([] : List Int) ++ l0).set t35.toNat (Go.bits .xor .u8 ((([] : List Int) ++ l0).getD t35.toNat 0) a3))] : List (List Int)) (some ⟨b43, 0, none⟩) 1 (Ho45.rd l52) t50 ht51 hI)))) ?_
            rintro _ _ _ ⟨rfl, rfl, rfl⟩
            refine WL.pure 3 6 [79] (L' := [(79, .bool (t50 != t11))]) (by kernel_rfl) (by decide) ?_
            refine WL.split 79 (b := (t50 != t11)) (by kernel_rfl) (fun hc => ?_) (fun hc => ?_)
            · replace hc := (bne_iff_ne.1 hc)
              rw [if_pos hc] at h
              have hc53 := hc
              clear hc
              rw [Option.bind_eq_some_iff] at h
              obtain ⟨t54, ht55, h⟩ := h
              refine WL.op (op := .call { callee := (.value (.func 12)), args := #[], argTypes := #[] }) (ty := 4) (d := some 80) (g := some (5, true)) (by kernel_rfl) (by kernel_rfl) (by kernel_rfl) (Does.call (f := 12) (args := []) (by kernel_rfl) (fun W hI => (grapevinelaw5_awake_calls k   t54 ht55 hI))) ?_
              rintro _ _ _ ⟨rfl, rfl, rfl⟩
              refine WL.rest 7 [8] (L' := [(8, .bool t54)]) (by kernel_rfl) ?_
              refine QP.dropAt 1 ?_
              refine QP.dropAt 0 ?_
              refine QP.lower hle48 ?_
              refine QP.pick [8] ?_
              exact QP.meet ⟨_, Option.some.inj h, rfl, rfl, rfl⟩
            · replace hc := (not_not_intro (bne_eq_false_iff_eq.1 hc))
              rw [if_neg hc] at h
              have hc53 := hc
              clear hc
              refine WL.rest 6 [8] (L' := [(8, .bool false)]) (by kernel_rfl) ?_
              refine QP.dropAt 1 ?_
              refine QP.dropAt 0 ?_
              refine QP.lower hle48 ?_
              refine QP.pick [8] ?_
              exact QP.meet ⟨_, Option.some.inj h, rfl, rfl, rfl⟩
          · rintro _ _ _ ⟨s41, rfl, rfl, rfl, rfl⟩
            clear h
            replace h := hk42
            refine WP.ret ?_
            obtain rfl := Option.some.inj h
            refine QP.dropAt 1 ?_
            refine QP.dropAt 0 ?_
            exact QP.returned [8] [.bool s41] _ (by kernel_rfl) (by kernel_rfl) (by kernel_rfl) (fun W hI => ⟨_, _, _, rfl, ⟨rfl, rfl, rfl⟩, hI⟩)
/-- The plain law. -/
def DigestParts_Pure : Prop := ∀ (l0 : List Int) (a1 : Int) (a2 : Int) (a3 : Int), (l0.length ≤ maxLen ∧ ∀ z0 ∈ l0, (Lit.int .u8 z0).wf = true) → (Lit.int .i64 a1).wf = true → (Lit.int .i64 a2).wf = true → (Lit.int .u8 a3).wf = true → ∃ k, grapevinelaw5_DigestParts k l0 a1 a2 a3 = some true
end Go.Proofs.Ytanogihdhnhpaaa.Gf
