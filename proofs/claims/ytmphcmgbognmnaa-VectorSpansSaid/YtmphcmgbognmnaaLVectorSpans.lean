/- Walks of Go functions: what each tells, as a plain Lean function, and that the Go code comes to it. Written by gg.py of this repo. -/
import Derived.Test.YtmphcmgbognmnaaT
import Derived.Test.YtmphcmgbognmnaaF0
namespace Go.Proofs.Ytmphcmgbognmnaa.Gf
open Go Go.Gg
set_option maxRecDepth 100000
set_option linter.unusedVariables false
set_option linter.unusedSimpArgs false

/-! ### grapevine/grapevinelaw3.VectorSpans: function 13 -/
def grapevinelaw3_VectorSpans_l1 (t12 : List T63) (t18 : List T63) (y29 : Int) : Nat → Int → Option (Sum Bool Unit)
  | 0, _ => none
  | k + 1, y55 => (if y55 < (t18.length : Int) then (if 0 ≤ y55 ∧ y55 < (t18.length : Int) then (if 0 ≤ y29 ∧ y29 < (t12.length : Int) then (if ((t18.getD y55.toNat z63).f0) = ((t12.getD y29.toNat z63).f0) then some (Sum.inl false) else grapevinelaw3_VectorSpans_l1 t12 t18 y29 k (IntKind.i64.wrap (y55 + 1))) else none) else none) else some (Sum.inr ()))
def grapevinelaw3_VectorSpans_l0 (t1 : Int) (t12 : List T63) (t18 : List T63) : Nat → Int → Int → (List Int) → Option (Sum Bool (Int × (List Int)))
  | 0, _, _, _ => none
  | k + 1, y28, y29, y30 => (if y29 < (t12.length : Int) then ((if 0 ≤ y29 ∧ y29 < (t12.length : Int) then (if ((t12.getD y29.toNat z63).f0) < 0 then some true else (if 0 ≤ y29 ∧ y29 < (t12.length : Int) then some (decide (((t12.getD y29.toNat z63).f0) ≥ (IntKind.i64.wrap (1 + t1)))) else none)) else none).bind fun s34 => (if s34 = true then some (Sum.inl false) else (if 0 ≤ y29 ∧ y29 < (t12.length : Int) then (if 0 ≤ y29 ∧ y29 < (t12.length : Int) then (if 0 ≤ ((t12.getD y29.toNat z63).f0) ∧ ((t12.getD y29.toNat z63).f0) < (y30.length : Int) then (if 0 ≤ y29 ∧ y29 < (t12.length : Int) then (if 0 ≤ ((t12.getD y29.toNat z63).f0) ∧ ((t12.getD y29.toNat z63).f0) < (y30.length : Int) then ((some (y30.set ((t12.getD y29.toNat z63).f0).toNat (IntKind.i64.wrap ((y30.getD ((t12.getD y29.toNat z63).f0).toNat 0) + ((t12.getD y29.toNat z63).f2))))).bind fun v47 => (if 0 ≤ y29 ∧ y29 < (t12.length : Int) then ((some (IntKind.i64.wrap (y28 + ((t12.getD y29.toNat z63).f2)))).bind fun v51 => ((grapevinelaw3_VectorSpans_l1 t12 t18 y29 k 0).bind fun os53 => match os53 with | Sum.inl r => some (Sum.inl r) | Sum.inr s53 => grapevinelaw3_VectorSpans_l0 t1 t12 t18 k v51 (IntKind.i64.wrap (y29 + 1)) v47)) else none)) else none) else none) else none) else none) else none))) else some (Sum.inr (y28, y30)))
def grapevinelaw3_VectorSpans_l2 (t18 : List T63) : Nat → Int → Int → Option Int
  | 0, _, _ => none
  | k + 1, y64, y65 => (if y65 < (t18.length : Int) then (if 0 ≤ y65 ∧ y65 < (t18.length : Int) then grapevinelaw3_VectorSpans_l2 t18 k (IntKind.i64.wrap (y64 - ((t18.getD y65.toNat z63).f2))) (IntKind.i64.wrap (y65 + 1)) else none) else some y64)
def grapevinelaw3_VectorSpans (k : Nat) (l0 : List Int) (l1 : List Int) (a2 : Int) : Option Bool := ((grapevinelaw0_Low a2 8).bind fun t1 => ((grapevinelaw3_low k l0 (IntKind.i64.wrap (1 + t1))).bind fun t3 => ((grapevinelaw3_low k l1 (IntKind.i64.wrap (1 + t1))).bind fun t6 => ((vector_Zero (IntKind.i64.wrap (1 + t1))).bind fun t9 => ((vector_Lack k t3 t6 t9).bind fun t12 => ((vector_Lack k t6 t3 t9).bind fun t18 => (if ([] : List Int).length + t6.length ≤ 1073741824 then ((grapevinelaw3_VectorSpans_l0 t1 t12 t18 k 0 0 (([] : List Int) ++ t6)).bind fun os26 => match os26 with | Sum.inl r => some r | Sum.inr s26 => ((grapevinelaw3_VectorSpans_l2 t18 k s26.1 0).bind fun s62 => (((vector_Sum k t3).bind fun t72 => ((vector_Sum k t6).bind fun t75 => (if s62 = (IntKind.i64.wrap (t72 - t75)) then ((vector_Join k ([t3, t6] : List (List Int))).bind fun t82 => ((grapevinelaw0_SameInts k s26.2 t82).bind fun t88 => (if t88 = true then ((vector_Below k t3 t6).bind fun t93 => (if (((t12.length : Int) == 0) == t93) = true then ((grapevinelaw3_awake k ).bind fun t98 => some t98) else some false)) else some false))) else some false))).bind fun s70 => some s70))) else none)))))))
set_option maxHeartbeats 4000000 in
theorem grapevinelaw3_VectorSpans_calls {B : World} {G : GMap} {Γ : List Chunk} {W : World} (k : Nat) (l0 : List Int) (l1 : List Int) (a2 : Int) (Al0 : Option Addr) (cl0 : Nat) (Hl0 : Rd (kInt .i64) G Al0 cl0 l0) (Al1 : Option Addr) (cl1 : Nat) (Hl1 : Rd (kInt .i64) G Al1 cl1 l1) (r : Bool) (h : grapevinelaw3_VectorSpans k l0 l1 a2 = some r) (hI : Inv B G (Γ) W) :
    Calls Try.prog 13 [.slice Al0 l0.length cl0, .slice Al1 l1.length cl1, .int .i64 a2].toArray W (Ret B (fun v G' Γ' => v = .bool r ∧ G = G' ∧ Γ = Γ')) := by
  refine calls_WP (Γ := Γ) (G := G) (B := B) Try.func13 rfl (by kernel_rfl) ?_ hI
  clear hI
  unfold grapevinelaw3_VectorSpans at h
  refine WP.seqP [0, 1, 2] (L' := [(0, .slice Al0 l0.length cl0), (1, .slice Al1 l1.length cl1), (2, .int .i64 a2)]) (by kernel_rfl) ?_
  refine WP.seqR ?_
  refine WL.pure 0 1 [0, 1, 2, 17] (L' := [(0, .slice Al0 l0.length cl0), (1, .slice Al1 l1.length cl1), (2, .int .i64 a2), (17, .int .i64 a2)]) (by kernel_rfl) (by decide) ?_
  rw [Option.bind_eq_some_iff] at h
  obtain ⟨t1, ht2, h⟩ := h
  refine WL.op (op := .call { callee := (.value (.func 31)), args := #[(.tmp 17), (.const (.int .i64 8))], argTypes := #[3, 3] }) (ty := 3) (d := some 18) (g := none) (by kernel_rfl) (by kernel_rfl) (by kernel_rfl) (Does.call (f := 31) (args := [.int .i64 a2, .int .i64 8]) (by kernel_rfl) (fun W hI => (grapevinelaw0_Low_calls a2 8  t1 ht2 hI))) ?_
  rintro _ _ _ ⟨rfl, rfl, rfl⟩
  refine WL.restQ 2 [0, 1, 2] (L' := [(0, .slice Al0 l0.length cl0), (1, .slice Al1 l1.length cl1), (2, .int .i64 (IntKind.i64.wrap (1 + t1)))]) (by kernel_rfl) ?_
  refine WP.seqR ?_
  refine WL.pure 0 2 [1, 2, 20, 21] (L' := [(1, .slice Al1 l1.length cl1), (2, .int .i64 (IntKind.i64.wrap (1 + t1))), (20, .slice Al0 l0.length cl0), (21, .int .i64 (IntKind.i64.wrap (1 + t1)))]) (by kernel_rfl) (by decide) ?_
  rw [Option.bind_eq_some_iff] at h
  obtain ⟨t3, ht4, h⟩ := h
  refine WL.op (op := .call { callee := (.value (.func 32)), args := #[(.tmp 20), (.tmp 21)], argTypes := #[52, 3] }) (ty := 52) (d := some 22) (g := none) (by kernel_rfl) (by kernel_rfl) (by kernel_rfl) (Does.call (f := 32) (args := [.slice Al0 l0.length cl0, .int .i64 (IntKind.i64.wrap (1 + t1))]) (by kernel_rfl) (fun W hI => (grapevinelaw3_low_calls k l0 (IntKind.i64.wrap (1 + t1)) Al0 cl0 Hl0 t3 ht4 hI))) ?_
  rintro _ _ _ ⟨AR5, cR5, CR5, rfl, HR5, rfl, rfl⟩
  refine WL.pure 3 5 [2, 22, 23, 24] (L' := [(2, .int .i64 (IntKind.i64.wrap (1 + t1))), (22, .slice AR5 t3.length cR5), (23, .slice Al1 l1.length cl1), (24, .int .i64 (IntKind.i64.wrap (1 + t1)))]) (by kernel_rfl) (by decide) ?_
  rw [Option.bind_eq_some_iff] at h
  obtain ⟨t6, ht7, h⟩ := h
  refine WL.op (op := .call { callee := (.value (.func 32)), args := #[(.tmp 23), (.tmp 24)], argTypes := #[52, 3] }) (ty := 52) (d := some 25) (g := none) (by kernel_rfl) (by kernel_rfl) (by kernel_rfl) (Does.call (f := 32) (args := [.slice Al1 l1.length cl1, .int .i64 (IntKind.i64.wrap (1 + t1))]) (by kernel_rfl) (fun W hI => (grapevinelaw3_low_calls k l1 (IntKind.i64.wrap (1 + t1)) Al1 cl1 Hl1 t6 ht7 hI))) ?_
  rintro _ _ _ ⟨AR8, cR8, CR8, rfl, HR8, rfl, rfl⟩
  refine WL.pure 6 7 [2, 22, 25, 26] (L' := [(2, .int .i64 (IntKind.i64.wrap (1 + t1))), (22, .slice AR5 t3.length cR5), (25, .slice AR8 t6.length cR8), (26, .int .i64 (IntKind.i64.wrap (1 + t1)))]) (by kernel_rfl) (by decide) ?_
  rw [Option.bind_eq_some_iff] at h
  obtain ⟨t9, ht10, h⟩ := h
  refine WL.op (op := .call { callee := (.value (.func 41)), args := #[(.tmp 26)], argTypes := #[3] }) (ty := 52) (d := some 27) (g := none) (by kernel_rfl) (by kernel_rfl) (by kernel_rfl) (Does.call (f := 41) (args := [.int .i64 (IntKind.i64.wrap (1 + t1))]) (by kernel_rfl) (fun W hI => (vector_Zero_calls (IntKind.i64.wrap (1 + t1))  t9 ht10 hI))) ?_
  rintro _ _ _ ⟨AR11, cR11, CR11, rfl, HR11, rfl, rfl⟩
  refine WL.restQ 8 [2, 7, 8, 9] (L' := [(2, .int .i64 (IntKind.i64.wrap (1 + t1))), (7, .slice AR5 t3.length cR5), (8, .slice AR8 t6.length cR8), (9, .slice AR11 t9.length cR11)]) (by kernel_rfl) ?_
  refine WP.seqR ?_
  refine WL.pure 0 3 [2, 7, 8, 9, 28, 29, 30] (L' := [(2, .int .i64 (IntKind.i64.wrap (1 + t1))), (7, .slice AR5 t3.length cR5), (8, .slice AR8 t6.length cR8), (9, .slice AR11 t9.length cR11), (28, .slice AR5 t3.length cR5), (29, .slice AR8 t6.length cR8), (30, .slice AR11 t9.length cR11)]) (by kernel_rfl) (by decide) ?_
  rw [Option.bind_eq_some_iff] at h
  obtain ⟨t12, ht13, h⟩ := h
  refine WL.op (op := .call { callee := (.value (.func 40)), args := #[(.tmp 28), (.tmp 29), (.tmp 30)], argTypes := #[52, 52, 52] }) (ty := 60) (d := some 31) (g := none) (by kernel_rfl) (by kernel_rfl) (by kernel_rfl) (Does.call (Φ := fun v' G' Γ' => ∃ (AR14 : Option Addr), ∃ (cR14 : Nat), ∃ (CR14 : Chunk), v' = .slice AR14 t12.length cR14 ∧ Ow k63 G AR14 cR14 t12 CR14 ∧ G = G' ∧ CR14 :: CR11 :: CR8 :: CR5 :: Γ = Γ') (f := 40) (args := [.slice AR5 t3.length cR5, .slice AR8 t6.length cR8, .slice AR11 t9.length cR11]) (by kernel_rfl) (fun W hI => (Calls.lendR (Φ := fun v' N => ∃ (AR14 : Option Addr), ∃ (cR14 : Nat), ∃ (CR14 : Chunk), v' = .slice AR14 t12.length cR14 ∧ Ow k63 G AR14 cR14 t12 CR14 ∧ N = [CR14]) (i := 2) rfl (Ow.nodup HR5) hI (fun _ e l15 hI => by subst e; exact Calls.lendR (Φ := fun v' N => ∃ (AR14 : Option Addr), ∃ (cR14 : Nat), ∃ (CR14 : Chunk), v' = .slice AR14 t12.length cR14 ∧ Ow k63 G AR14 cR14 t12 CR14 ∧ N = [CR14]) (i := 1) rfl (Ow.nodup (HR8.mono l15)) hI (fun _ e l16 hI => by subst e; exact Calls.lendR (Φ := fun v' N => ∃ (AR14 : Option Addr), ∃ (cR14 : Nat), ∃ (CR14 : Chunk), v' = .slice AR14 t12.length cR14 ∧ Ow k63 G AR14 cR14 t12 CR14 ∧ N = [CR14]) (i := 0) rfl (Ow.nodup ((HR11.mono l15).mono l16)) hI (fun _ e l17 hI => by subst e; exact ((vector_Lack_calls k t3 t6 t9 AR5 cR5 (((HR5.rd l15).mono l16).mono l17) AR8 cR8 (((HR8.mono l15).rd l16).mono l17) AR11 cR11 (((HR11.mono l15).mono l16).rd l17) t12 ht13 hI).mono fun _ _ hr => by obtain ⟨_, _, _, rfl, ⟨AR14, cR14, CR14, rfl, HR14, rfl, rfl⟩, hI⟩ := hr; exact ⟨_, _, _, rfl, ⟨[CR14], ⟨AR14, cR14, CR14, rfl, (HR14.flat (kFlat_flat _ _ _ _)), rfl⟩, rfl, rfl⟩, hI⟩))))).mono fun _ _ hr => by obtain ⟨_, _, _, rfl, ⟨_, ⟨AR14, cR14, CR14, rfl, HR14, rfl⟩, rfl, rfl⟩, hI⟩ := hr; exact ⟨_, _, _, rfl, ⟨AR14, cR14, CR14, rfl, HR14, rfl, rfl⟩, hI⟩)) ?_
  rintro _ _ _ ⟨AR14, cR14, CR14, rfl, HR14, rfl, rfl⟩
  refine WL.pure 4 7 [2, 7, 8, 31, 32, 33, 34] (L' := [(2, .int .i64 (IntKind.i64.wrap (1 + t1))), (7, .slice AR5 t3.length cR5), (8, .slice AR8 t6.length cR8), (31, .slice AR14 t12.length cR14), (32, .slice AR8 t6.length cR8), (33, .slice AR5 t3.length cR5), (34, .slice AR11 t9.length cR11)]) (by kernel_rfl) (by decide) ?_
  rw [Option.bind_eq_some_iff] at h
  obtain ⟨t18, ht19, h⟩ := h
  refine WL.op (op := .call { callee := (.value (.func 40)), args := #[(.tmp 32), (.tmp 33), (.tmp 34)], argTypes := #[52, 52, 52] }) (ty := 60) (d := some 35) (g := none) (by kernel_rfl) (by kernel_rfl) (by kernel_rfl) (Does.call (Φ := fun v' G' Γ' => ∃ (AR20 : Option Addr), ∃ (cR20 : Nat), ∃ (CR20 : Chunk), v' = .slice AR20 t18.length cR20 ∧ Ow k63 G AR20 cR20 t18 CR20 ∧ G = G' ∧ CR20 :: CR14 :: CR11 :: CR8 :: CR5 :: Γ = Γ') (f := 40) (args := [.slice AR8 t6.length cR8, .slice AR5 t3.length cR5, .slice AR11 t9.length cR11]) (by kernel_rfl) (fun W hI => (Calls.lendR (Φ := fun v' N => ∃ (AR20 : Option Addr), ∃ (cR20 : Nat), ∃ (CR20 : Chunk), v' = .slice AR20 t18.length cR20 ∧ Ow k63 G AR20 cR20 t18 CR20 ∧ N = [CR20]) (i := 2) rfl (Ow.nodup HR8) hI (fun _ e l21 hI => by subst e; exact Calls.lendR (Φ := fun v' N => ∃ (AR20 : Option Addr), ∃ (cR20 : Nat), ∃ (CR20 : Chunk), v' = .slice AR20 t18.length cR20 ∧ Ow k63 G AR20 cR20 t18 CR20 ∧ N = [CR20]) (i := 3) rfl (Ow.nodup (HR5.mono l21)) hI (fun _ e l22 hI => by subst e; exact Calls.lendR (Φ := fun v' N => ∃ (AR20 : Option Addr), ∃ (cR20 : Nat), ∃ (CR20 : Chunk), v' = .slice AR20 t18.length cR20 ∧ Ow k63 G AR20 cR20 t18 CR20 ∧ N = [CR20]) (i := 1) rfl (Ow.nodup ((HR11.mono l21).mono l22)) hI (fun _ e l23 hI => by subst e; exact ((vector_Lack_calls k t6 t3 t9 AR8 cR8 (((HR8.rd l21).mono l22).mono l23) AR5 cR5 (((HR5.mono l21).rd l22).mono l23) AR11 cR11 (((HR11.mono l21).mono l22).rd l23) t18 ht19 hI).mono fun _ _ hr => by obtain ⟨_, _, _, rfl, ⟨AR20, cR20, CR20, rfl, HR20, rfl, rfl⟩, hI⟩ := hr; exact ⟨_, _, _, rfl, ⟨[CR20], ⟨AR20, cR20, CR20, rfl, (HR20.flat (kFlat_flat _ _ _ _)), rfl⟩, rfl, rfl⟩, hI⟩))))).mono fun _ _ hr => by obtain ⟨_, _, _, rfl, ⟨_, ⟨AR20, cR20, CR20, rfl, HR20, rfl⟩, rfl, rfl⟩, hI⟩ := hr; exact ⟨_, _, _, rfl, ⟨AR20, cR20, CR20, rfl, HR20, rfl, rfl⟩, hI⟩)) ?_
  rintro _ _ _ ⟨AR20, cR20, CR20, rfl, HR20, rfl, rfl⟩
  refine WL.restQ 8 [2, 7, 8, 10, 11] (L' := [(2, .int .i64 (IntKind.i64.wrap (1 + t1))), (7, .slice AR5 t3.length cR5), (8, .slice AR8 t6.length cR8), (10, .slice AR14 t12.length cR14), (11, .slice AR20 t18.length cR20)]) (by kernel_rfl) ?_
  refine WP.dropAt 2 ?_
  refine WP.seqR ?_
  refine WL.pure 0 1 [2, 7, 8, 10, 11, 36] (L' := [(2, .int .i64 (IntKind.i64.wrap (1 + t1))), (7, .slice AR5 t3.length cR5), (8, .slice AR8 t6.length cR8), (10, .slice AR14 t12.length cR14), (11, .slice AR20 t18.length cR20), (36, .slice AR8 t6.length cR8)]) (by kernel_rfl) (by decide) ?_
  refine WL.addNil ?_
  by_cases hb24 : ([] : List Int).length + t6.length ≤ 1073741824
  case neg => rw [if_neg hb24] at h; cases h
  rw [if_pos hb24] at h
  refine WL.op (op := .call { callee := (.builtin .append), args := #[(.const (.slice none 0 0)), (.tmp 36)], argTypes := #[52, 52] }) (ty := 52) (d := some 37) (g := none) (by kernel_rfl) (by kernel_rfl) (by kernel_rfl) (Ow.append (ys := t6) (v := .slice AR8 t6.length cR8) (Ow.nil (kInt .i64) G) (i := 0) rfl (by kernel_rfl) (by kernel_rfl) (HR8.src (i := 3) rfl) sl52 ze3 nt52 (by decide) hb24) ?_
  rintro _ _ _ ⟨rfl, AN25, cN25, CN25, rfl, HN25, rfl⟩
  refine WL.restQ 2 [2, 7, 8, 10, 11, 12] (L' := [(2, .int .i64 (IntKind.i64.wrap (1 + t1))), (7, .slice AR5 t3.length cR5), (8, .slice AR8 t6.length cR8), (10, .slice AR14 t12.length cR14), (11, .slice AR20 t18.length cR20), (12, .slice AN25 (([] : List Int) ++ t6).length cN25)]) (by kernel_rfl) ?_
  refine WP.seqP [2, 7, 8, 10, 11, 12, 13] (L' := [(2, .int .i64 (IntKind.i64.wrap (1 + t1))), (7, .slice AR5 t3.length cR5), (8, .slice AR8 t6.length cR8), (10, .slice AR14 t12.length cR14), (11, .slice AR20 t18.length cR20), (12, .slice AN25 (([] : List Int) ++ t6).length cN25), (13, .int .i64 0)]) (by kernel_rfl) ?_
  refine WP.seq ?_
  refine WP.seqP [2, 7, 8, 10, 11, 12, 13, 14] (L' := [(2, .int .i64 (IntKind.i64.wrap (1 + t1))), (7, .slice AR5 t3.length cR5), (8, .slice AR8 t6.length cR8), (10, .slice AR14 t12.length cR14), (11, .slice AR20 t18.length cR20), (12, .slice AN25 (([] : List Int) ++ t6).length cN25), (13, .int .i64 0), (14, .int .i64 0)]) (by kernel_rfl) ?_
  rw [Option.bind_eq_some_iff] at h
  obtain ⟨os26, h, hk27⟩ := h
  refine WP.cutQ (fun L' G' Γ' => ∃ s26 : Int × (List Int), Sum.inr s26 = os26 ∧ ∃ (As26_2 : Option Addr), ∃ (cs26_2 : Nat), ∃ (Cs26_2 : Chunk), L' = [(7, .slice AR5 t3.length cR5), (8, .slice AR8 t6.length cR8), (10, .slice AR14 t12.length cR14), (11, .slice AR20 t18.length cR20), (12, .slice As26_2 s26.2.length cs26_2), (13, .int .i64 s26.1)] ∧ G = G' ∧ Cs26_2 :: CR20 :: CR14 :: CR8 :: CR5 :: Γ = Γ' ∧ Ow (kInt .i64) G As26_2 cs26_2 s26.2 Cs26_2) ?_ ?_
  · skip
    refine WP.block ?_
    refine WP.pick [2, 7, 8, 10, 11, 12, 13, 14] ?_
    refine WP.loopF (fun k31 L' G' Γ' => ∃ (y28 : Int), ∃ (y29 : Int), ∃ (y30 : List Int), grapevinelaw3_VectorSpans_l0 t1 t12 t18 k31 y28 y29 y30 = some os26 ∧ ∃ (Ay30 : Option Addr), ∃ (cy30 : Nat), ∃ (Cy30 : Chunk), L' = [(2, .int .i64 (IntKind.i64.wrap (1 + t1))), (7, .slice AR5 t3.length cR5), (8, .slice AR8 t6.length cR8), (10, .slice AR14 t12.length cR14), (11, .slice AR20 t18.length cR20), (12, .slice Ay30 y30.length cy30), (13, .int .i64 y28), (14, .int .i64 y29)] ∧ G = G' ∧ Cy30 :: CR20 :: CR14 :: CR8 :: CR5 :: Γ = Γ' ∧ Ow (kInt .i64) G Ay30 cy30 y30 Cy30) ?_ k ⟨0, 0, (([] : List Int) ++ t6), h, AN25, cN25, CN25, rfl, rfl, rfl, HN25⟩
    clear h
    rintro k32 _ _ _ ⟨y28, y29, y30, h, Ay30, cy30, Cy30, rfl, rfl, rfl, Hy30⟩
    cases k32 with
    | zero => exact absurd h (by simp [grapevinelaw3_VectorSpans_l0])
    | succ k32 =>
      simp only [grapevinelaw3_VectorSpans_l0] at h
      refine WP.seq ?_
      refine WP.seqP [2, 7, 8, 10, 11, 12, 13, 14, 41] (L' := [(2, .int .i64 (IntKind.i64.wrap (1 + t1))), (7, .slice AR5 t3.length cR5), (8, .slice AR8 t6.length cR8), (10, .slice AR14 t12.length cR14), (11, .slice AR20 t18.length cR20), (12, .slice Ay30 y30.length cy30), (13, .int .i64 y28), (14, .int .i64 y29), (41, .bool (decide (y29 < (t12.length : Int))))]) (by kernel_rfl) ?_
      refine WP.cond (b := decide (y29 < (t12.length : Int))) (by kernel_rfl) (fun hc => ?_) (fun hc => ?_)
      · replace hc := of_decide_eq_true hc
        rw [if_pos hc] at h
        have hc33 := hc
        clear hc
        refine WP.skip ?_
        refine QP.next ?_
        refine WP.pick [2, 7, 8, 10, 11, 12, 13, 14] ?_
        refine WP.seq ?_
        refine WP.block ?_
        refine WP.seq ?_
        rw [Option.bind_eq_some_iff] at h
        obtain ⟨os34, h, hk35⟩ := h
        refine WP.cut (fun L' G' Γ' => ∃ s34 : Bool, s34 = os34 ∧ L' = [(2, .int .i64 (IntKind.i64.wrap (1 + t1))), (7, .slice AR5 t3.length cR5), (8, .slice AR8 t6.length cR8), (10, .slice AR14 t12.length cR14), (11, .slice AR20 t18.length cR20), (12, .slice Ay30 y30.length cy30), (13, .int .i64 y28), (14, .int .i64 y29), (58, .bool s34)] ∧ G = G' ∧ Cy30 :: CR20 :: CR14 :: CR8 :: CR5 :: Γ = Γ') ?_ ?_
        · clear hk35
          refine WP.region ?_
          refine WL.pure 0 2 [2, 7, 8, 10, 11, 12, 13, 14, 44, 45] (L' := [(2, .int .i64 (IntKind.i64.wrap (1 + t1))), (7, .slice AR5 t3.length cR5), (8, .slice AR8 t6.length cR8), (10, .slice AR14 t12.length cR14), (11, .slice AR20 t18.length cR20), (12, .slice Ay30 y30.length cy30), (13, .int .i64 y28), (14, .int .i64 y29), (44, .slice AR14 t12.length cR14), (45, .int .i64 y29)]) (by kernel_rfl) (by decide) ?_
          by_cases hb36 : 0 ≤ y29 ∧ y29 < (t12.length : Int)
          case neg => rw [if_neg hb36] at h; cases h
          rw [if_pos hb36] at h
          refine WL.tell (op := .indexAddr 60 (.tmp 44) (.tmp 45)) (ty := 0) (d := some 46) (g := none) (by kernel_rfl) (by kernel_rfl) (by kernel_rfl) (Tells.indexAddr (A := AR14) (n := t12.length) (c := cR14) (k := .i64) (j := y29) (by kernel_rfl) (by kernel_rfl) (HR14.isSome hb36.1 hb36.2) hb36.1 hb36.2 sl60) ?_
          refine WL.tell (op := .fieldAddr 63 (.tmp 46) 0) (ty := 0) (d := some 47) (g := none) (by kernel_rfl) (by kernel_rfl) (by kernel_rfl) (Tells.fieldElem (m := y29.toNat * 3) (A := AR14) (by kernel_rfl) (HR14.isSome hb36.1 hb36.2) fi63_0) ?_
          refine WL.tellE (op := .load 3 (.tmp 47)) (ty := 3) (d := some 48) (g := none) (by kernel_rfl) (by kernel_rfl) (by kernel_rfl) (HR14.loadF (i := 2) rfl (agg := false) (off := 0) hb36.1 hb36.2 z63 ag3 (fun _ => rfl) (by decide) (by kernel_rfl)) ?_
          rintro _ rfl
          refine WL.pure 5 7 [2, 7, 8, 10, 11, 12, 13, 14, 50] (L' := [(2, .int .i64 (IntKind.i64.wrap (1 + t1))), (7, .slice AR5 t3.length cR5), (8, .slice AR8 t6.length cR8), (10, .slice AR14 t12.length cR14), (11, .slice AR20 t18.length cR20), (12, .slice Ay30 y30.length cy30), (13, .int .i64 y28), (14, .int .i64 y29), (50, .bool (decide (((t12.getD y29.toNat z63).f0) < 0)))]) (by kernel_rfl) (by decide) ?_
          refine WL.split 50 (b := decide (((t12.getD y29.toNat z63).f0) < 0)) (by kernel_rfl) (fun hc => ?_) (fun hc => ?_)
          · replace hc := of_decide_eq_true hc
            rw [if_pos hc] at h
            have hc37 := hc
            clear hc
            refine WL.rest 7 [2, 7, 8, 10, 11, 12, 13, 14, 58] (L' := [(2, .int .i64 (IntKind.i64.wrap (1 + t1))), (7, .slice AR5 t3.length cR5), (8, .slice AR8 t6.length cR8), (10, .slice AR14 t12.length cR14), (11, .slice AR20 t18.length cR20), (12, .slice Ay30 y30.length cy30), (13, .int .i64 y28), (14, .int .i64 y29), (58, .bool true)]) (by kernel_rfl) ?_
            refine QP.pick [2, 7, 8, 10, 11, 12, 13, 14, 58] ?_
            exact QP.meet ⟨_, Option.some.inj h, rfl, rfl, rfl⟩
          · replace hc := of_decide_eq_false hc
            rw [if_neg hc] at h
            have hc37 := hc
            clear hc
            refine WL.pure 7 9 [2, 7, 8, 10, 11, 12, 13, 14, 50, 51, 52] (L' := [(2, .int .i64 (IntKind.i64.wrap (1 + t1))), (7, .slice AR5 t3.length cR5), (8, .slice AR8 t6.length cR8), (10, .slice AR14 t12.length cR14), (11, .slice AR20 t18.length cR20), (12, .slice Ay30 y30.length cy30), (13, .int .i64 y28), (14, .int .i64 y29), (50, .bool false), (51, .slice AR14 t12.length cR14), (52, .int .i64 y29)]) (by kernel_rfl) (by decide) ?_
            by_cases hb38 : 0 ≤ y29 ∧ y29 < (t12.length : Int)
            case neg => rw [if_neg hb38] at h; cases h
            rw [if_pos hb38] at h
            refine WL.tell (op := .indexAddr 60 (.tmp 51) (.tmp 52)) (ty := 0) (d := some 53) (g := some (6, false)) (by kernel_rfl) (by kernel_rfl) (by kernel_rfl) (Tells.indexAddr (A := AR14) (n := t12.length) (c := cR14) (k := .i64) (j := y29) (by kernel_rfl) (by kernel_rfl) (HR14.isSome hb38.1 hb38.2) hb38.1 hb38.2 sl60) ?_
            refine WL.tell (op := .fieldAddr 63 (.tmp 53) 0) (ty := 0) (d := some 54) (g := some (6, false)) (by kernel_rfl) (by kernel_rfl) (by kernel_rfl) (Tells.fieldElem (m := y29.toNat * 3) (A := AR14) (by kernel_rfl) (HR14.isSome hb38.1 hb38.2) fi63_0) ?_
            refine WL.tellE (op := .load 3 (.tmp 54)) (ty := 3) (d := some 55) (g := some (6, false)) (by kernel_rfl) (by kernel_rfl) (by kernel_rfl) (HR14.loadF (i := 2) rfl (agg := false) (off := 0) hb38.1 hb38.2 z63 ag3 (fun _ => rfl) (by decide) (by kernel_rfl)) ?_
            rintro _ rfl
            refine WL.rest 12 [2, 7, 8, 10, 11, 12, 13, 14, 58] (L' := [(2, .int .i64 (IntKind.i64.wrap (1 + t1))), (7, .slice AR5 t3.length cR5), (8, .slice AR8 t6.length cR8), (10, .slice AR14 t12.length cR14), (11, .slice AR20 t18.length cR20), (12, .slice Ay30 y30.length cy30), (13, .int .i64 y28), (14, .int .i64 y29), (58, .bool (decide (((t12.getD y29.toNat z63).f0) ≥ (IntKind.i64.wrap (1 + t1)))))]) (by kernel_rfl) ?_
            refine QP.pick [2, 7, 8, 10, 11, 12, 13, 14, 58] ?_
            exact QP.meet ⟨_, Option.some.inj h, rfl, rfl, rfl⟩
        · rintro _ _ _ ⟨s34, rfl, rfl, rfl, rfl⟩
          clear h
          replace h := hk35
          refine WP.cond (b := s34) (by kernel_rfl) (fun hc => ?_) (fun hc => ?_)
          · replace hc := hc
            rw [if_pos hc] at h
            have hc39 := hc
            clear hc
            refine WP.seqP [6] (L' := [(6, .bool false)]) (by kernel_rfl) ?_
            refine WP.dropAt 4 ?_
            refine WP.dropAt 3 ?_
            refine WP.dropAt 2 ?_
            refine WP.dropAt 1 ?_
            refine WP.dropAt 0 ?_
            refine WP.ret ?_
            refine QP.thenR ?_
            refine QP.blockR ?_
            refine QP.thenR ?_
            refine QP.thenR ?_
            refine QP.blockR ?_
            refine QP.thenR ?_
            refine QP.thenR ?_
            obtain rfl := Option.some.inj h
            obtain rfl := Option.some.inj (show some _ = some _ from hk27)
            exact QP.returned [6] [.bool false] _ (by kernel_rfl) (by kernel_rfl) (by kernel_rfl) (fun W hI => ⟨_, _, _, rfl, ⟨rfl, rfl, rfl⟩, hI⟩)
          · replace hc := (Bool.eq_false_iff.1 hc)
            rw [if_neg hc] at h
            have hc39 := hc
            clear hc
            refine WP.skip ?_
            refine QP.next ?_
            refine WP.pick [2, 7, 8, 10, 11, 12, 13, 14] ?_
            refine WP.seq ?_
            refine WP.any (N := 22) (S := [⟨some 59, [12], []⟩, ⟨some 60, [10], []⟩, ⟨some 61, [14], []⟩, ⟨some 62, [60, 61], [1, 2]⟩, ⟨some 63, [62], [3]⟩, ⟨some 64, [63], [4]⟩, ⟨some 65, [12], []⟩, ⟨some 66, [10], []⟩, ⟨some 67, [14], []⟩, ⟨some 68, [66, 67], [7, 8]⟩, ⟨some 69, [68], [9]⟩, ⟨some 70, [69], [10]⟩, ⟨some 71, [65, 70], [6, 11]⟩, ⟨some 72, [71], [12]⟩, ⟨some 73, [10], []⟩, ⟨some 74, [14], []⟩, ⟨some 75, [73, 74], [14, 15]⟩, ⟨some 76, [75], [16]⟩, ⟨some 77, [76], [17]⟩, ⟨some 78, [72, 77], [13, 18]⟩, ⟨some 79, [59, 64], [0, 1, 2, 3, 4, 5, 6, 7, 8, 9, 10, 11, 12, 13, 14, 15, 16, 17, 18, 19]⟩, ⟨none, [78, 79], [0, 1, 2, 3, 4, 5, 6, 7, 8, 9, 10, 11, 12, 13, 14, 15, 16, 17, 18, 19, 20]⟩]) (kw := 21) (G0 := G) (Γ0 := Cy30 :: CR20 :: CR14 :: CR8 :: CR5 :: Γ) mo (by kernel_rfl) (fun hS => ?_)
            refine WA.pure [0, 1, 2, 6, 7, 8, 14, 15] [2, 7, 8, 10, 11, 12, 13, 14, 59, 60, 61, 65, 66, 67, 73, 74] (m := 14) (b' := 49607) (L' := [(2, .int .i64 (IntKind.i64.wrap (1 + t1))), (7, .slice AR5 t3.length cR5), (8, .slice AR8 t6.length cR8), (10, .slice AR14 t12.length cR14), (11, .slice AR20 t18.length cR20), (12, .slice Ay30 y30.length cy30), (13, .int .i64 y28), (14, .int .i64 y29), (59, .slice Ay30 y30.length cy30), (60, .slice AR14 t12.length cR14), (61, .int .i64 y29), (65, .slice Ay30 y30.length cy30), (66, .slice AR14 t12.length cR14), (67, .int .i64 y29), (73, .slice AR14 t12.length cR14), (74, .int .i64 y29)]) (by kernel_rfl) (NoPanic.then (NoPanic.block (NoPanic.then (NoPanic.then (NoPanic.block (NoPanic.then (NoPanic.then (NoPanic.body)))))))) Under.refl hS (by kernel_rfl) ?_
            by_cases hb40 : 0 ≤ y29 ∧ y29 < (t12.length : Int)
            case neg => rw [if_neg hb40] at h; cases h
            rw [if_pos hb40] at h
            refine WA.tell (i := 3) (m := 13) (b' := 49615) (by kernel_rfl) (NoPanic.then (NoPanic.block (NoPanic.then (NoPanic.then (NoPanic.block (NoPanic.then (NoPanic.then (NoPanic.body)))))))) Under.refl hS (by kernel_rfl) (op := .indexAddr 60 (.tmp 60) (.tmp 61)) (ty := 0) (d := some 62) (g := none) (by kernel_rfl) (by kernel_rfl) (by kernel_rfl) (Tells.indexAddr (A := AR14) (n := t12.length) (c := cR14) (k := .i64) (j := y29) (by kernel_rfl) (by kernel_rfl) (HR14.isSome hb40.1 hb40.2) hb40.1 hb40.2 sl60) ?_
            refine WA.tell (i := 4) (m := 12) (b' := 49631) (by kernel_rfl) (NoPanic.then (NoPanic.block (NoPanic.then (NoPanic.then (NoPanic.block (NoPanic.then (NoPanic.then (NoPanic.body)))))))) Under.refl hS (by kernel_rfl) (op := .fieldAddr 63 (.tmp 62) 0) (ty := 0) (d := some 63) (g := none) (by kernel_rfl) (by kernel_rfl) (by kernel_rfl) (Tells.fieldElem (m := y29.toNat * 3) (A := AR14) (by kernel_rfl) (HR14.isSome hb40.1 hb40.2) fi63_0) ?_
            refine WA.tellE (i := 5) (m := 11) (b' := 49663) (by kernel_rfl) (NoPanic.then (NoPanic.block (NoPanic.then (NoPanic.then (NoPanic.block (NoPanic.then (NoPanic.then (NoPanic.body)))))))) Under.refl hS (by kernel_rfl) (op := .load 3 (.tmp 63)) (ty := 3) (d := some 64) (g := none) (by kernel_rfl) (by kernel_rfl) (by kernel_rfl) (HR14.loadF (i := 2) rfl (agg := false) (off := 0) hb40.1 hb40.2 z63 ag3 (fun _ => rfl) (by decide) (by kernel_rfl)) ?_
            rintro _ rfl
            by_cases hb41 : 0 ≤ y29 ∧ y29 < (t12.length : Int)
            case neg => rw [if_neg hb41] at h; cases h
            rw [if_pos hb41] at h
            refine WA.tell (i := 9) (m := 10) (b' := 50175) (by kernel_rfl) (NoPanic.then (NoPanic.block (NoPanic.then (NoPanic.then (NoPanic.block (NoPanic.then (NoPanic.then (NoPanic.body)))))))) Under.refl hS (by kernel_rfl) (op := .indexAddr 60 (.tmp 66) (.tmp 67)) (ty := 0) (d := some 68) (g := none) (by kernel_rfl) (by kernel_rfl) (by kernel_rfl) (Tells.indexAddr (A := AR14) (n := t12.length) (c := cR14) (k := .i64) (j := y29) (by kernel_rfl) (by kernel_rfl) (HR14.isSome hb41.1 hb41.2) hb41.1 hb41.2 sl60) ?_
            refine WA.tell (i := 10) (m := 9) (b' := 51199) (by kernel_rfl) (NoPanic.then (NoPanic.block (NoPanic.then (NoPanic.then (NoPanic.block (NoPanic.then (NoPanic.then (NoPanic.body)))))))) Under.refl hS (by kernel_rfl) (op := .fieldAddr 63 (.tmp 68) 0) (ty := 0) (d := some 69) (g := none) (by kernel_rfl) (by kernel_rfl) (by kernel_rfl) (Tells.fieldElem (m := y29.toNat * 3) (A := AR14) (by kernel_rfl) (HR14.isSome hb41.1 hb41.2) fi63_0) ?_
            refine WA.tellE (i := 11) (m := 8) (b' := 53247) (by kernel_rfl) (NoPanic.then (NoPanic.block (NoPanic.then (NoPanic.then (NoPanic.block (NoPanic.then (NoPanic.then (NoPanic.body)))))))) Under.refl hS (by kernel_rfl) (op := .load 3 (.tmp 69)) (ty := 3) (d := some 70) (g := none) (by kernel_rfl) (by kernel_rfl) (by kernel_rfl) (HR14.loadF (i := 2) rfl (agg := false) (off := 0) hb41.1 hb41.2 z63 ag3 (fun _ => rfl) (by decide) (by kernel_rfl)) ?_
            rintro _ rfl
            by_cases hb42 : 0 ≤ ((t12.getD y29.toNat z63).f0) ∧ ((t12.getD y29.toNat z63).f0) < (y30.length : Int)
            case neg => rw [if_neg hb42] at h; cases h
            rw [if_pos hb42] at h
            refine WA.tell (i := 12) (m := 7) (b' := 57343) (by kernel_rfl) (NoPanic.then (NoPanic.block (NoPanic.then (NoPanic.then (NoPanic.block (NoPanic.then (NoPanic.then (NoPanic.body)))))))) Under.refl hS (by kernel_rfl) (op := .indexAddr 52 (.tmp 65) (.tmp 70)) (ty := 0) (d := some 71) (g := none) (by kernel_rfl) (by kernel_rfl) (by kernel_rfl) (Tells.indexAddr (A := Ay30) (n := y30.length) (c := cy30) (k := .i64) (j := ((t12.getD y29.toNat z63).f0)) (by kernel_rfl) (by kernel_rfl) (Hy30.isSome hb42.1 hb42.2) hb42.1 hb42.2 sl52) ?_
            refine WA.tellE (i := 13) (m := 6) (b' := 65535) (by kernel_rfl) (NoPanic.then (NoPanic.block (NoPanic.then (NoPanic.then (NoPanic.block (NoPanic.then (NoPanic.then (NoPanic.body)))))))) Under.refl hS (by kernel_rfl) (op := .load 3 (.tmp 71)) (ty := 3) (d := some 72) (g := none) (by kernel_rfl) (by kernel_rfl) (by kernel_rfl) (Hy30.load (i := 0) rfl (agg := false) hb42.1 hb42.2 0 ag3 (fun _ => rfl) (by kernel_rfl)) ?_
            rintro _ rfl
            by_cases hb43 : 0 ≤ y29 ∧ y29 < (t12.length : Int)
            case neg => rw [if_neg hb43] at h; cases h
            rw [if_pos hb43] at h
            refine WA.tell (i := 16) (m := 5) (b' := 131071) (by kernel_rfl) (NoPanic.then (NoPanic.block (NoPanic.then (NoPanic.then (NoPanic.block (NoPanic.then (NoPanic.then (NoPanic.body)))))))) Under.refl hS (by kernel_rfl) (op := .indexAddr 60 (.tmp 73) (.tmp 74)) (ty := 0) (d := some 75) (g := none) (by kernel_rfl) (by kernel_rfl) (by kernel_rfl) (Tells.indexAddr (A := AR14) (n := t12.length) (c := cR14) (k := .i64) (j := y29) (by kernel_rfl) (by kernel_rfl) (HR14.isSome hb43.1 hb43.2) hb43.1 hb43.2 sl60) ?_
            refine WA.tell (i := 17) (m := 4) (b' := 262143) (by kernel_rfl) (NoPanic.then (NoPanic.block (NoPanic.then (NoPanic.then (NoPanic.block (NoPanic.then (NoPanic.then (NoPanic.body)))))))) Under.refl hS (by kernel_rfl) (op := .fieldAddr 63 (.tmp 75) 2) (ty := 0) (d := some 76) (g := none) (by kernel_rfl) (by kernel_rfl) (by kernel_rfl) (Tells.fieldElem (m := y29.toNat * 3) (A := AR14) (by kernel_rfl) (HR14.isSome hb43.1 hb43.2) fi63_2) ?_
            refine WA.tellE (i := 18) (m := 3) (b' := 524287) (by kernel_rfl) (NoPanic.then (NoPanic.block (NoPanic.then (NoPanic.then (NoPanic.block (NoPanic.then (NoPanic.then (NoPanic.body)))))))) Under.refl hS (by kernel_rfl) (op := .load 3 (.tmp 76)) (ty := 3) (d := some 77) (g := none) (by kernel_rfl) (by kernel_rfl) (by kernel_rfl) (HR14.loadF (i := 2) rfl (agg := false) (off := 2) hb43.1 hb43.2 z63 ag3 (fun _ => rfl) (by decide) (by kernel_rfl)) ?_
            rintro _ rfl
            refine WA.pure [19] [2, 7, 8, 10, 11, 12, 13, 14, 59, 64, 78] (m := 2) (b' := 1048575) (L' := [(2, .int .i64 (IntKind.i64.wrap (1 + t1))), (7, .slice AR5 t3.length cR5), (8, .slice AR8 t6.length cR8), (10, .slice AR14 t12.length cR14), (11, .slice AR20 t18.length cR20), (12, .slice Ay30 y30.length cy30), (13, .int .i64 y28), (14, .int .i64 y29), (59, .slice Ay30 y30.length cy30), (64, .int .i64 ((t12.getD y29.toNat z63).f0)), (78, .int .i64 (IntKind.i64.wrap ((y30.getD ((t12.getD y29.toNat z63).f0).toNat 0) + ((t12.getD y29.toNat z63).f2))))]) (by kernel_rfl) (NoPanic.then (NoPanic.block (NoPanic.then (NoPanic.then (NoPanic.block (NoPanic.then (NoPanic.then (NoPanic.body)))))))) Under.refl hS (by kernel_rfl) ?_
            by_cases hb44 : 0 ≤ ((t12.getD y29.toNat z63).f0) ∧ ((t12.getD y29.toNat z63).f0) < (y30.length : Int)
            case neg => rw [if_neg hb44] at h; cases h
            rw [if_pos hb44] at h
            refine WA.tell (i := 20) (m := 1) (b' := 2097151) (by kernel_rfl) (NoPanic.then (NoPanic.block (NoPanic.then (NoPanic.then (NoPanic.block (NoPanic.then (NoPanic.then (NoPanic.body)))))))) Under.refl hS (by kernel_rfl) (op := .indexAddr 52 (.tmp 59) (.tmp 64)) (ty := 0) (d := some 79) (g := none) (by kernel_rfl) (by kernel_rfl) (by kernel_rfl) (Tells.indexAddr (A := Ay30) (n := y30.length) (c := cy30) (k := .i64) (j := ((t12.getD y29.toNat z63).f0)) (by kernel_rfl) (by kernel_rfl) (Hy30.isSome hb44.1 hb44.2) hb44.1 hb44.2 sl52) ?_
            refine WA.opK (i := 21) (kw' := 22) (m := 0) (b' := 4194303) (by kernel_rfl) rfl hS (by kernel_rfl) (op := .store 3 (.tmp 79) (.tmp 78)) (ty := 0) (d := none) (g := none) (by kernel_rfl) (by kernel_rfl) (by kernel_rfl) (Ow.store Hy30 (i := 0) rfl hb44.1 hb44.2 (z := (IntKind.i64.wrap ((y30.getD ((t12.getD y29.toNat z63).f0).toNat 0) + ((t12.getD y29.toNat z63).f2)))) (v := .int .i64 (IntKind.i64.wrap ((y30.getD ((t12.getD y29.toNat z63).f0).toNat 0) + ((t12.getD y29.toNat z63).f2)))) (by kernel_rfl) (by kernel_rfl) sz3 (by exact rfl)) ?_
            rintro _ _ _ ⟨rfl, rfl, C45, Ho46, rfl⟩
            refine ⟨_, _, Under.refl, ?_⟩
            refine WA.reput 12 (v := .slice Ay30 y30.length cy30) (v' := .slice Ay30 (y30.set ((t12.getD y29.toNat z63).f0).toNat (IntKind.i64.wrap ((y30.getD ((t12.getD y29.toNat z63).f0).toNat 0) + ((t12.getD y29.toNat z63).f2)))).length cy30) (by kernel_rfl) (by rw [List.length_set]) ?_
            refine WA.done hS (by kernel_rfl) ?_
            refine QP.pick [2, 7, 8, 10, 11, 12, 13, 14] ?_
            refine QP.next ?_
            obtain ⟨v47, hv48, h⟩ := Option.bind_eq_some_iff.1 h
            replace hv48 := Option.some.inj hv48
            have Hn49 := Ho46
            rw [hv48] at Hn49
            refine WP.reput 12 (v := .slice Ay30 (y30.set ((t12.getD y29.toNat z63).f0).toNat (IntKind.i64.wrap ((y30.getD ((t12.getD y29.toNat z63).f0).toNat 0) + ((t12.getD y29.toNat z63).f2)))).length cy30) (v' := .slice Ay30 v47.length cy30) (by kernel_rfl) (by subst hv48; rfl) ?_
            refine WP.pick [2, 7, 8, 10, 11, 12, 13, 14] ?_
            refine WP.seqR ?_
            refine WL.pure 0 3 [2, 7, 8, 10, 11, 12, 13, 14, 80, 81, 82] (L' := [(2, .int .i64 (IntKind.i64.wrap (1 + t1))), (7, .slice AR5 t3.length cR5), (8, .slice AR8 t6.length cR8), (10, .slice AR14 t12.length cR14), (11, .slice AR20 t18.length cR20), (12, .slice Ay30 v47.length cy30), (13, .int .i64 y28), (14, .int .i64 y29), (80, .int .i64 y28), (81, .slice AR14 t12.length cR14), (82, .int .i64 y29)]) (by kernel_rfl) (by decide) ?_
            by_cases hb50 : 0 ≤ y29 ∧ y29 < (t12.length : Int)
            case neg => rw [if_neg hb50] at h; cases h
            rw [if_pos hb50] at h
            refine WL.tell (op := .indexAddr 60 (.tmp 81) (.tmp 82)) (ty := 0) (d := some 83) (g := none) (by kernel_rfl) (by kernel_rfl) (by kernel_rfl) (Tells.indexAddr (A := AR14) (n := t12.length) (c := cR14) (k := .i64) (j := y29) (by kernel_rfl) (by kernel_rfl) (HR14.isSome hb50.1 hb50.2) hb50.1 hb50.2 sl60) ?_
            refine WL.tell (op := .fieldAddr 63 (.tmp 83) 2) (ty := 0) (d := some 84) (g := none) (by kernel_rfl) (by kernel_rfl) (by kernel_rfl) (Tells.fieldElem (m := y29.toNat * 3) (A := AR14) (by kernel_rfl) (HR14.isSome hb50.1 hb50.2) fi63_2) ?_
            refine WL.tellE (op := .load 3 (.tmp 84)) (ty := 3) (d := some 85) (g := none) (by kernel_rfl) (by kernel_rfl) (by kernel_rfl) (HR14.loadF (i := 2) rfl (agg := false) (off := 2) hb50.1 hb50.2 z63 ag3 (fun _ => rfl) (by decide) (by kernel_rfl)) ?_
            rintro _ rfl
            refine WL.restQ 6 [2, 7, 8, 10, 11, 12, 13, 14] (L' := [(2, .int .i64 (IntKind.i64.wrap (1 + t1))), (7, .slice AR5 t3.length cR5), (8, .slice AR8 t6.length cR8), (10, .slice AR14 t12.length cR14), (11, .slice AR20 t18.length cR20), (12, .slice Ay30 v47.length cy30), (13, .int .i64 (IntKind.i64.wrap (y28 + ((t12.getD y29.toNat z63).f2)))), (14, .int .i64 y29)]) (by kernel_rfl) ?_
            obtain ⟨v51, hv52, h⟩ := Option.bind_eq_some_iff.1 h
            replace hv52 := Option.some.inj hv52
            refine WP.reput 13 (v := .int .i64 (IntKind.i64.wrap (y28 + ((t12.getD y29.toNat z63).f2)))) (v' := .int .i64 v51) (by kernel_rfl) (by subst hv52; rfl) ?_
            refine WP.pick [2, 7, 8, 10, 11, 12, 13, 14] ?_
            refine WP.seqP [2, 7, 8, 10, 11, 12, 13, 14, 15] (L' := [(2, .int .i64 (IntKind.i64.wrap (1 + t1))), (7, .slice AR5 t3.length cR5), (8, .slice AR8 t6.length cR8), (10, .slice AR14 t12.length cR14), (11, .slice AR20 t18.length cR20), (12, .slice Ay30 v47.length cy30), (13, .int .i64 v51), (14, .int .i64 y29), (15, .int .i64 0)]) (by kernel_rfl) ?_
            rw [Option.bind_eq_some_iff] at h
            obtain ⟨os53, h, hk54⟩ := h
            refine WP.cutQ (fun L' G' Γ' => ∃ s53 : Unit, Sum.inr s53 = os53 ∧ L' = [(2, .int .i64 (IntKind.i64.wrap (1 + t1))), (7, .slice AR5 t3.length cR5), (8, .slice AR8 t6.length cR8), (10, .slice AR14 t12.length cR14), (11, .slice AR20 t18.length cR20), (12, .slice Ay30 v47.length cy30), (13, .int .i64 v51), (14, .int .i64 y29)] ∧ G = G' ∧ C45 :: CR20 :: CR14 :: CR8 :: CR5 :: Γ = Γ') ?_ ?_
            · skip
              refine WP.block ?_
              refine WP.pick [2, 7, 8, 10, 11, 12, 13, 14, 15] ?_
              refine WP.loopF (fun k56 L' G' Γ' => ∃ (y55 : Int), grapevinelaw3_VectorSpans_l1 t12 t18 y29 k56 y55 = some os53 ∧ L' = [(2, .int .i64 (IntKind.i64.wrap (1 + t1))), (7, .slice AR5 t3.length cR5), (8, .slice AR8 t6.length cR8), (10, .slice AR14 t12.length cR14), (11, .slice AR20 t18.length cR20), (12, .slice Ay30 v47.length cy30), (13, .int .i64 v51), (14, .int .i64 y29), (15, .int .i64 y55)] ∧ G = G' ∧ C45 :: CR20 :: CR14 :: CR8 :: CR5 :: Γ = Γ') ?_ k32 ⟨0, h, rfl, rfl, rfl⟩
              clear h
              rintro k57 _ _ _ ⟨y55, h, rfl, rfl, rfl⟩
              cases k57 with
              | zero => exact absurd h (by simp [grapevinelaw3_VectorSpans_l1])
              | succ k57 =>
                simp only [grapevinelaw3_VectorSpans_l1] at h
                refine WP.seq ?_
                refine WP.seqP [2, 7, 8, 10, 11, 12, 13, 14, 15, 90] (L' := [(2, .int .i64 (IntKind.i64.wrap (1 + t1))), (7, .slice AR5 t3.length cR5), (8, .slice AR8 t6.length cR8), (10, .slice AR14 t12.length cR14), (11, .slice AR20 t18.length cR20), (12, .slice Ay30 v47.length cy30), (13, .int .i64 v51), (14, .int .i64 y29), (15, .int .i64 y55), (90, .bool (decide (y55 < (t18.length : Int))))]) (by kernel_rfl) ?_
                refine WP.cond (b := decide (y55 < (t18.length : Int))) (by kernel_rfl) (fun hc => ?_) (fun hc => ?_)
                · replace hc := of_decide_eq_true hc
                  rw [if_pos hc] at h
                  have hc58 := hc
                  clear hc
                  refine WP.skip ?_
                  refine QP.next ?_
                  refine WP.pick [2, 7, 8, 10, 11, 12, 13, 14, 15] ?_
                  refine WP.seq ?_
                  refine WP.block ?_
                  refine WP.seq ?_
                  refine WP.any (N := 11) (S := [⟨some 93, [11], []⟩, ⟨some 94, [15], []⟩, ⟨some 95, [93, 94], [0, 1]⟩, ⟨some 96, [95], [2]⟩, ⟨some 97, [96], [3]⟩, ⟨some 98, [10], []⟩, ⟨some 99, [14], []⟩, ⟨some 100, [98, 99], [5, 6]⟩, ⟨some 101, [100], [7]⟩, ⟨some 102, [101], [8]⟩, ⟨some 103, [97, 102], [4, 9]⟩]) (kw := 11) (G0 := G) (Γ0 := C45 :: CR20 :: CR14 :: CR8 :: CR5 :: Γ) mo (by kernel_rfl) (fun hS => ?_)
                  refine WA.pure [0, 1, 5, 6] [2, 7, 8, 10, 11, 12, 13, 14, 15, 93, 94, 98, 99] (m := 7) (b' := 99) (L' := [(2, .int .i64 (IntKind.i64.wrap (1 + t1))), (7, .slice AR5 t3.length cR5), (8, .slice AR8 t6.length cR8), (10, .slice AR14 t12.length cR14), (11, .slice AR20 t18.length cR20), (12, .slice Ay30 v47.length cy30), (13, .int .i64 v51), (14, .int .i64 y29), (15, .int .i64 y55), (93, .slice AR20 t18.length cR20), (94, .int .i64 y55), (98, .slice AR14 t12.length cR14), (99, .int .i64 y29)]) (by kernel_rfl) (NoPanic.then (NoPanic.block (NoPanic.then (NoPanic.then (NoPanic.block (NoPanic.then (NoPanic.block (NoPanic.then (NoPanic.then (NoPanic.block (NoPanic.then (NoPanic.then (NoPanic.body))))))))))))) Under.refl hS (by kernel_rfl) ?_
                  by_cases hb59 : 0 ≤ y55 ∧ y55 < (t18.length : Int)
                  case neg => rw [if_neg hb59] at h; cases h
                  rw [if_pos hb59] at h
                  refine WA.tell (i := 2) (m := 6) (b' := 103) (by kernel_rfl) (NoPanic.then (NoPanic.block (NoPanic.then (NoPanic.then (NoPanic.block (NoPanic.then (NoPanic.block (NoPanic.then (NoPanic.then (NoPanic.block (NoPanic.then (NoPanic.then (NoPanic.body))))))))))))) Under.refl hS (by kernel_rfl) (op := .indexAddr 60 (.tmp 93) (.tmp 94)) (ty := 0) (d := some 95) (g := none) (by kernel_rfl) (by kernel_rfl) (by kernel_rfl) (Tells.indexAddr (A := AR20) (n := t18.length) (c := cR20) (k := .i64) (j := y55) (by kernel_rfl) (by kernel_rfl) (HR20.isSome hb59.1 hb59.2) hb59.1 hb59.2 sl60) ?_
                  refine WA.tell (i := 3) (m := 5) (b' := 111) (by kernel_rfl) (NoPanic.then (NoPanic.block (NoPanic.then (NoPanic.then (NoPanic.block (NoPanic.then (NoPanic.block (NoPanic.then (NoPanic.then (NoPanic.block (NoPanic.then (NoPanic.then (NoPanic.body))))))))))))) Under.refl hS (by kernel_rfl) (op := .fieldAddr 63 (.tmp 95) 0) (ty := 0) (d := some 96) (g := none) (by kernel_rfl) (by kernel_rfl) (by kernel_rfl) (Tells.fieldElem (m := y55.toNat * 3) (A := AR20) (by kernel_rfl) (HR20.isSome hb59.1 hb59.2) fi63_0) ?_
                  refine WA.tellE (i := 4) (m := 4) (b' := 127) (by kernel_rfl) (NoPanic.then (NoPanic.block (NoPanic.then (NoPanic.then (NoPanic.block (NoPanic.then (NoPanic.block (NoPanic.then (NoPanic.then (NoPanic.block (NoPanic.then (NoPanic.then (NoPanic.body))))))))))))) Under.refl hS (by kernel_rfl) (op := .load 3 (.tmp 96)) (ty := 3) (d := some 97) (g := none) (by kernel_rfl) (by kernel_rfl) (by kernel_rfl) (HR20.loadF (i := 1) rfl (agg := false) (off := 0) hb59.1 hb59.2 z63 ag3 (fun _ => rfl) (by decide) (by kernel_rfl)) ?_
                  rintro _ rfl
                  by_cases hb60 : 0 ≤ y29 ∧ y29 < (t12.length : Int)
                  case neg => rw [if_neg hb60] at h; cases h
                  rw [if_pos hb60] at h
                  refine WA.tell (i := 7) (m := 3) (b' := 255) (by kernel_rfl) (NoPanic.then (NoPanic.block (NoPanic.then (NoPanic.then (NoPanic.block (NoPanic.then (NoPanic.block (NoPanic.then (NoPanic.then (NoPanic.block (NoPanic.then (NoPanic.then (NoPanic.body))))))))))))) Under.refl hS (by kernel_rfl) (op := .indexAddr 60 (.tmp 98) (.tmp 99)) (ty := 0) (d := some 100) (g := none) (by kernel_rfl) (by kernel_rfl) (by kernel_rfl) (Tells.indexAddr (A := AR14) (n := t12.length) (c := cR14) (k := .i64) (j := y29) (by kernel_rfl) (by kernel_rfl) (HR14.isSome hb60.1 hb60.2) hb60.1 hb60.2 sl60) ?_
                  refine WA.tell (i := 8) (m := 2) (b' := 511) (by kernel_rfl) (NoPanic.then (NoPanic.block (NoPanic.then (NoPanic.then (NoPanic.block (NoPanic.then (NoPanic.block (NoPanic.then (NoPanic.then (NoPanic.block (NoPanic.then (NoPanic.then (NoPanic.body))))))))))))) Under.refl hS (by kernel_rfl) (op := .fieldAddr 63 (.tmp 100) 0) (ty := 0) (d := some 101) (g := none) (by kernel_rfl) (by kernel_rfl) (by kernel_rfl) (Tells.fieldElem (m := y29.toNat * 3) (A := AR14) (by kernel_rfl) (HR14.isSome hb60.1 hb60.2) fi63_0) ?_
                  refine WA.tellE (i := 9) (m := 1) (b' := 1023) (by kernel_rfl) (NoPanic.then (NoPanic.block (NoPanic.then (NoPanic.then (NoPanic.block (NoPanic.then (NoPanic.block (NoPanic.then (NoPanic.then (NoPanic.block (NoPanic.then (NoPanic.then (NoPanic.body))))))))))))) Under.refl hS (by kernel_rfl) (op := .load 3 (.tmp 101)) (ty := 3) (d := some 102) (g := none) (by kernel_rfl) (by kernel_rfl) (by kernel_rfl) (HR14.loadF (i := 2) rfl (agg := false) (off := 0) hb60.1 hb60.2 z63 ag3 (fun _ => rfl) (by decide) (by kernel_rfl)) ?_
                  rintro _ rfl
                  refine WA.pure [10] [2, 7, 8, 10, 11, 12, 13, 14, 15, 103] (m := 0) (b' := 2047) (L' := [(2, .int .i64 (IntKind.i64.wrap (1 + t1))), (7, .slice AR5 t3.length cR5), (8, .slice AR8 t6.length cR8), (10, .slice AR14 t12.length cR14), (11, .slice AR20 t18.length cR20), (12, .slice Ay30 v47.length cy30), (13, .int .i64 v51), (14, .int .i64 y29), (15, .int .i64 y55), (103, .bool (((t18.getD y55.toNat z63).f0) == ((t12.getD y29.toNat z63).f0)))]) (by kernel_rfl) (NoPanic.then (NoPanic.block (NoPanic.then (NoPanic.then (NoPanic.block (NoPanic.then (NoPanic.block (NoPanic.then (NoPanic.then (NoPanic.block (NoPanic.then (NoPanic.then (NoPanic.body))))))))))))) Under.refl hS (by kernel_rfl) ?_
                  refine WA.done hS (by kernel_rfl) ?_
                  refine QP.pick [2, 7, 8, 10, 11, 12, 13, 14, 15, 103] ?_
                  refine QP.next ?_
                  refine WP.cond (b := (((t18.getD y55.toNat z63).f0) == ((t12.getD y29.toNat z63).f0))) (by kernel_rfl) (fun hc => ?_) (fun hc => ?_)
                  · replace hc := eq_of_beq hc
                    rw [if_pos hc] at h
                    have hc61 := hc
                    clear hc
                    refine WP.seqP [6] (L' := [(6, .bool false)]) (by kernel_rfl) ?_
                    refine WP.dropAt 4 ?_
                    refine WP.dropAt 3 ?_
                    refine WP.dropAt 2 ?_
                    refine WP.dropAt 1 ?_
                    refine WP.dropAt 0 ?_
                    refine WP.ret ?_
                    refine QP.blockR ?_
                    refine QP.thenR ?_
                    refine QP.thenR ?_
                    refine QP.blockR ?_
                    refine QP.thenR ?_
                    refine QP.blockR ?_
                    refine QP.thenR ?_
                    refine QP.thenR ?_
                    refine QP.blockR ?_
                    refine QP.thenR ?_
                    refine QP.thenR ?_
                    obtain rfl := Option.some.inj h
                    obtain rfl := Option.some.inj (show some (Sum.inl _) = some _ from hk54)
                    obtain rfl := Option.some.inj (show some _ = some _ from hk27)
                    exact QP.returned [6] [.bool false] _ (by kernel_rfl) (by kernel_rfl) (by kernel_rfl) (fun W hI => ⟨_, _, _, rfl, ⟨rfl, rfl, rfl⟩, hI⟩)
                  · replace hc := ne_of_beq_false hc
                    rw [if_neg hc] at h
                    have hc61 := hc
                    clear hc
                    refine WP.skip ?_
                    refine QP.blockN ?_
                    refine QP.next ?_
                    refine WP.pick [2, 7, 8, 10, 11, 12, 13, 14, 15] ?_
                    refine WP.regionP [2, 7, 8, 10, 11, 12, 13, 14, 15] (L' := [(2, .int .i64 (IntKind.i64.wrap (1 + t1))), (7, .slice AR5 t3.length cR5), (8, .slice AR8 t6.length cR8), (10, .slice AR14 t12.length cR14), (11, .slice AR20 t18.length cR20), (12, .slice Ay30 v47.length cy30), (13, .int .i64 v51), (14, .int .i64 y29), (15, .int .i64 (IntKind.i64.wrap (y55 + 1)))]) (by kernel_rfl) ?_
                    refine QP.front (i := 4) rfl ?_
                    refine QP.front (i := 4) rfl ?_
                    refine QP.front (i := 4) rfl ?_
                    refine QP.front (i := 4) rfl ?_
                    refine QP.front (i := 4) rfl ?_
                    refine QP.pick [2, 7, 8, 10, 11, 12, 13, 14, 15] ?_
                    exact QP.meet ⟨k57, Nat.lt_succ_self _, (IntKind.i64.wrap (y55 + 1)), h, rfl, rfl, rfl⟩
                · replace hc := of_decide_eq_false hc
                  rw [if_neg hc] at h
                  have hc58 := hc
                  clear hc
                  refine WP.exit ?_
                  refine QP.thenE ?_
                  refine QP.thenE ?_
                  refine QP.blockE ?_
                  refine QP.pick [2, 7, 8, 10, 11, 12, 13, 14] ?_
                  exact QP.meet ⟨_, Option.some.inj h, rfl, rfl, rfl⟩
            · rintro _ _ _ ⟨s53, rfl, rfl, rfl, rfl⟩
              clear h
              replace h := hk54
              refine QP.blockN ?_
              refine QP.next ?_
              refine WP.pick [2, 7, 8, 10, 11, 12, 13, 14] ?_
              refine WP.regionP [2, 7, 8, 10, 11, 12, 13, 14] (L' := [(2, .int .i64 (IntKind.i64.wrap (1 + t1))), (7, .slice AR5 t3.length cR5), (8, .slice AR8 t6.length cR8), (10, .slice AR14 t12.length cR14), (11, .slice AR20 t18.length cR20), (12, .slice Ay30 v47.length cy30), (13, .int .i64 v51), (14, .int .i64 (IntKind.i64.wrap (y29 + 1)))]) (by kernel_rfl) ?_
              refine QP.front (i := 4) rfl ?_
              refine QP.front (i := 4) rfl ?_
              refine QP.front (i := 4) rfl ?_
              refine QP.front (i := 4) rfl ?_
              refine QP.front (i := 4) rfl ?_
              refine QP.pick [2, 7, 8, 10, 11, 12, 13, 14] ?_
              exact QP.meet ⟨k32, Nat.lt_succ_self _, v51, (IntKind.i64.wrap (y29 + 1)), v47, h, Ay30, cy30, C45, rfl, rfl, rfl, Hn49⟩
      · replace hc := of_decide_eq_false hc
        rw [if_neg hc] at h
        have hc33 := hc
        clear hc
        refine WP.exit ?_
        refine QP.thenE ?_
        refine QP.thenE ?_
        refine QP.blockE ?_
        refine QP.pick [7, 8, 10, 11, 12, 13] ?_
        exact QP.meet ⟨_, Option.some.inj h, Ay30, cy30, Cy30, rfl, rfl, rfl, Hy30⟩
  · rintro _ _ _ ⟨s26, rfl, As26_2, cs26_2, Cs26_2, rfl, rfl, rfl, Hs26_2⟩
    clear h
    replace h := hk27
    refine QP.next ?_
    refine WP.pick [7, 8, 10, 11, 12, 13] ?_
    refine WP.seq ?_
    refine WP.seqP [7, 8, 10, 11, 12, 13, 16] (L' := [(7, .slice AR5 t3.length cR5), (8, .slice AR8 t6.length cR8), (10, .slice AR14 t12.length cR14), (11, .slice AR20 t18.length cR20), (12, .slice As26_2 s26.2.length cs26_2), (13, .int .i64 s26.1), (16, .int .i64 0)]) (by kernel_rfl) ?_
    rw [Option.bind_eq_some_iff] at h
    obtain ⟨os62, h, hk63⟩ := h
    refine WP.cutQ (fun L' G' Γ' => ∃ s62 : Int, s62 = os62 ∧ L' = [(7, .slice AR5 t3.length cR5), (8, .slice AR8 t6.length cR8), (10, .slice AR14 t12.length cR14), (12, .slice As26_2 s26.2.length cs26_2), (13, .int .i64 s62)] ∧ G = G' ∧ Cs26_2 :: CR20 :: CR14 :: CR8 :: CR5 :: Γ = Γ') ?_ ?_
    · clear hk63
      refine WP.block ?_
      refine WP.pick [7, 8, 10, 11, 12, 13, 16] ?_
      refine WP.loopF (fun k66 L' G' Γ' => ∃ (y64 : Int), ∃ (y65 : Int), grapevinelaw3_VectorSpans_l2 t18 k66 y64 y65 = some os62 ∧ L' = [(7, .slice AR5 t3.length cR5), (8, .slice AR8 t6.length cR8), (10, .slice AR14 t12.length cR14), (11, .slice AR20 t18.length cR20), (12, .slice As26_2 s26.2.length cs26_2), (13, .int .i64 y64), (16, .int .i64 y65)] ∧ G = G' ∧ Cs26_2 :: CR20 :: CR14 :: CR8 :: CR5 :: Γ = Γ') ?_ k ⟨s26.1, 0, h, rfl, rfl, rfl⟩
      clear h
      rintro k67 _ _ _ ⟨y64, y65, h, rfl, rfl, rfl⟩
      cases k67 with
      | zero => exact absurd h (by simp [grapevinelaw3_VectorSpans_l2])
      | succ k67 =>
        simp only [grapevinelaw3_VectorSpans_l2] at h
        refine WP.seq ?_
        refine WP.seqP [7, 8, 10, 11, 12, 13, 16, 107] (L' := [(7, .slice AR5 t3.length cR5), (8, .slice AR8 t6.length cR8), (10, .slice AR14 t12.length cR14), (11, .slice AR20 t18.length cR20), (12, .slice As26_2 s26.2.length cs26_2), (13, .int .i64 y64), (16, .int .i64 y65), (107, .bool (decide (y65 < (t18.length : Int))))]) (by kernel_rfl) ?_
        refine WP.cond (b := decide (y65 < (t18.length : Int))) (by kernel_rfl) (fun hc => ?_) (fun hc => ?_)
        · replace hc := of_decide_eq_true hc
          rw [if_pos hc] at h
          have hc68 := hc
          clear hc
          refine WP.skip ?_
          refine QP.next ?_
          refine WP.pick [7, 8, 10, 11, 12, 13, 16] ?_
          refine WP.seq ?_
          refine WP.block ?_
          refine WP.region ?_
          refine WL.pure 0 3 [7, 8, 10, 11, 12, 13, 16, 110, 111, 112] (L' := [(7, .slice AR5 t3.length cR5), (8, .slice AR8 t6.length cR8), (10, .slice AR14 t12.length cR14), (11, .slice AR20 t18.length cR20), (12, .slice As26_2 s26.2.length cs26_2), (13, .int .i64 y64), (16, .int .i64 y65), (110, .int .i64 y64), (111, .slice AR20 t18.length cR20), (112, .int .i64 y65)]) (by kernel_rfl) (by decide) ?_
          by_cases hb69 : 0 ≤ y65 ∧ y65 < (t18.length : Int)
          case neg => rw [if_neg hb69] at h; cases h
          rw [if_pos hb69] at h
          refine WL.tell (op := .indexAddr 60 (.tmp 111) (.tmp 112)) (ty := 0) (d := some 113) (g := none) (by kernel_rfl) (by kernel_rfl) (by kernel_rfl) (Tells.indexAddr (A := AR20) (n := t18.length) (c := cR20) (k := .i64) (j := y65) (by kernel_rfl) (by kernel_rfl) (HR20.isSome hb69.1 hb69.2) hb69.1 hb69.2 sl60) ?_
          refine WL.tell (op := .fieldAddr 63 (.tmp 113) 2) (ty := 0) (d := some 114) (g := none) (by kernel_rfl) (by kernel_rfl) (by kernel_rfl) (Tells.fieldElem (m := y65.toNat * 3) (A := AR20) (by kernel_rfl) (HR20.isSome hb69.1 hb69.2) fi63_2) ?_
          refine WL.tellE (op := .load 3 (.tmp 114)) (ty := 3) (d := some 115) (g := none) (by kernel_rfl) (by kernel_rfl) (by kernel_rfl) (HR20.loadF (i := 1) rfl (agg := false) (off := 2) hb69.1 hb69.2 z63 ag3 (fun _ => rfl) (by decide) (by kernel_rfl)) ?_
          rintro _ rfl
          refine WL.rest 6 [7, 8, 10, 11, 12, 13, 16] (L' := [(7, .slice AR5 t3.length cR5), (8, .slice AR8 t6.length cR8), (10, .slice AR14 t12.length cR14), (11, .slice AR20 t18.length cR20), (12, .slice As26_2 s26.2.length cs26_2), (13, .int .i64 (IntKind.i64.wrap (y64 - ((t18.getD y65.toNat z63).f2)))), (16, .int .i64 y65)]) (by kernel_rfl) ?_
          refine QP.blockN ?_
          refine QP.next ?_
          refine WP.pick [7, 8, 10, 11, 12, 13, 16] ?_
          refine WP.regionP [7, 8, 10, 11, 12, 13, 16] (L' := [(7, .slice AR5 t3.length cR5), (8, .slice AR8 t6.length cR8), (10, .slice AR14 t12.length cR14), (11, .slice AR20 t18.length cR20), (12, .slice As26_2 s26.2.length cs26_2), (13, .int .i64 (IntKind.i64.wrap (y64 - ((t18.getD y65.toNat z63).f2)))), (16, .int .i64 (IntKind.i64.wrap (y65 + 1)))]) (by kernel_rfl) ?_
          refine QP.front (i := 4) rfl ?_
          refine QP.front (i := 4) rfl ?_
          refine QP.front (i := 4) rfl ?_
          refine QP.front (i := 4) rfl ?_
          refine QP.front (i := 4) rfl ?_
          refine QP.pick [7, 8, 10, 11, 12, 13, 16] ?_
          exact QP.meet ⟨k67, Nat.lt_succ_self _, (IntKind.i64.wrap (y64 - ((t18.getD y65.toNat z63).f2))), (IntKind.i64.wrap (y65 + 1)), h, rfl, rfl, rfl⟩
        · replace hc := of_decide_eq_false hc
          rw [if_neg hc] at h
          have hc68 := hc
          clear hc
          refine WP.exit ?_
          refine QP.thenE ?_
          refine QP.thenE ?_
          refine QP.blockE ?_
          refine QP.pick [7, 8, 10, 12, 13] ?_
          exact QP.meet ⟨_, Option.some.inj h, rfl, rfl, rfl⟩
    · rintro _ _ _ ⟨s62, rfl, rfl, rfl, rfl⟩
      clear h
      replace h := hk63
      refine QP.next ?_
      refine WP.pick [7, 8, 10, 12, 13] ?_
      rw [Option.bind_eq_some_iff] at h
      obtain ⟨os70, h, hk71⟩ := h
      refine WP.cut (fun L' G' Γ' => ∃ s70 : Bool, s70 = os70 ∧ L' = [(6, .bool s70)] ∧ G = G' ∧ Cs26_2 :: CR20 :: CR14 :: CR8 :: CR5 :: Γ = Γ') ?_ ?_
      · clear hk71
        refine WP.region ?_
        refine WL.pure 0 2 [7, 8, 10, 12, 117, 118] (L' := [(7, .slice AR5 t3.length cR5), (8, .slice AR8 t6.length cR8), (10, .slice AR14 t12.length cR14), (12, .slice As26_2 s26.2.length cs26_2), (117, .int .i64 s62), (118, .slice AR5 t3.length cR5)]) (by kernel_rfl) (by decide) ?_
        rw [Option.bind_eq_some_iff] at h
        obtain ⟨t72, ht73, h⟩ := h
        refine WL.op (op := .call { callee := (.value (.func 38)), args := #[(.tmp 118)], argTypes := #[52] }) (ty := 3) (d := some 119) (g := none) (by kernel_rfl) (by kernel_rfl) (by kernel_rfl) (Does.call (Φ := fun v' G' Γ' => v' = .int .i64 t72 ∧ G = G' ∧ Cs26_2 :: CR20 :: CR14 :: CR8 :: CR5 :: Γ = Γ') (f := 38) (args := [.slice AR5 t3.length cR5]) (by kernel_rfl) (fun W hI => Calls.lend (i := 4) rfl (Ow.nodup HR5) hI (fun _ e l74 hI => by subst e; exact (vector_Sum_calls k t3 AR5 cR5 (HR5.rd l74) t72 ht73 hI)))) ?_
        rintro _ _ _ ⟨rfl, rfl, rfl⟩
        refine WL.pure 3 4 [7, 8, 10, 12, 117, 119, 120] (L' := [(7, .slice AR5 t3.length cR5), (8, .slice AR8 t6.length cR8), (10, .slice AR14 t12.length cR14), (12, .slice As26_2 s26.2.length cs26_2), (117, .int .i64 s62), (119, .int .i64 t72), (120, .slice AR8 t6.length cR8)]) (by kernel_rfl) (by decide) ?_
        rw [Option.bind_eq_some_iff] at h
        obtain ⟨t75, ht76, h⟩ := h
        refine WL.op (op := .call { callee := (.value (.func 38)), args := #[(.tmp 120)], argTypes := #[52] }) (ty := 3) (d := some 121) (g := none) (by kernel_rfl) (by kernel_rfl) (by kernel_rfl) (Does.call (Φ := fun v' G' Γ' => v' = .int .i64 t75 ∧ G = G' ∧ Cs26_2 :: CR20 :: CR14 :: CR8 :: CR5 :: Γ = Γ') (f := 38) (args := [.slice AR8 t6.length cR8]) (by kernel_rfl) (fun W hI => Calls.lend (i := 3) rfl (Ow.nodup HR8) hI (fun _ e l77 hI => by subst e; exact (vector_Sum_calls k t6 AR8 cR8 (HR8.rd l77) t75 ht76 hI)))) ?_
        rintro _ _ _ ⟨rfl, rfl, rfl⟩
        refine WL.pure 5 8 [7, 8, 10, 12, 124] (L' := [(7, .slice AR5 t3.length cR5), (8, .slice AR8 t6.length cR8), (10, .slice AR14 t12.length cR14), (12, .slice As26_2 s26.2.length cs26_2), (124, .bool (s62 == (IntKind.i64.wrap (t72 - t75))))]) (by kernel_rfl) (by decide) ?_
        refine WL.split 124 (b := (s62 == (IntKind.i64.wrap (t72 - t75)))) (by kernel_rfl) (fun hc => ?_) (fun hc => ?_)
        · replace hc := eq_of_beq hc
          rw [if_pos hc] at h
          have hc78 := hc
          clear hc
          refine WL.pure 8 11 [7, 8, 10, 124, 125, 126, 127] (L' := [(7, .slice AR5 t3.length cR5), (8, .slice AR8 t6.length cR8), (10, .slice AR14 t12.length cR14), (124, .bool true), (125, .slice As26_2 s26.2.length cs26_2), (126, .slice AR5 t3.length cR5), (127, .slice AR8 t6.length cR8)]) (by kernel_rfl) (by decide) ?_
          refine WL.op (op := .buildSlice 84 2 #[(0, (.tmp 126)), (1, (.tmp 127))]) (ty := 84) (d := some 128) (g := some (7, true)) (by kernel_rfl) (by kernel_rfl) (by kernel_rfl) (Does.new (o := .cells #[.slice AR5 t3.length cR5, .slice AR8 t6.length cR8] 52 (0, 0)) (v := fun r => .slice (some ⟨r, 0, none⟩) 2 2) (fun r => by kernel_rfl)) ?_
          rintro _ _ _ ⟨b79, rfl, rfl, rfl⟩
          rw [Option.bind_eq_some_iff] at h
          obtain ⟨t82, ht83, h⟩ := h
          refine WL.op (op := .call { callee := (.value (.func 33)), args := #[(.tmp 128)], argTypes := #[84] }) (ty := 52) (d := some 129) (g := some (7, true)) (by kernel_rfl) (by kernel_rfl) (by kernel_rfl) (Does.call (Φ := fun v' G' Γ' => ∃ (AR84 : Option Addr), ∃ (cR84 : Nat), ∃ (CR84 : Chunk), v' = .slice AR84 t82.length cR84 ∧ Ow (kInt .i64) G AR84 cR84 t82 CR84 ∧ G = G' ∧ CR84 :: [(b79, .cells #[.slice AR5 t3.length cR5, .slice AR8 t6.length cR8] 52 (0, 0))] :: Cs26_2 :: CR20 :: CR14 :: CR8 :: CR5 :: Γ = Γ') (f := 33) (args := [.slice (some ⟨b79, 0, none⟩) ([t3, t6] : List (List Int)).length 2]) (by kernel_rfl) (fun W hI => (Calls.lendR (Φ := fun v' N => ∃ (AR84 : Option Addr), ∃ (cR84 : Nat), ∃ (CR84 : Chunk), v' = .slice AR84 t82.length cR84 ∧ Ow (kInt .i64) G AR84 cR84 t82 CR84 ∧ N = [CR84]) (i := 5) rfl (Ow.nodup HR5) hI (fun _ e l85 hI => by subst e; exact Calls.lendR (Φ := fun v' N => ∃ (AR84 : Option Addr), ∃ (cR84 : Nat), ∃ (CR84 : Chunk), v' = .slice AR84 t82.length cR84 ∧ Ow (kInt .i64) G AR84 cR84 t82 CR84 ∧ N = [CR84]) (i := 4) rfl (Ow.nodup (HR8.mono l85)) hI (fun _ e l86 hI => by subst e; exact Calls.lendR (Φ := fun v' N => ∃ (AR84 : Option Addr), ∃ (cR84 : Nat), ∃ (CR84 : Chunk), v' = .slice AR84 t82.length cR84 ∧ Ow (kInt .i64) G AR84 cR84 t82 CR84 ∧ N = [CR84]) (i := 0) rfl (by simp) hI (fun _ e l87 hI => by subst e; exact ((vector_Join_calls k ([t3, t6] : List (List Int)) (some ⟨b79, 0, none⟩) 2 ((Ow.lit (kd := (kSlice (kInt .i64))) (b := b79) (T := 52) (xs := ([t3, t6] : List (List Int))) (cs := [.slice AR5 t3.length cR5, .slice AR8 t6.length cR8]) (.cons (x := t3) (cs := [.slice AR5 t3.length cR5]) ⟨AR5, cR5, rfl, ((HR5.rd l85).mono l86)⟩ (.cons (x := t6) (cs := [.slice AR8 t6.length cR8]) ⟨AR8, cR8, rfl, ((HR8.mono l85).rd l86)⟩ .nil))).rd l87) t82 ht83 hI).mono fun _ _ hr => by obtain ⟨_, _, _, rfl, ⟨AR84, cR84, CR84, rfl, HR84, rfl, rfl⟩, hI⟩ := hr; exact ⟨_, _, _, rfl, ⟨[CR84], ⟨AR84, cR84, CR84, rfl, (HR84.flat (kInt_flat _)), rfl⟩, rfl, rfl⟩, hI⟩))))).mono fun _ _ hr => by obtain ⟨_, _, _, rfl, ⟨_, ⟨AR84, cR84, CR84, rfl, HR84, rfl⟩, rfl, rfl⟩, hI⟩ := hr; exact ⟨_, _, _, rfl, ⟨AR84, cR84, CR84, rfl, HR84, rfl, rfl⟩, hI⟩)) ?_
          rintro _ _ _ ⟨AR84, cR84, CR84, rfl, HR84, rfl, rfl⟩
          rw [Option.bind_eq_some_iff] at h
          obtain ⟨t88, ht89, h⟩ := h
          refine WL.op (op := .call { callee := (.value (.func 35)), args := #[(.tmp 125), (.tmp 129)], argTypes := #[52, 52] }) (ty := 4) (d := some 130) (g := some (7, true)) (by kernel_rfl) (by kernel_rfl) (by kernel_rfl) (Does.call (Φ := fun v' G' Γ' => v' = .bool t88 ∧ G = G' ∧ CR84 :: [(b79, .cells #[.slice AR5 t3.length cR5, .slice AR8 t6.length cR8] 52 (0, 0))] :: Cs26_2 :: CR20 :: CR14 :: CR8 :: CR5 :: Γ = Γ') (f := 35) (args := [.slice As26_2 s26.2.length cs26_2, .slice AR84 t82.length cR84]) (by kernel_rfl) (fun W hI => Calls.lend (i := 2) rfl (Ow.nodup Hs26_2) hI (fun _ e l90 hI => by subst e; exact Calls.lend (i := 0) rfl (Ow.nodup (HR84.mono l90)) hI (fun _ e l91 hI => by subst e; exact (grapevinelaw0_SameInts_calls k s26.2 t82 As26_2 cs26_2 ((Hs26_2.rd l90).mono l91) AR84 cR84 ((HR84.mono l90).rd l91) t88 ht89 hI))))) ?_
          rintro _ _ _ ⟨rfl, rfl, rfl⟩
          refine WL.pure 14 16 [7, 8, 10, 132] (L' := [(7, .slice AR5 t3.length cR5), (8, .slice AR8 t6.length cR8), (10, .slice AR14 t12.length cR14), (132, .bool t88)]) (by kernel_rfl) (by decide) ?_
          refine WL.split 132 (b := t88) (by kernel_rfl) (fun hc => ?_) (fun hc => ?_)
          · replace hc := hc
            rw [if_pos hc] at h
            have hc92 := hc
            clear hc
            refine WL.pure 16 21 [132, 135, 136, 137] (L' := [(132, .bool true), (135, .bool ((t12.length : Int) == 0)), (136, .slice AR5 t3.length cR5), (137, .slice AR8 t6.length cR8)]) (by kernel_rfl) (by decide) ?_
            rw [Option.bind_eq_some_iff] at h
            obtain ⟨t93, ht94, h⟩ := h
            refine WL.op (op := .call { callee := (.value (.func 36)), args := #[(.tmp 136), (.tmp 137)], argTypes := #[52, 52] }) (ty := 4) (d := some 138) (g := some (15, true)) (by kernel_rfl) (by kernel_rfl) (by kernel_rfl) (Does.call (Φ := fun v' G' Γ' => v' = .bool t93 ∧ G = G' ∧ CR84 :: [(b79, .cells #[.slice AR5 t3.length cR5, .slice AR8 t6.length cR8] 52 (0, 0))] :: Cs26_2 :: CR20 :: CR14 :: CR8 :: CR5 :: Γ = Γ') (f := 36) (args := [.slice AR5 t3.length cR5, .slice AR8 t6.length cR8]) (by kernel_rfl) (fun W hI => Calls.lend (i := 6) rfl (Ow.nodup HR5) hI (fun _ e l95 hI => by subst e; exact Calls.lend (i := 5) rfl (Ow.nodup (HR8.mono l95)) hI (fun _ e l96 hI => by subst e; exact (vector_Below_calls k t3 t6 AR5 cR5 ((HR5.rd l95).mono l96) AR8 cR8 ((HR8.mono l95).rd l96) t93 ht94 hI))))) ?_
            rintro _ _ _ ⟨rfl, rfl, rfl⟩
            refine WL.pure 22 25 [141] (L' := [(141, .bool (((t12.length : Int) == 0) == t93))]) (by kernel_rfl) (by decide) ?_
            refine WL.split 141 (b := (((t12.length : Int) == 0) == t93)) (by kernel_rfl) (fun hc => ?_) (fun hc => ?_)
            · replace hc := hc
              rw [if_pos hc] at h
              have hc97 := hc
              clear hc
              rw [Option.bind_eq_some_iff] at h
              obtain ⟨t98, ht99, h⟩ := h
              refine WL.op (op := .call { callee := (.value (.func 39)), args := #[], argTypes := #[] }) (ty := 4) (d := some 142) (g := some (24, true)) (by kernel_rfl) (by kernel_rfl) (by kernel_rfl) (Does.call (f := 39) (args := []) (by kernel_rfl) (fun W hI => (grapevinelaw3_awake_calls k   t98 ht99 hI))) ?_
              rintro _ _ _ ⟨rfl, rfl, rfl⟩
              refine WL.rest 26 [6] (L' := [(6, .bool t98)]) (by kernel_rfl) ?_
              refine QP.dropAt 1 ?_
              refine QP.dropAt 0 ?_
              refine QP.pick [6] ?_
              exact QP.meet ⟨_, Option.some.inj h, rfl, rfl, rfl⟩
            · replace hc := (Bool.eq_false_iff.1 hc)
              rw [if_neg hc] at h
              have hc97 := hc
              clear hc
              refine WL.rest 25 [6] (L' := [(6, .bool false)]) (by kernel_rfl) ?_
              refine QP.dropAt 1 ?_
              refine QP.dropAt 0 ?_
              refine QP.pick [6] ?_
              exact QP.meet ⟨_, Option.some.inj h, rfl, rfl, rfl⟩
          · replace hc := (Bool.eq_false_iff.1 hc)
            rw [if_neg hc] at h
            have hc92 := hc
            clear hc
            refine WL.rest 16 [6] (L' := [(6, .bool false)]) (by kernel_rfl) ?_
            refine QP.dropAt 1 ?_
            refine QP.dropAt 0 ?_
            refine QP.pick [6] ?_
            exact QP.meet ⟨_, Option.some.inj h, rfl, rfl, rfl⟩
        · replace hc := ne_of_beq_false hc
          rw [if_neg hc] at h
          have hc78 := hc
          clear hc
          refine WL.rest 8 [6] (L' := [(6, .bool false)]) (by kernel_rfl) ?_
          refine QP.pick [6] ?_
          exact QP.meet ⟨_, Option.some.inj h, rfl, rfl, rfl⟩
      · rintro _ _ _ ⟨s70, rfl, rfl, rfl, rfl⟩
        clear h
        replace h := hk71
        refine WP.ret ?_
        obtain rfl := Option.some.inj h
        refine QP.dropAt 4 ?_
        refine QP.dropAt 3 ?_
        refine QP.dropAt 2 ?_
        refine QP.dropAt 1 ?_
        refine QP.dropAt 0 ?_
        exact QP.returned [6] [.bool s70] _ (by kernel_rfl) (by kernel_rfl) (by kernel_rfl) (fun W hI => ⟨_, _, _, rfl, ⟨rfl, rfl, rfl⟩, hI⟩)
/-- The plain law. -/
def VectorSpans_Pure : Prop := ∀ (l0 : List Int) (l1 : List Int) (a2 : Int), (l0.length ≤ maxLen ∧ ∀ z0 ∈ l0, (Lit.int .i64 z0).wf = true) → (l1.length ≤ maxLen ∧ ∀ z0 ∈ l1, (Lit.int .i64 z0).wf = true) → (Lit.int .i64 a2).wf = true → ∃ k, grapevinelaw3_VectorSpans k l0 l1 a2 = some true
end Go.Proofs.Ytmphcmgbognmnaa.Gf
