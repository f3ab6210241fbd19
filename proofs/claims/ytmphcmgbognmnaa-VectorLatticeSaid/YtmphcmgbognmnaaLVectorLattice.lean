/- Walks of Go functions: what each tells, as a plain Lean function, and that the Go code comes to it. Written by gg.py of this repo. -/
import Derived.Test.YtmphcmgbognmnaaT
import Derived.Test.YtmphcmgbognmnaaF0
namespace Go.Proofs.Ytmphcmgbognmnaa.Gf
open Go Go.Gg
set_option maxRecDepth 100000
set_option linter.unusedVariables false
set_option linter.unusedSimpArgs false

/-! ### grapevine/grapevinelaw3.VectorLattice: function 10 -/
def grapevinelaw3_VectorLattice (k : Nat) (l0 : List Int) (l1 : List Int) (l2 : List Int) (a3 : Int) : Option Bool := ((grapevinelaw0_Low a3 8).bind fun t1 => ((grapevinelaw3_low k l0 (IntKind.i64.wrap (1 + t1))).bind fun t3 => ((grapevinelaw3_low k l1 (IntKind.i64.wrap (1 + t1))).bind fun t6 => ((grapevinelaw3_low k l2 (IntKind.i64.wrap (1 + t1))).bind fun t9 => ((vector_Join k ([t3, t6, t9] : List (List Int))).bind fun t15 => ((vector_Meet k ([t3, t6, t9] : List (List Int))).bind fun t25 => (((vector_Join k ([t9, t3, t6, t3] : List (List Int))).bind fun t37 => ((grapevinelaw0_SameInts k t15 t37).bind fun t44 => (if (!t44) = true then some true else ((vector_Meet k ([t9, t3, t6, t3] : List (List Int))).bind fun t52 => ((grapevinelaw0_SameInts k t25 t52).bind fun t59 => (if (!t59) = true then some true else ((vector_Join k ([t3, t6] : List (List Int))).bind fun t67 => ((vector_Join k ([t67, t9] : List (List Int))).bind fun t76 => ((grapevinelaw0_SameInts k t15 t76).bind fun t82 => (if (!t82) = true then some true else ((vector_Meet k ([t3, t6] : List (List Int))).bind fun t90 => ((vector_Join k ([t3, t90] : List (List Int))).bind fun t99 => ((grapevinelaw0_SameInts k t99 t3).bind fun t105 => (if (!t105) = true then some true else ((vector_Join k ([t3, t6] : List (List Int))).bind fun t113 => ((vector_Meet k ([t3, t113] : List (List Int))).bind fun t122 => ((grapevinelaw0_SameInts k t122 t3).bind fun t128 => some (!t128)))))))))))))))))).bind fun s32 => (if s32 = true then some false else (((vector_Below k t3 t15).bind fun t135 => (if t135 = true then ((vector_Below k t25 t3).bind fun t140 => (if t140 = true then ((vector_Below k t6 t15).bind fun t145 => (if t145 = true then ((vector_Below k t25 t9).bind fun t150 => (if t150 = true then ((vector_May k t15 (IntKind.i64.wrap (1 + t1))).bind fun t155 => (if t155 = true then ((vector_Below k t3 t6).bind fun t159 => ((vector_Join k ([t3, t6] : List (List Int))).bind fun t166 => ((grapevinelaw0_SameInts k t166 t6).bind fun t172 => (if (t159 == t172) = true then ((vector_Sum k t15).bind fun t177 => ((vector_Sum k t3).bind fun t180 => (if t177 ≥ t180 then ((grapevinelaw3_awake k ).bind fun t184 => some t184) else some false))) else some false)))) else some false)) else some false)) else some false)) else some false)) else some false)).bind fun s133 => some s133)))))))))
set_option maxHeartbeats 4000000 in
theorem grapevinelaw3_VectorLattice_calls {B : World} {G : GMap} {Γ : List Chunk} {W : World} (k : Nat) (l0 : List Int) (l1 : List Int) (l2 : List Int) (a3 : Int) (Al0 : Option Addr) (cl0 : Nat) (Hl0 : Rd (kInt .i64) G Al0 cl0 l0) (Al1 : Option Addr) (cl1 : Nat) (Hl1 : Rd (kInt .i64) G Al1 cl1 l1) (Al2 : Option Addr) (cl2 : Nat) (Hl2 : Rd (kInt .i64) G Al2 cl2 l2) (r : Bool) (h : grapevinelaw3_VectorLattice k l0 l1 l2 a3 = some r) (hI : Inv B G (Γ) W) :
    Calls Try.prog 10 [.slice Al0 l0.length cl0, .slice Al1 l1.length cl1, .slice Al2 l2.length cl2, .int .i64 a3].toArray W (Ret B (fun v G' Γ' => v = .bool r ∧ G = G' ∧ Γ = Γ')) := by
  refine calls_WP (Γ := Γ) (G := G) (B := B) Try.func10 rfl (by kernel_rfl) ?_ hI
  clear hI
  unfold grapevinelaw3_VectorLattice at h
  refine WP.seqP [0, 1, 2, 3] (L' := [(0, .slice Al0 l0.length cl0), (1, .slice Al1 l1.length cl1), (2, .slice Al2 l2.length cl2), (3, .int .i64 a3)]) (by kernel_rfl) ?_
  refine WP.seqR ?_
  refine WL.pure 0 1 [0, 1, 2, 3, 14] (L' := [(0, .slice Al0 l0.length cl0), (1, .slice Al1 l1.length cl1), (2, .slice Al2 l2.length cl2), (3, .int .i64 a3), (14, .int .i64 a3)]) (by kernel_rfl) (by decide) ?_
  rw [Option.bind_eq_some_iff] at h
  obtain ⟨t1, ht2, h⟩ := h
  refine WL.op (op := .call { callee := (.value (.func 31)), args := #[(.tmp 14), (.const (.int .i64 8))], argTypes := #[3, 3] }) (ty := 3) (d := some 15) (g := none) (by kernel_rfl) (by kernel_rfl) (by kernel_rfl) (Does.call (f := 31) (args := [.int .i64 a3, .int .i64 8]) (by kernel_rfl) (fun W hI => (grapevinelaw0_Low_calls a3 8  t1 ht2 hI))) ?_
  rintro _ _ _ ⟨rfl, rfl, rfl⟩
  refine WL.restQ 2 [0, 1, 2, 3] (L' := [(0, .slice Al0 l0.length cl0), (1, .slice Al1 l1.length cl1), (2, .slice Al2 l2.length cl2), (3, .int .i64 (IntKind.i64.wrap (1 + t1)))]) (by kernel_rfl) ?_
  refine WP.seqR ?_
  refine WL.pure 0 2 [1, 2, 3, 17, 18] (L' := [(1, .slice Al1 l1.length cl1), (2, .slice Al2 l2.length cl2), (3, .int .i64 (IntKind.i64.wrap (1 + t1))), (17, .slice Al0 l0.length cl0), (18, .int .i64 (IntKind.i64.wrap (1 + t1)))]) (by kernel_rfl) (by decide) ?_
  rw [Option.bind_eq_some_iff] at h
  obtain ⟨t3, ht4, h⟩ := h
  refine WL.op (op := .call { callee := (.value (.func 32)), args := #[(.tmp 17), (.tmp 18)], argTypes := #[52, 3] }) (ty := 52) (d := some 19) (g := none) (by kernel_rfl) (by kernel_rfl) (by kernel_rfl) (Does.call (f := 32) (args := [.slice Al0 l0.length cl0, .int .i64 (IntKind.i64.wrap (1 + t1))]) (by kernel_rfl) (fun W hI => (grapevinelaw3_low_calls k l0 (IntKind.i64.wrap (1 + t1)) Al0 cl0 Hl0 t3 ht4 hI))) ?_
  rintro _ _ _ ⟨AR5, cR5, CR5, rfl, HR5, rfl, rfl⟩
  refine WL.pure 3 5 [2, 3, 19, 20, 21] (L' := [(2, .slice Al2 l2.length cl2), (3, .int .i64 (IntKind.i64.wrap (1 + t1))), (19, .slice AR5 t3.length cR5), (20, .slice Al1 l1.length cl1), (21, .int .i64 (IntKind.i64.wrap (1 + t1)))]) (by kernel_rfl) (by decide) ?_
  rw [Option.bind_eq_some_iff] at h
  obtain ⟨t6, ht7, h⟩ := h
  refine WL.op (op := .call { callee := (.value (.func 32)), args := #[(.tmp 20), (.tmp 21)], argTypes := #[52, 3] }) (ty := 52) (d := some 22) (g := none) (by kernel_rfl) (by kernel_rfl) (by kernel_rfl) (Does.call (f := 32) (args := [.slice Al1 l1.length cl1, .int .i64 (IntKind.i64.wrap (1 + t1))]) (by kernel_rfl) (fun W hI => (grapevinelaw3_low_calls k l1 (IntKind.i64.wrap (1 + t1)) Al1 cl1 Hl1 t6 ht7 hI))) ?_
  rintro _ _ _ ⟨AR8, cR8, CR8, rfl, HR8, rfl, rfl⟩
  refine WL.pure 6 8 [3, 19, 22, 23, 24] (L' := [(3, .int .i64 (IntKind.i64.wrap (1 + t1))), (19, .slice AR5 t3.length cR5), (22, .slice AR8 t6.length cR8), (23, .slice Al2 l2.length cl2), (24, .int .i64 (IntKind.i64.wrap (1 + t1)))]) (by kernel_rfl) (by decide) ?_
  rw [Option.bind_eq_some_iff] at h
  obtain ⟨t9, ht10, h⟩ := h
  refine WL.op (op := .call { callee := (.value (.func 32)), args := #[(.tmp 23), (.tmp 24)], argTypes := #[52, 3] }) (ty := 52) (d := some 25) (g := none) (by kernel_rfl) (by kernel_rfl) (by kernel_rfl) (Does.call (f := 32) (args := [.slice Al2 l2.length cl2, .int .i64 (IntKind.i64.wrap (1 + t1))]) (by kernel_rfl) (fun W hI => (grapevinelaw3_low_calls k l2 (IntKind.i64.wrap (1 + t1)) Al2 cl2 Hl2 t9 ht10 hI))) ?_
  rintro _ _ _ ⟨AR11, cR11, CR11, rfl, HR11, rfl, rfl⟩
  refine WL.restQ 9 [3, 9, 10, 11] (L' := [(3, .int .i64 (IntKind.i64.wrap (1 + t1))), (9, .slice AR5 t3.length cR5), (10, .slice AR8 t6.length cR8), (11, .slice AR11 t9.length cR11)]) (by kernel_rfl) ?_
  refine WP.seqR ?_
  refine WL.pure 0 3 [3, 9, 10, 11, 26, 27, 28] (L' := [(3, .int .i64 (IntKind.i64.wrap (1 + t1))), (9, .slice AR5 t3.length cR5), (10, .slice AR8 t6.length cR8), (11, .slice AR11 t9.length cR11), (26, .slice AR5 t3.length cR5), (27, .slice AR8 t6.length cR8), (28, .slice AR11 t9.length cR11)]) (by kernel_rfl) (by decide) ?_
  refine WL.op (op := .buildSlice 84 3 #[(0, (.tmp 26)), (1, (.tmp 27)), (2, (.tmp 28))]) (ty := 84) (d := some 29) (g := none) (by kernel_rfl) (by kernel_rfl) (by kernel_rfl) (Does.new (o := .cells #[.slice AR5 t3.length cR5, .slice AR8 t6.length cR8, .slice AR11 t9.length cR11] 52 (0, 0)) (v := fun r => .slice (some ⟨r, 0, none⟩) 3 3) (fun r => by kernel_rfl)) ?_
  rintro _ _ _ ⟨b12, rfl, rfl, rfl⟩
  rw [Option.bind_eq_some_iff] at h
  obtain ⟨t15, ht16, h⟩ := h
  refine WL.op (op := .call { callee := (.value (.func 33)), args := #[(.tmp 29)], argTypes := #[84] }) (ty := 52) (d := some 30) (g := none) (by kernel_rfl) (by kernel_rfl) (by kernel_rfl) (Does.call (Φ := fun v' G' Γ' => ∃ (AR17 : Option Addr), ∃ (cR17 : Nat), ∃ (CR17 : Chunk), v' = .slice AR17 t15.length cR17 ∧ Ow (kInt .i64) G AR17 cR17 t15 CR17 ∧ G = G' ∧ CR17 :: [(b12, .cells #[.slice AR5 t3.length cR5, .slice AR8 t6.length cR8, .slice AR11 t9.length cR11] 52 (0, 0))] :: CR11 :: CR8 :: CR5 :: Γ = Γ') (f := 33) (args := [.slice (some ⟨b12, 0, none⟩) ([t3, t6, t9] : List (List Int)).length 3]) (by kernel_rfl) (fun W hI => (Calls.lendR (Φ := fun v' N => ∃ (AR17 : Option Addr), ∃ (cR17 : Nat), ∃ (CR17 : Chunk), v' = .slice AR17 t15.length cR17 ∧ Ow (kInt .i64) G AR17 cR17 t15 CR17 ∧ N = [CR17]) (i := 3) rfl (Ow.nodup HR5) hI (fun _ e l18 hI => by subst e; exact Calls.lendR (Φ := fun v' N => ∃ (AR17 : Option Addr), ∃ (cR17 : Nat), ∃ (CR17 : Chunk), v' = .slice AR17 t15.length cR17 ∧ Ow (kInt .i64) G AR17 cR17 t15 CR17 ∧ N = [CR17]) (i := 2) rfl (Ow.nodup (HR8.mono l18)) hI (fun _ e l19 hI => by subst e; exact Calls.lendR (Φ := fun v' N => ∃ (AR17 : Option Addr), ∃ (cR17 : Nat), ∃ (CR17 : Chunk), v' = .slice AR17 t15.length cR17 ∧ Ow (kInt .i64) G AR17 cR17 t15 CR17 ∧ N = [CR17]) (i := 1) rfl (Ow.nodup ((HR11.mono l18).mono l19)) hI (fun _ e l20 hI => by subst e; exact Calls.lendR (Φ := fun v' N => ∃ (AR17 : Option Addr), ∃ (cR17 : Nat), ∃ (CR17 : Chunk), v' = .slice AR17 t15.length cR17 ∧ Ow (kInt .i64) G AR17 cR17 t15 CR17 ∧ N = [CR17]) (i := 0) rfl (by simp) hI (fun _ e l21 hI => by subst e; exact ((vector_Join_calls k ([t3, t6, t9] : List (List Int)) (some ⟨b12, 0, none⟩) 3 ((Ow.lit (kd := (kSlice (kInt .i64))) (b := b12) (T := 52) (xs := ([t3, t6, t9] : List (List Int))) (cs := [.slice AR5 t3.length cR5, .slice AR8 t6.length cR8, .slice AR11 t9.length cR11]) (.cons (x := t3) (cs := [.slice AR5 t3.length cR5]) ⟨AR5, cR5, rfl, (((HR5.rd l18).mono l19).mono l20)⟩ (.cons (x := t6) (cs := [.slice AR8 t6.length cR8]) ⟨AR8, cR8, rfl, (((HR8.mono l18).rd l19).mono l20)⟩ (.cons (x := t9) (cs := [.slice AR11 t9.length cR11]) ⟨AR11, cR11, rfl, (((HR11.mono l18).mono l19).rd l20)⟩ .nil)))).rd l21) t15 ht16 hI).mono fun _ _ hr => by obtain ⟨_, _, _, rfl, ⟨AR17, cR17, CR17, rfl, HR17, rfl, rfl⟩, hI⟩ := hr; exact ⟨_, _, _, rfl, ⟨[CR17], ⟨AR17, cR17, CR17, rfl, (HR17.flat (kInt_flat _)), rfl⟩, rfl, rfl⟩, hI⟩)))))).mono fun _ _ hr => by obtain ⟨_, _, _, rfl, ⟨_, ⟨AR17, cR17, CR17, rfl, HR17, rfl⟩, rfl, rfl⟩, hI⟩ := hr; exact ⟨_, _, _, rfl, ⟨AR17, cR17, CR17, rfl, HR17, rfl, rfl⟩, hI⟩)) ?_
  rintro _ _ _ ⟨AR17, cR17, CR17, rfl, HR17, rfl, rfl⟩
  refine WL.pure 5 8 [3, 9, 10, 11, 30, 31, 32, 33] (L' := [(3, .int .i64 (IntKind.i64.wrap (1 + t1))), (9, .slice AR5 t3.length cR5), (10, .slice AR8 t6.length cR8), (11, .slice AR11 t9.length cR11), (30, .slice AR17 t15.length cR17), (31, .slice AR5 t3.length cR5), (32, .slice AR8 t6.length cR8), (33, .slice AR11 t9.length cR11)]) (by kernel_rfl) (by decide) ?_
  refine WL.op (op := .buildSlice 84 3 #[(0, (.tmp 31)), (1, (.tmp 32)), (2, (.tmp 33))]) (ty := 84) (d := some 34) (g := none) (by kernel_rfl) (by kernel_rfl) (by kernel_rfl) (Does.new (o := .cells #[.slice AR5 t3.length cR5, .slice AR8 t6.length cR8, .slice AR11 t9.length cR11] 52 (0, 0)) (v := fun r => .slice (some ⟨r, 0, none⟩) 3 3) (fun r => by kernel_rfl)) ?_
  rintro _ _ _ ⟨b22, rfl, rfl, rfl⟩
  rw [Option.bind_eq_some_iff] at h
  obtain ⟨t25, ht26, h⟩ := h
  refine WL.op (op := .call { callee := (.value (.func 34)), args := #[(.tmp 34)], argTypes := #[84] }) (ty := 52) (d := some 35) (g := none) (by kernel_rfl) (by kernel_rfl) (by kernel_rfl) (Does.call (Φ := fun v' G' Γ' => ∃ (AR27 : Option Addr), ∃ (cR27 : Nat), ∃ (CR27 : Chunk), v' = .slice AR27 t25.length cR27 ∧ Ow (kInt .i64) G AR27 cR27 t25 CR27 ∧ G = G' ∧ CR27 :: [(b22, .cells #[.slice AR5 t3.length cR5, .slice AR8 t6.length cR8, .slice AR11 t9.length cR11] 52 (0, 0))] :: CR17 :: [(b12, .cells #[.slice AR5 t3.length cR5, .slice AR8 t6.length cR8, .slice AR11 t9.length cR11] 52 (0, 0))] :: CR11 :: CR8 :: CR5 :: Γ = Γ') (f := 34) (args := [.slice (some ⟨b22, 0, none⟩) ([t3, t6, t9] : List (List Int)).length 3]) (by kernel_rfl) (fun W hI => (Calls.lendR (Φ := fun v' N => ∃ (AR27 : Option Addr), ∃ (cR27 : Nat), ∃ (CR27 : Chunk), v' = .slice AR27 t25.length cR27 ∧ Ow (kInt .i64) G AR27 cR27 t25 CR27 ∧ N = [CR27]) (i := 5) rfl (Ow.nodup HR5) hI (fun _ e l28 hI => by subst e; exact Calls.lendR (Φ := fun v' N => ∃ (AR27 : Option Addr), ∃ (cR27 : Nat), ∃ (CR27 : Chunk), v' = .slice AR27 t25.length cR27 ∧ Ow (kInt .i64) G AR27 cR27 t25 CR27 ∧ N = [CR27]) (i := 4) rfl (Ow.nodup (HR8.mono l28)) hI (fun _ e l29 hI => by subst e; exact Calls.lendR (Φ := fun v' N => ∃ (AR27 : Option Addr), ∃ (cR27 : Nat), ∃ (CR27 : Chunk), v' = .slice AR27 t25.length cR27 ∧ Ow (kInt .i64) G AR27 cR27 t25 CR27 ∧ N = [CR27]) (i := 3) rfl (Ow.nodup ((HR11.mono l28).mono l29)) hI (fun _ e l30 hI => by subst e; exact Calls.lendR (Φ := fun v' N => ∃ (AR27 : Option Addr), ∃ (cR27 : Nat), ∃ (CR27 : Chunk), v' = .slice AR27 t25.length cR27 ∧ Ow (kInt .i64) G AR27 cR27 t25 CR27 ∧ N = [CR27]) (i := 0) rfl (by simp) hI (fun _ e l31 hI => by subst e; exact ((vector_Meet_calls k ([t3, t6, t9] : List (List Int)) (some ⟨b22, 0, none⟩) 3 ((Ow.lit (kd := (kSlice (kInt .i64))) (b := b22) (T := 52) (xs := ([t3, t6, t9] : List (List Int))) (cs := [.slice AR5 t3.length cR5, .slice AR8 t6.length cR8, .slice AR11 t9.length cR11]) (.cons (x := t3) (cs := [.slice AR5 t3.length cR5]) ⟨AR5, cR5, rfl, (((HR5.rd l28).mono l29).mono l30)⟩ (.cons (x := t6) (cs := [.slice AR8 t6.length cR8]) ⟨AR8, cR8, rfl, (((HR8.mono l28).rd l29).mono l30)⟩ (.cons (x := t9) (cs := [.slice AR11 t9.length cR11]) ⟨AR11, cR11, rfl, (((HR11.mono l28).mono l29).rd l30)⟩ .nil)))).rd l31) t25 ht26 hI).mono fun _ _ hr => by obtain ⟨_, _, _, rfl, ⟨AR27, cR27, CR27, rfl, HR27, rfl, rfl⟩, hI⟩ := hr; exact ⟨_, _, _, rfl, ⟨[CR27], ⟨AR27, cR27, CR27, rfl, (HR27.flat (kInt_flat _)), rfl⟩, rfl, rfl⟩, hI⟩)))))).mono fun _ _ hr => by obtain ⟨_, _, _, rfl, ⟨_, ⟨AR27, cR27, CR27, rfl, HR27, rfl⟩, rfl, rfl⟩, hI⟩ := hr; exact ⟨_, _, _, rfl, ⟨AR27, cR27, CR27, rfl, HR27, rfl, rfl⟩, hI⟩)) ?_
  rintro _ _ _ ⟨AR27, cR27, CR27, rfl, HR27, rfl, rfl⟩
  refine WL.restQ 10 [3, 9, 10, 11, 12, 13] (L' := [(3, .int .i64 (IntKind.i64.wrap (1 + t1))), (9, .slice AR5 t3.length cR5), (10, .slice AR8 t6.length cR8), (11, .slice AR11 t9.length cR11), (12, .slice AR17 t15.length cR17), (13, .slice AR27 t25.length cR27)]) (by kernel_rfl) ?_
  refine WP.dropAt 3 ?_
  refine WP.dropAt 1 ?_
  refine WP.seq ?_
  rw [Option.bind_eq_some_iff] at h
  obtain ⟨os32, h, hk33⟩ := h
  refine WP.cut (fun L' G' Γ' => ∃ s32 : Bool, s32 = os32 ∧ L' = [(3, .int .i64 (IntKind.i64.wrap (1 + t1))), (9, .slice AR5 t3.length cR5), (10, .slice AR8 t6.length cR8), (11, .slice AR11 t9.length cR11), (12, .slice AR17 t15.length cR17), (13, .slice AR27 t25.length cR27), (91, .bool s32)] ∧ G = G' ∧ CR27 :: CR17 :: CR11 :: CR8 :: CR5 :: Γ = Γ') ?_ ?_
  · clear hk33
    refine WP.region ?_
    refine WL.pure 0 5 [3, 9, 10, 11, 12, 13, 36, 37, 38, 39, 40] (L' := [(3, .int .i64 (IntKind.i64.wrap (1 + t1))), (9, .slice AR5 t3.length cR5), (10, .slice AR8 t6.length cR8), (11, .slice AR11 t9.length cR11), (12, .slice AR17 t15.length cR17), (13, .slice AR27 t25.length cR27), (36, .slice AR17 t15.length cR17), (37, .slice AR11 t9.length cR11), (38, .slice AR5 t3.length cR5), (39, .slice AR8 t6.length cR8), (40, .slice AR5 t3.length cR5)]) (by kernel_rfl) (by decide) ?_
    refine WL.op (op := .buildSlice 84 4 #[(0, (.tmp 37)), (1, (.tmp 38)), (2, (.tmp 39)), (3, (.tmp 40))]) (ty := 84) (d := some 41) (g := none) (by kernel_rfl) (by kernel_rfl) (by kernel_rfl) (Does.new (o := .cells #[.slice AR11 t9.length cR11, .slice AR5 t3.length cR5, .slice AR8 t6.length cR8, .slice AR5 t3.length cR5] 52 (0, 0)) (v := fun r => .slice (some ⟨r, 0, none⟩) 4 4) (fun r => by kernel_rfl)) ?_
    rintro _ _ _ ⟨b34, rfl, rfl, rfl⟩
    rw [Option.bind_eq_some_iff] at h
    obtain ⟨t37, ht38, h⟩ := h
    refine WL.op (op := .call { callee := (.value (.func 33)), args := #[(.tmp 41)], argTypes := #[84] }) (ty := 52) (d := some 42) (g := none) (by kernel_rfl) (by kernel_rfl) (by kernel_rfl) (Does.call (Φ := fun v' G' Γ' => ∃ (AR39 : Option Addr), ∃ (cR39 : Nat), ∃ (CR39 : Chunk), v' = .slice AR39 t37.length cR39 ∧ Ow (kInt .i64) G AR39 cR39 t37 CR39 ∧ G = G' ∧ CR39 :: [(b34, .cells #[.slice AR11 t9.length cR11, .slice AR5 t3.length cR5, .slice AR8 t6.length cR8, .slice AR5 t3.length cR5] 52 (0, 0))] :: CR27 :: CR17 :: CR11 :: CR8 :: CR5 :: Γ = Γ') (f := 33) (args := [.slice (some ⟨b34, 0, none⟩) ([t9, t3, t6, t3] : List (List Int)).length 4]) (by kernel_rfl) (fun W hI => (Calls.lendR (Φ := fun v' N => ∃ (AR39 : Option Addr), ∃ (cR39 : Nat), ∃ (CR39 : Chunk), v' = .slice AR39 t37.length cR39 ∧ Ow (kInt .i64) G AR39 cR39 t37 CR39 ∧ N = [CR39]) (i := 3) rfl (Ow.nodup HR11) hI (fun _ e l40 hI => by subst e; exact Calls.lendR (Φ := fun v' N => ∃ (AR39 : Option Addr), ∃ (cR39 : Nat), ∃ (CR39 : Chunk), v' = .slice AR39 t37.length cR39 ∧ Ow (kInt .i64) G AR39 cR39 t37 CR39 ∧ N = [CR39]) (i := 5) rfl (Ow.nodup (HR5.mono l40)) hI (fun _ e l41 hI => by subst e; exact Calls.lendR (Φ := fun v' N => ∃ (AR39 : Option Addr), ∃ (cR39 : Nat), ∃ (CR39 : Chunk), v' = .slice AR39 t37.length cR39 ∧ Ow (kInt .i64) G AR39 cR39 t37 CR39 ∧ N = [CR39]) (i := 4) rfl (Ow.nodup ((HR8.mono l40).mono l41)) hI (fun _ e l42 hI => by subst e; exact Calls.lendR (Φ := fun v' N => ∃ (AR39 : Option Addr), ∃ (cR39 : Nat), ∃ (CR39 : Chunk), v' = .slice AR39 t37.length cR39 ∧ Ow (kInt .i64) G AR39 cR39 t37 CR39 ∧ N = [CR39]) (i := 0) rfl (by simp) hI (fun _ e l43 hI => by subst e; exact ((vector_Join_calls k ([t9, t3, t6, t3] : List (List Int)) (some ⟨b34, 0, none⟩) 4 ((Ow.lit (kd := (kSlice (kInt .i64))) (b := b34) (T := 52) (xs := ([t9, t3, t6, t3] : List (List Int))) (cs := [.slice AR11 t9.length cR11, .slice AR5 t3.length cR5, .slice AR8 t6.length cR8, .slice AR5 t3.length cR5]) (.cons (x := t9) (cs := [.slice AR11 t9.length cR11]) ⟨AR11, cR11, rfl, (((HR11.rd l40).mono l41).mono l42)⟩ (.cons (x := t3) (cs := [.slice AR5 t3.length cR5]) ⟨AR5, cR5, rfl, (((HR5.mono l40).rd l41).mono l42)⟩ (.cons (x := t6) (cs := [.slice AR8 t6.length cR8]) ⟨AR8, cR8, rfl, (((HR8.mono l40).mono l41).rd l42)⟩ (.cons (x := t3) (cs := [.slice AR5 t3.length cR5]) ⟨AR5, cR5, rfl, (((HR5.mono l40).rd l41).mono l42)⟩ .nil))))).rd l43) t37 ht38 hI).mono fun _ _ hr => by obtain ⟨_, _, _, rfl, ⟨AR39, cR39, CR39, rfl, HR39, rfl, rfl⟩, hI⟩ := hr; exact ⟨_, _, _, rfl, ⟨[CR39], ⟨AR39, cR39, CR39, rfl, (HR39.flat (kInt_flat _)), rfl⟩, rfl, rfl⟩, hI⟩)))))).mono fun _ _ hr => by obtain ⟨_, _, _, rfl, ⟨_, ⟨AR39, cR39, CR39, rfl, HR39, rfl⟩, rfl, rfl⟩, hI⟩ := hr; exact ⟨_, _, _, rfl, ⟨AR39, cR39, CR39, rfl, HR39, rfl, rfl⟩, hI⟩)) ?_
    rintro _ _ _ ⟨AR39, cR39, CR39, rfl, HR39, rfl, rfl⟩
    rw [Option.bind_eq_some_iff] at h
    obtain ⟨t44, ht45, h⟩ := h
    refine WL.op (op := .call { callee := (.value (.func 35)), args := #[(.tmp 36), (.tmp 42)], argTypes := #[52, 52] }) (ty := 4) (d := some 43) (g := none) (by kernel_rfl) (by kernel_rfl) (by kernel_rfl) (Does.call (Φ := fun v' G' Γ' => v' = .bool t44 ∧ G = G' ∧ CR39 :: [(b34, .cells #[.slice AR11 t9.length cR11, .slice AR5 t3.length cR5, .slice AR8 t6.length cR8, .slice AR5 t3.length cR5] 52 (0, 0))] :: CR27 :: CR17 :: CR11 :: CR8 :: CR5 :: Γ = Γ') (f := 35) (args := [.slice AR17 t15.length cR17, .slice AR39 t37.length cR39]) (by kernel_rfl) (fun W hI => Calls.lend (i := 3) rfl (Ow.nodup HR17) hI (fun _ e l46 hI => by subst e; exact Calls.lend (i := 0) rfl (Ow.nodup (HR39.mono l46)) hI (fun _ e l47 hI => by subst e; exact (grapevinelaw0_SameInts_calls k t15 t37 AR17 cR17 ((HR17.rd l46).mono l47) AR39 cR39 ((HR39.mono l46).rd l47) t44 ht45 hI))))) ?_
    rintro _ _ _ ⟨rfl, rfl, rfl⟩
    refine WL.pure 8 10 [3, 9, 10, 11, 12, 13, 45] (L' := [(3, .int .i64 (IntKind.i64.wrap (1 + t1))), (9, .slice AR5 t3.length cR5), (10, .slice AR8 t6.length cR8), (11, .slice AR11 t9.length cR11), (12, .slice AR17 t15.length cR17), (13, .slice AR27 t25.length cR27), (45, .bool (!t44))]) (by kernel_rfl) (by decide) ?_
    refine WL.split 45 (b := (!t44)) (by kernel_rfl) (fun hc => ?_) (fun hc => ?_)
    · replace hc := hc
      rw [if_pos hc] at h
      have hc48 := hc
      clear hc
      refine WL.rest 10 [3, 9, 10, 11, 12, 13, 91] (L' := [(3, .int .i64 (IntKind.i64.wrap (1 + t1))), (9, .slice AR5 t3.length cR5), (10, .slice AR8 t6.length cR8), (11, .slice AR11 t9.length cR11), (12, .slice AR17 t15.length cR17), (13, .slice AR27 t25.length cR27), (91, .bool true)]) (by kernel_rfl) ?_
      refine QP.dropAt 1 ?_
      refine QP.dropAt 0 ?_
      refine QP.pick [3, 9, 10, 11, 12, 13, 91] ?_
      exact QP.meet ⟨_, Option.some.inj h, rfl, rfl, rfl⟩
    · replace hc := (Bool.eq_false_iff.1 hc)
      rw [if_neg hc] at h
      have hc48 := hc
      clear hc
      refine WL.pure 10 15 [3, 9, 10, 11, 12, 13, 45, 46, 47, 48, 49, 50] (L' := [(3, .int .i64 (IntKind.i64.wrap (1 + t1))), (9, .slice AR5 t3.length cR5), (10, .slice AR8 t6.length cR8), (11, .slice AR11 t9.length cR11), (12, .slice AR17 t15.length cR17), (13, .slice AR27 t25.length cR27), (45, .bool false), (46, .slice AR27 t25.length cR27), (47, .slice AR11 t9.length cR11), (48, .slice AR5 t3.length cR5), (49, .slice AR8 t6.length cR8), (50, .slice AR5 t3.length cR5)]) (by kernel_rfl) (by decide) ?_
      refine WL.op (op := .buildSlice 84 4 #[(0, (.tmp 47)), (1, (.tmp 48)), (2, (.tmp 49)), (3, (.tmp 50))]) (ty := 84) (d := some 51) (g := some (9, false)) (by kernel_rfl) (by kernel_rfl) (by kernel_rfl) (Does.new (o := .cells #[.slice AR11 t9.length cR11, .slice AR5 t3.length cR5, .slice AR8 t6.length cR8, .slice AR5 t3.length cR5] 52 (0, 0)) (v := fun r => .slice (some ⟨r, 0, none⟩) 4 4) (fun r => by kernel_rfl)) ?_
      rintro _ _ _ ⟨b49, rfl, rfl, rfl⟩
      rw [Option.bind_eq_some_iff] at h
      obtain ⟨t52, ht53, h⟩ := h
      refine WL.op (op := .call { callee := (.value (.func 34)), args := #[(.tmp 51)], argTypes := #[84] }) (ty := 52) (d := some 52) (g := some (9, false)) (by kernel_rfl) (by kernel_rfl) (by kernel_rfl) (Does.call (Φ := fun v' G' Γ' => ∃ (AR54 : Option Addr), ∃ (cR54 : Nat), ∃ (CR54 : Chunk), v' = .slice AR54 t52.length cR54 ∧ Ow (kInt .i64) G AR54 cR54 t52 CR54 ∧ G = G' ∧ CR54 :: [(b49, .cells #[.slice AR11 t9.length cR11, .slice AR5 t3.length cR5, .slice AR8 t6.length cR8, .slice AR5 t3.length cR5] 52 (0, 0))] :: CR39 :: [(b34, .cells #[.slice AR11 t9.length cR11, .slice AR5 t3.length cR5, .slice AR8 t6.length cR8, .slice AR5 t3.length cR5] 52 (0, 0))] :: CR27 :: CR17 :: CR11 :: CR8 :: CR5 :: Γ = Γ') (f := 34) (args := [.slice (some ⟨b49, 0, none⟩) ([t9, t3, t6, t3] : List (List Int)).length 4]) (by kernel_rfl) (fun W hI => (Calls.lendR (Φ := fun v' N => ∃ (AR54 : Option Addr), ∃ (cR54 : Nat), ∃ (CR54 : Chunk), v' = .slice AR54 t52.length cR54 ∧ Ow (kInt .i64) G AR54 cR54 t52 CR54 ∧ N = [CR54]) (i := 5) rfl (Ow.nodup HR11) hI (fun _ e l55 hI => by subst e; exact Calls.lendR (Φ := fun v' N => ∃ (AR54 : Option Addr), ∃ (cR54 : Nat), ∃ (CR54 : Chunk), v' = .slice AR54 t52.length cR54 ∧ Ow (kInt .i64) G AR54 cR54 t52 CR54 ∧ N = [CR54]) (i := 7) rfl (Ow.nodup (HR5.mono l55)) hI (fun _ e l56 hI => by subst e; exact Calls.lendR (Φ := fun v' N => ∃ (AR54 : Option Addr), ∃ (cR54 : Nat), ∃ (CR54 : Chunk), v' = .slice AR54 t52.length cR54 ∧ Ow (kInt .i64) G AR54 cR54 t52 CR54 ∧ N = [CR54]) (i := 6) rfl (Ow.nodup ((HR8.mono l55).mono l56)) hI (fun _ e l57 hI => by subst e; exact Calls.lendR (Φ := fun v' N => ∃ (AR54 : Option Addr), ∃ (cR54 : Nat), ∃ (CR54 : Chunk), v' = .slice AR54 t52.length cR54 ∧ Ow (kInt .i64) G AR54 cR54 t52 CR54 ∧ N = [CR54]) (i := 0) rfl (by simp) hI (fun _ e l58 hI => by subst e; exact ((vector_Meet_calls k ([t9, t3, t6, t3] : List (List Int)) (some ⟨b49, 0, none⟩) 4 ((Ow.lit (kd := (kSlice (kInt .i64))) (b := b49) (T := 52) (xs := ([t9, t3, t6, t3] : List (List Int))) (cs := [.slice AR11 t9.length cR11, .slice AR5 t3.length cR5, .slice AR8 t6.length cR8, .slice AR5 t3.length cR5]) (.cons (x := t9) (cs := [.slice AR11 t9.length cR11]) ⟨AR11, cR11, rfl, (((HR11.rd l55).mono l56).mono l57)⟩ (.cons (x := t3) (cs := [.slice AR5 t3.length cR5]) ⟨AR5, cR5, rfl, (((HR5.mono l55).rd l56).mono l57)⟩ (.cons (x := t6) (cs := [.slice AR8 t6.length cR8]) ⟨AR8, cR8, rfl, (((HR8.mono l55).mono l56).rd l57)⟩ (.cons (x := t3) (cs := [.slice AR5 t3.length cR5]) ⟨AR5, cR5, rfl, (((HR5.mono l55).rd l56).mono l57)⟩ .nil))))).rd l58) t52 ht53 hI).mono fun _ _ hr => by obtain ⟨_, _, _, rfl, ⟨AR54, cR54, CR54, rfl, HR54, rfl, rfl⟩, hI⟩ := hr; exact ⟨_, _, _, rfl, ⟨[CR54], ⟨AR54, cR54, CR54, rfl, (HR54.flat (kInt_flat _)), rfl⟩, rfl, rfl⟩, hI⟩)))))).mono fun _ _ hr => by obtain ⟨_, _, _, rfl, ⟨_, ⟨AR54, cR54, CR54, rfl, HR54, rfl⟩, rfl, rfl⟩, hI⟩ := hr; exact ⟨_, _, _, rfl, ⟨AR54, cR54, CR54, rfl, HR54, rfl, rfl⟩, hI⟩)) ?_
      rintro _ _ _ ⟨AR54, cR54, CR54, rfl, HR54, rfl, rfl⟩
      rw [Option.bind_eq_some_iff] at h
      obtain ⟨t59, ht60, h⟩ := h
      refine WL.op (op := .call { callee := (.value (.func 35)), args := #[(.tmp 46), (.tmp 52)], argTypes := #[52, 52] }) (ty := 4) (d := some 53) (g := some (9, false)) (by kernel_rfl) (by kernel_rfl) (by kernel_rfl) (Does.call (Φ := fun v' G' Γ' => v' = .bool t59 ∧ G = G' ∧ CR54 :: [(b49, .cells #[.slice AR11 t9.length cR11, .slice AR5 t3.length cR5, .slice AR8 t6.length cR8, .slice AR5 t3.length cR5] 52 (0, 0))] :: CR39 :: [(b34, .cells #[.slice AR11 t9.length cR11, .slice AR5 t3.length cR5, .slice AR8 t6.length cR8, .slice AR5 t3.length cR5] 52 (0, 0))] :: CR27 :: CR17 :: CR11 :: CR8 :: CR5 :: Γ = Γ') (f := 35) (args := [.slice AR27 t25.length cR27, .slice AR54 t52.length cR54]) (by kernel_rfl) (fun W hI => Calls.lend (i := 4) rfl (Ow.nodup HR27) hI (fun _ e l61 hI => by subst e; exact Calls.lend (i := 0) rfl (Ow.nodup (HR54.mono l61)) hI (fun _ e l62 hI => by subst e; exact (grapevinelaw0_SameInts_calls k t25 t52 AR27 cR27 ((HR27.rd l61).mono l62) AR54 cR54 ((HR54.mono l61).rd l62) t59 ht60 hI))))) ?_
      rintro _ _ _ ⟨rfl, rfl, rfl⟩
      refine WL.pure 18 21 [3, 9, 10, 11, 12, 13, 56] (L' := [(3, .int .i64 (IntKind.i64.wrap (1 + t1))), (9, .slice AR5 t3.length cR5), (10, .slice AR8 t6.length cR8), (11, .slice AR11 t9.length cR11), (12, .slice AR17 t15.length cR17), (13, .slice AR27 t25.length cR27), (56, .bool (!t59))]) (by kernel_rfl) (by decide) ?_
      refine WL.split 56 (b := (!t59)) (by kernel_rfl) (fun hc => ?_) (fun hc => ?_)
      · replace hc := hc
        rw [if_pos hc] at h
        have hc63 := hc
        clear hc
        refine WL.rest 21 [3, 9, 10, 11, 12, 13, 91] (L' := [(3, .int .i64 (IntKind.i64.wrap (1 + t1))), (9, .slice AR5 t3.length cR5), (10, .slice AR8 t6.length cR8), (11, .slice AR11 t9.length cR11), (12, .slice AR17 t15.length cR17), (13, .slice AR27 t25.length cR27), (91, .bool true)]) (by kernel_rfl) ?_
        refine QP.dropAt 3 ?_
        refine QP.dropAt 2 ?_
        refine QP.dropAt 1 ?_
        refine QP.dropAt 0 ?_
        refine QP.pick [3, 9, 10, 11, 12, 13, 91] ?_
        exact QP.meet ⟨_, Option.some.inj h, rfl, rfl, rfl⟩
      · replace hc := (Bool.eq_false_iff.1 hc)
        rw [if_neg hc] at h
        have hc63 := hc
        clear hc
        refine WL.pure 21 24 [3, 9, 10, 11, 12, 13, 56, 57, 58, 59] (L' := [(3, .int .i64 (IntKind.i64.wrap (1 + t1))), (9, .slice AR5 t3.length cR5), (10, .slice AR8 t6.length cR8), (11, .slice AR11 t9.length cR11), (12, .slice AR17 t15.length cR17), (13, .slice AR27 t25.length cR27), (56, .bool false), (57, .slice AR17 t15.length cR17), (58, .slice AR5 t3.length cR5), (59, .slice AR8 t6.length cR8)]) (by kernel_rfl) (by decide) ?_
        refine WL.op (op := .buildSlice 84 2 #[(0, (.tmp 58)), (1, (.tmp 59))]) (ty := 84) (d := some 60) (g := some (20, false)) (by kernel_rfl) (by kernel_rfl) (by kernel_rfl) (Does.new (o := .cells #[.slice AR5 t3.length cR5, .slice AR8 t6.length cR8] 52 (0, 0)) (v := fun r => .slice (some ⟨r, 0, none⟩) 2 2) (fun r => by kernel_rfl)) ?_
        rintro _ _ _ ⟨b64, rfl, rfl, rfl⟩
        rw [Option.bind_eq_some_iff] at h
        obtain ⟨t67, ht68, h⟩ := h
        refine WL.op (op := .call { callee := (.value (.func 33)), args := #[(.tmp 60)], argTypes := #[84] }) (ty := 52) (d := some 61) (g := some (20, false)) (by kernel_rfl) (by kernel_rfl) (by kernel_rfl) (Does.call (Φ := fun v' G' Γ' => ∃ (AR69 : Option Addr), ∃ (cR69 : Nat), ∃ (CR69 : Chunk), v' = .slice AR69 t67.length cR69 ∧ Ow (kInt .i64) G AR69 cR69 t67 CR69 ∧ G = G' ∧ CR69 :: [(b64, .cells #[.slice AR5 t3.length cR5, .slice AR8 t6.length cR8] 52 (0, 0))] :: CR54 :: [(b49, .cells #[.slice AR11 t9.length cR11, .slice AR5 t3.length cR5, .slice AR8 t6.length cR8, .slice AR5 t3.length cR5] 52 (0, 0))] :: CR39 :: [(b34, .cells #[.slice AR11 t9.length cR11, .slice AR5 t3.length cR5, .slice AR8 t6.length cR8, .slice AR5 t3.length cR5] 52 (0, 0))] :: CR27 :: CR17 :: CR11 :: CR8 :: CR5 :: Γ = Γ') (f := 33) (args := [.slice (some ⟨b64, 0, none⟩) ([t3, t6] : List (List Int)).length 2]) (by kernel_rfl) (fun W hI => (Calls.lendR (Φ := fun v' N => ∃ (AR69 : Option Addr), ∃ (cR69 : Nat), ∃ (CR69 : Chunk), v' = .slice AR69 t67.length cR69 ∧ Ow (kInt .i64) G AR69 cR69 t67 CR69 ∧ N = [CR69]) (i := 9) rfl (Ow.nodup HR5) hI (fun _ e l70 hI => by subst e; exact Calls.lendR (Φ := fun v' N => ∃ (AR69 : Option Addr), ∃ (cR69 : Nat), ∃ (CR69 : Chunk), v' = .slice AR69 t67.length cR69 ∧ Ow (kInt .i64) G AR69 cR69 t67 CR69 ∧ N = [CR69]) (i := 8) rfl (Ow.nodup (HR8.mono l70)) hI (fun _ e l71 hI => by subst e; exact Calls.lendR (Φ := fun v' N => ∃ (AR69 : Option Addr), ∃ (cR69 : Nat), ∃ (CR69 : Chunk), v' = .slice AR69 t67.length cR69 ∧ Ow (kInt .i64) G AR69 cR69 t67 CR69 ∧ N = [CR69]) (i := 0) rfl (by simp) hI (fun _ e l72 hI => by subst e; exact ((vector_Join_calls k ([t3, t6] : List (List Int)) (some ⟨b64, 0, none⟩) 2 ((Ow.lit (kd := (kSlice (kInt .i64))) (b := b64) (T := 52) (xs := ([t3, t6] : List (List Int))) (cs := [.slice AR5 t3.length cR5, .slice AR8 t6.length cR8]) (.cons (x := t3) (cs := [.slice AR5 t3.length cR5]) ⟨AR5, cR5, rfl, ((HR5.rd l70).mono l71)⟩ (.cons (x := t6) (cs := [.slice AR8 t6.length cR8]) ⟨AR8, cR8, rfl, ((HR8.mono l70).rd l71)⟩ .nil))).rd l72) t67 ht68 hI).mono fun _ _ hr => by obtain ⟨_, _, _, rfl, ⟨AR69, cR69, CR69, rfl, HR69, rfl, rfl⟩, hI⟩ := hr; exact ⟨_, _, _, rfl, ⟨[CR69], ⟨AR69, cR69, CR69, rfl, (HR69.flat (kInt_flat _)), rfl⟩, rfl, rfl⟩, hI⟩))))).mono fun _ _ hr => by obtain ⟨_, _, _, rfl, ⟨_, ⟨AR69, cR69, CR69, rfl, HR69, rfl⟩, rfl, rfl⟩, hI⟩ := hr; exact ⟨_, _, _, rfl, ⟨AR69, cR69, CR69, rfl, HR69, rfl, rfl⟩, hI⟩)) ?_
        rintro _ _ _ ⟨AR69, cR69, CR69, rfl, HR69, rfl, rfl⟩
        refine WL.pure 26 27 [3, 9, 10, 11, 12, 13, 56, 57, 61, 62] (L' := [(3, .int .i64 (IntKind.i64.wrap (1 + t1))), (9, .slice AR5 t3.length cR5), (10, .slice AR8 t6.length cR8), (11, .slice AR11 t9.length cR11), (12, .slice AR17 t15.length cR17), (13, .slice AR27 t25.length cR27), (56, .bool false), (57, .slice AR17 t15.length cR17), (61, .slice AR69 t67.length cR69), (62, .slice AR11 t9.length cR11)]) (by kernel_rfl) (by decide) ?_
        refine WL.op (op := .buildSlice 84 2 #[(0, (.tmp 61)), (1, (.tmp 62))]) (ty := 84) (d := some 63) (g := some (20, false)) (by kernel_rfl) (by kernel_rfl) (by kernel_rfl) (Does.new (o := .cells #[.slice AR69 t67.length cR69, .slice AR11 t9.length cR11] 52 (0, 0)) (v := fun r => .slice (some ⟨r, 0, none⟩) 2 2) (fun r => by kernel_rfl)) ?_
        rintro _ _ _ ⟨b73, rfl, rfl, rfl⟩
        rw [Option.bind_eq_some_iff] at h
        obtain ⟨t76, ht77, h⟩ := h
        refine WL.op (op := .call { callee := (.value (.func 33)), args := #[(.tmp 63)], argTypes := #[84] }) (ty := 52) (d := some 64) (g := some (20, false)) (by kernel_rfl) (by kernel_rfl) (by kernel_rfl) (Does.call (Φ := fun v' G' Γ' => ∃ (AR78 : Option Addr), ∃ (cR78 : Nat), ∃ (CR78 : Chunk), v' = .slice AR78 t76.length cR78 ∧ Ow (kInt .i64) G AR78 cR78 t76 CR78 ∧ G = G' ∧ CR78 :: [(b73, .cells #[.slice AR69 t67.length cR69, .slice AR11 t9.length cR11] 52 (0, 0))] :: CR69 :: [(b64, .cells #[.slice AR5 t3.length cR5, .slice AR8 t6.length cR8] 52 (0, 0))] :: CR54 :: [(b49, .cells #[.slice AR11 t9.length cR11, .slice AR5 t3.length cR5, .slice AR8 t6.length cR8, .slice AR5 t3.length cR5] 52 (0, 0))] :: CR39 :: [(b34, .cells #[.slice AR11 t9.length cR11, .slice AR5 t3.length cR5, .slice AR8 t6.length cR8, .slice AR5 t3.length cR5] 52 (0, 0))] :: CR27 :: CR17 :: CR11 :: CR8 :: CR5 :: Γ = Γ') (f := 33) (args := [.slice (some ⟨b73, 0, none⟩) ([t67, t9] : List (List Int)).length 2]) (by kernel_rfl) (fun W hI => (Calls.lendR (Φ := fun v' N => ∃ (AR78 : Option Addr), ∃ (cR78 : Nat), ∃ (CR78 : Chunk), v' = .slice AR78 t76.length cR78 ∧ Ow (kInt .i64) G AR78 cR78 t76 CR78 ∧ N = [CR78]) (i := 1) rfl (Ow.nodup HR69) hI (fun _ e l79 hI => by subst e; exact Calls.lendR (Φ := fun v' N => ∃ (AR78 : Option Addr), ∃ (cR78 : Nat), ∃ (CR78 : Chunk), v' = .slice AR78 t76.length cR78 ∧ Ow (kInt .i64) G AR78 cR78 t76 CR78 ∧ N = [CR78]) (i := 9) rfl (Ow.nodup (HR11.mono l79)) hI (fun _ e l80 hI => by subst e; exact Calls.lendR (Φ := fun v' N => ∃ (AR78 : Option Addr), ∃ (cR78 : Nat), ∃ (CR78 : Chunk), v' = .slice AR78 t76.length cR78 ∧ Ow (kInt .i64) G AR78 cR78 t76 CR78 ∧ N = [CR78]) (i := 0) rfl (by simp) hI (fun _ e l81 hI => by subst e; exact ((vector_Join_calls k ([t67, t9] : List (List Int)) (some ⟨b73, 0, none⟩) 2 ((Ow.lit (kd := (kSlice (kInt .i64))) (b := b73) (T := 52) (xs := ([t67, t9] : List (List Int))) (cs := [.slice AR69 t67.length cR69, .slice AR11 t9.length cR11]) (.cons (x := t67) (cs := [.slice AR69 t67.length cR69]) ⟨AR69, cR69, rfl, ((HR69.rd l79).mono l80)⟩ (.cons (x := t9) (cs := [.slice AR11 t9.length cR11]) ⟨AR11, cR11, rfl, ((HR11.mono l79).rd l80)⟩ .nil))).rd l81) t76 ht77 hI).mono fun _ _ hr => by obtain ⟨_, _, _, rfl, ⟨AR78, cR78, CR78, rfl, HR78, rfl, rfl⟩, hI⟩ := hr; exact ⟨_, _, _, rfl, ⟨[CR78], ⟨AR78, cR78, CR78, rfl, (HR78.flat (kInt_flat _)), rfl⟩, rfl, rfl⟩, hI⟩))))).mono fun _ _ hr => by obtain ⟨_, _, _, rfl, ⟨_, ⟨AR78, cR78, CR78, rfl, HR78, rfl⟩, rfl, rfl⟩, hI⟩ := hr; exact ⟨_, _, _, rfl, ⟨AR78, cR78, CR78, rfl, HR78, rfl, rfl⟩, hI⟩)) ?_
        rintro _ _ _ ⟨AR78, cR78, CR78, rfl, HR78, rfl, rfl⟩
        rw [Option.bind_eq_some_iff] at h
        obtain ⟨t82, ht83, h⟩ := h
        refine WL.op (op := .call { callee := (.value (.func 35)), args := #[(.tmp 57), (.tmp 64)], argTypes := #[52, 52] }) (ty := 4) (d := some 65) (g := some (20, false)) (by kernel_rfl) (by kernel_rfl) (by kernel_rfl) (Does.call (Φ := fun v' G' Γ' => v' = .bool t82 ∧ G = G' ∧ CR78 :: [(b73, .cells #[.slice AR69 t67.length cR69, .slice AR11 t9.length cR11] 52 (0, 0))] :: CR69 :: [(b64, .cells #[.slice AR5 t3.length cR5, .slice AR8 t6.length cR8] 52 (0, 0))] :: CR54 :: [(b49, .cells #[.slice AR11 t9.length cR11, .slice AR5 t3.length cR5, .slice AR8 t6.length cR8, .slice AR5 t3.length cR5] 52 (0, 0))] :: CR39 :: [(b34, .cells #[.slice AR11 t9.length cR11, .slice AR5 t3.length cR5, .slice AR8 t6.length cR8, .slice AR5 t3.length cR5] 52 (0, 0))] :: CR27 :: CR17 :: CR11 :: CR8 :: CR5 :: Γ = Γ') (f := 35) (args := [.slice AR17 t15.length cR17, .slice AR78 t76.length cR78]) (by kernel_rfl) (fun W hI => Calls.lend (i := 9) rfl (Ow.nodup HR17) hI (fun _ e l84 hI => by subst e; exact Calls.lend (i := 0) rfl (Ow.nodup (HR78.mono l84)) hI (fun _ e l85 hI => by subst e; exact (grapevinelaw0_SameInts_calls k t15 t76 AR17 cR17 ((HR17.rd l84).mono l85) AR78 cR78 ((HR78.mono l84).rd l85) t82 ht83 hI))))) ?_
        rintro _ _ _ ⟨rfl, rfl, rfl⟩
        refine WL.pure 30 33 [3, 9, 10, 11, 12, 13, 68] (L' := [(3, .int .i64 (IntKind.i64.wrap (1 + t1))), (9, .slice AR5 t3.length cR5), (10, .slice AR8 t6.length cR8), (11, .slice AR11 t9.length cR11), (12, .slice AR17 t15.length cR17), (13, .slice AR27 t25.length cR27), (68, .bool (!t82))]) (by kernel_rfl) (by decide) ?_
        refine WL.split 68 (b := (!t82)) (by kernel_rfl) (fun hc => ?_) (fun hc => ?_)
        · replace hc := hc
          rw [if_pos hc] at h
          have hc86 := hc
          clear hc
          refine WL.rest 33 [3, 9, 10, 11, 12, 13, 91] (L' := [(3, .int .i64 (IntKind.i64.wrap (1 + t1))), (9, .slice AR5 t3.length cR5), (10, .slice AR8 t6.length cR8), (11, .slice AR11 t9.length cR11), (12, .slice AR17 t15.length cR17), (13, .slice AR27 t25.length cR27), (91, .bool true)]) (by kernel_rfl) ?_
          refine QP.dropAt 7 ?_
          refine QP.dropAt 6 ?_
          refine QP.dropAt 5 ?_
          refine QP.dropAt 4 ?_
          refine QP.dropAt 3 ?_
          refine QP.dropAt 2 ?_
          refine QP.dropAt 1 ?_
          refine QP.dropAt 0 ?_
          refine QP.pick [3, 9, 10, 11, 12, 13, 91] ?_
          exact QP.meet ⟨_, Option.some.inj h, rfl, rfl, rfl⟩
        · replace hc := (Bool.eq_false_iff.1 hc)
          rw [if_neg hc] at h
          have hc86 := hc
          clear hc
          refine WL.pure 33 36 [3, 9, 10, 11, 12, 13, 68, 69, 70, 71] (L' := [(3, .int .i64 (IntKind.i64.wrap (1 + t1))), (9, .slice AR5 t3.length cR5), (10, .slice AR8 t6.length cR8), (11, .slice AR11 t9.length cR11), (12, .slice AR17 t15.length cR17), (13, .slice AR27 t25.length cR27), (68, .bool false), (69, .slice AR5 t3.length cR5), (70, .slice AR5 t3.length cR5), (71, .slice AR8 t6.length cR8)]) (by kernel_rfl) (by decide) ?_
          refine WL.op (op := .buildSlice 84 2 #[(0, (.tmp 70)), (1, (.tmp 71))]) (ty := 84) (d := some 72) (g := some (32, false)) (by kernel_rfl) (by kernel_rfl) (by kernel_rfl) (Does.new (o := .cells #[.slice AR5 t3.length cR5, .slice AR8 t6.length cR8] 52 (0, 0)) (v := fun r => .slice (some ⟨r, 0, none⟩) 2 2) (fun r => by kernel_rfl)) ?_
          rintro _ _ _ ⟨b87, rfl, rfl, rfl⟩
          rw [Option.bind_eq_some_iff] at h
          obtain ⟨t90, ht91, h⟩ := h
          refine WL.op (op := .call { callee := (.value (.func 34)), args := #[(.tmp 72)], argTypes := #[84] }) (ty := 52) (d := some 73) (g := some (32, false)) (by kernel_rfl) (by kernel_rfl) (by kernel_rfl) (Does.call (Φ := fun v' G' Γ' => ∃ (AR92 : Option Addr), ∃ (cR92 : Nat), ∃ (CR92 : Chunk), v' = .slice AR92 t90.length cR92 ∧ Ow (kInt .i64) G AR92 cR92 t90 CR92 ∧ G = G' ∧ CR92 :: [(b87, .cells #[.slice AR5 t3.length cR5, .slice AR8 t6.length cR8] 52 (0, 0))] :: CR78 :: [(b73, .cells #[.slice AR69 t67.length cR69, .slice AR11 t9.length cR11] 52 (0, 0))] :: CR69 :: [(b64, .cells #[.slice AR5 t3.length cR5, .slice AR8 t6.length cR8] 52 (0, 0))] :: CR54 :: [(b49, .cells #[.slice AR11 t9.length cR11, .slice AR5 t3.length cR5, .slice AR8 t6.length cR8, .slice AR5 t3.length cR5] 52 (0, 0))] :: CR39 :: [(b34, .cells #[.slice AR11 t9.length cR11, .slice AR5 t3.length cR5, .slice AR8 t6.length cR8, .slice AR5 t3.length cR5] 52 (0, 0))] :: CR27 :: CR17 :: CR11 :: CR8 :: CR5 :: Γ = Γ') (f := 34) (args := [.slice (some ⟨b87, 0, none⟩) ([t3, t6] : List (List Int)).length 2]) (by kernel_rfl) (fun W hI => (Calls.lendR (Φ := fun v' N => ∃ (AR92 : Option Addr), ∃ (cR92 : Nat), ∃ (CR92 : Chunk), v' = .slice AR92 t90.length cR92 ∧ Ow (kInt .i64) G AR92 cR92 t90 CR92 ∧ N = [CR92]) (i := 13) rfl (Ow.nodup HR5) hI (fun _ e l93 hI => by subst e; exact Calls.lendR (Φ := fun v' N => ∃ (AR92 : Option Addr), ∃ (cR92 : Nat), ∃ (CR92 : Chunk), v' = .slice AR92 t90.length cR92 ∧ Ow (kInt .i64) G AR92 cR92 t90 CR92 ∧ N = [CR92]) (i := 12) rfl (Ow.nodup (HR8.mono l93)) hI (fun _ e l94 hI => by subst e; exact Calls.lendR (Φ := fun v' N => ∃ (AR92 : Option Addr), ∃ (cR92 : Nat), ∃ (CR92 : Chunk), v' = .slice AR92 t90.length cR92 ∧ Ow (kInt .i64) G AR92 cR92 t90 CR92 ∧ N = [CR92]) (i := 0) rfl (by simp) hI (fun _ e l95 hI => by subst e; exact ((vector_Meet_calls k ([t3, t6] : List (List Int)) (some ⟨b87, 0, none⟩) 2 ((Ow.lit (kd := (kSlice (kInt .i64))) (b := b87) (T := 52) (xs := ([t3, t6] : List (List Int))) (cs := [.slice AR5 t3.length cR5, .slice AR8 t6.length cR8]) (.cons (x := t3) (cs := [.slice AR5 t3.length cR5]) ⟨AR5, cR5, rfl, ((HR5.rd l93).mono l94)⟩ (.cons (x := t6) (cs := [.slice AR8 t6.length cR8]) ⟨AR8, cR8, rfl, ((HR8.mono l93).rd l94)⟩ .nil))).rd l95) t90 ht91 hI).mono fun _ _ hr => by obtain ⟨_, _, _, rfl, ⟨AR92, cR92, CR92, rfl, HR92, rfl, rfl⟩, hI⟩ := hr; exact ⟨_, _, _, rfl, ⟨[CR92], ⟨AR92, cR92, CR92, rfl, (HR92.flat (kInt_flat _)), rfl⟩, rfl, rfl⟩, hI⟩))))).mono fun _ _ hr => by obtain ⟨_, _, _, rfl, ⟨_, ⟨AR92, cR92, CR92, rfl, HR92, rfl⟩, rfl, rfl⟩, hI⟩ := hr; exact ⟨_, _, _, rfl, ⟨AR92, cR92, CR92, rfl, HR92, rfl, rfl⟩, hI⟩)) ?_
          rintro _ _ _ ⟨AR92, cR92, CR92, rfl, HR92, rfl, rfl⟩
          refine WL.op (op := .buildSlice 84 2 #[(0, (.tmp 69)), (1, (.tmp 73))]) (ty := 84) (d := some 74) (g := some (32, false)) (by kernel_rfl) (by kernel_rfl) (by kernel_rfl) (Does.new (o := .cells #[.slice AR5 t3.length cR5, .slice AR92 t90.length cR92] 52 (0, 0)) (v := fun r => .slice (some ⟨r, 0, none⟩) 2 2) (fun r => by kernel_rfl)) ?_
          rintro _ _ _ ⟨b96, rfl, rfl, rfl⟩
          rw [Option.bind_eq_some_iff] at h
          obtain ⟨t99, ht100, h⟩ := h
          refine WL.op (op := .call { callee := (.value (.func 33)), args := #[(.tmp 74)], argTypes := #[84] }) (ty := 52) (d := some 75) (g := some (32, false)) (by kernel_rfl) (by kernel_rfl) (by kernel_rfl) (Does.call (Φ := fun v' G' Γ' => ∃ (AR101 : Option Addr), ∃ (cR101 : Nat), ∃ (CR101 : Chunk), v' = .slice AR101 t99.length cR101 ∧ Ow (kInt .i64) G AR101 cR101 t99 CR101 ∧ G = G' ∧ CR101 :: [(b96, .cells #[.slice AR5 t3.length cR5, .slice AR92 t90.length cR92] 52 (0, 0))] :: CR92 :: [(b87, .cells #[.slice AR5 t3.length cR5, .slice AR8 t6.length cR8] 52 (0, 0))] :: CR78 :: [(b73, .cells #[.slice AR69 t67.length cR69, .slice AR11 t9.length cR11] 52 (0, 0))] :: CR69 :: [(b64, .cells #[.slice AR5 t3.length cR5, .slice AR8 t6.length cR8] 52 (0, 0))] :: CR54 :: [(b49, .cells #[.slice AR11 t9.length cR11, .slice AR5 t3.length cR5, .slice AR8 t6.length cR8, .slice AR5 t3.length cR5] 52 (0, 0))] :: CR39 :: [(b34, .cells #[.slice AR11 t9.length cR11, .slice AR5 t3.length cR5, .slice AR8 t6.length cR8, .slice AR5 t3.length cR5] 52 (0, 0))] :: CR27 :: CR17 :: CR11 :: CR8 :: CR5 :: Γ = Γ') (f := 33) (args := [.slice (some ⟨b96, 0, none⟩) ([t3, t90] : List (List Int)).length 2]) (by kernel_rfl) (fun W hI => (Calls.lendR (Φ := fun v' N => ∃ (AR101 : Option Addr), ∃ (cR101 : Nat), ∃ (CR101 : Chunk), v' = .slice AR101 t99.length cR101 ∧ Ow (kInt .i64) G AR101 cR101 t99 CR101 ∧ N = [CR101]) (i := 15) rfl (Ow.nodup HR5) hI (fun _ e l102 hI => by subst e; exact Calls.lendR (Φ := fun v' N => ∃ (AR101 : Option Addr), ∃ (cR101 : Nat), ∃ (CR101 : Chunk), v' = .slice AR101 t99.length cR101 ∧ Ow (kInt .i64) G AR101 cR101 t99 CR101 ∧ N = [CR101]) (i := 1) rfl (Ow.nodup (HR92.mono l102)) hI (fun _ e l103 hI => by subst e; exact Calls.lendR (Φ := fun v' N => ∃ (AR101 : Option Addr), ∃ (cR101 : Nat), ∃ (CR101 : Chunk), v' = .slice AR101 t99.length cR101 ∧ Ow (kInt .i64) G AR101 cR101 t99 CR101 ∧ N = [CR101]) (i := 0) rfl (by simp) hI (fun _ e l104 hI => by subst e; exact ((vector_Join_calls k ([t3, t90] : List (List Int)) (some ⟨b96, 0, none⟩) 2 ((Ow.lit (kd := (kSlice (kInt .i64))) (b := b96) (T := 52) (xs := ([t3, t90] : List (List Int))) (cs := [.slice AR5 t3.length cR5, .slice AR92 t90.length cR92]) (.cons (x := t3) (cs := [.slice AR5 t3.length cR5]) ⟨AR5, cR5, rfl, ((HR5.rd l102).mono l103)⟩ (.cons (x := t90) (cs := [.slice AR92 t90.length cR92]) ⟨AR92, cR92, rfl, ((HR92.mono l102).rd l103)⟩ .nil))).rd l104) t99 ht100 hI).mono fun _ _ hr => by obtain ⟨_, _, _, rfl, ⟨AR101, cR101, CR101, rfl, HR101, rfl, rfl⟩, hI⟩ := hr; exact ⟨_, _, _, rfl, ⟨[CR101], ⟨AR101, cR101, CR101, rfl, (HR101.flat (kInt_flat _)), rfl⟩, rfl, rfl⟩, hI⟩))))).mono fun _ _ hr => by obtain ⟨_, _, _, rfl, ⟨_, ⟨AR101, cR101, CR101, rfl, HR101, rfl⟩, rfl, rfl⟩, hI⟩ := hr; exact ⟨_, _, _, rfl, ⟨AR101, cR101, CR101, rfl, HR101, rfl, rfl⟩, hI⟩)) ?_
          rintro _ _ _ ⟨AR101, cR101, CR101, rfl, HR101, rfl, rfl⟩
          refine WL.pure 40 41 [3, 9, 10, 11, 12, 13, 68, 75, 76] (L' := [(3, .int .i64 (IntKind.i64.wrap (1 + t1))), (9, .slice AR5 t3.length cR5), (10, .slice AR8 t6.length cR8), (11, .slice AR11 t9.length cR11), (12, .slice AR17 t15.length cR17), (13, .slice AR27 t25.length cR27), (68, .bool false), (75, .slice AR101 t99.length cR101), (76, .slice AR5 t3.length cR5)]) (by kernel_rfl) (by decide) ?_
          rw [Option.bind_eq_some_iff] at h
          obtain ⟨t105, ht106, h⟩ := h
          refine WL.op (op := .call { callee := (.value (.func 35)), args := #[(.tmp 75), (.tmp 76)], argTypes := #[52, 52] }) (ty := 4) (d := some 77) (g := some (32, false)) (by kernel_rfl) (by kernel_rfl) (by kernel_rfl) (Does.call (Φ := fun v' G' Γ' => v' = .bool t105 ∧ G = G' ∧ CR101 :: [(b96, .cells #[.slice AR5 t3.length cR5, .slice AR92 t90.length cR92] 52 (0, 0))] :: CR92 :: [(b87, .cells #[.slice AR5 t3.length cR5, .slice AR8 t6.length cR8] 52 (0, 0))] :: CR78 :: [(b73, .cells #[.slice AR69 t67.length cR69, .slice AR11 t9.length cR11] 52 (0, 0))] :: CR69 :: [(b64, .cells #[.slice AR5 t3.length cR5, .slice AR8 t6.length cR8] 52 (0, 0))] :: CR54 :: [(b49, .cells #[.slice AR11 t9.length cR11, .slice AR5 t3.length cR5, .slice AR8 t6.length cR8, .slice AR5 t3.length cR5] 52 (0, 0))] :: CR39 :: [(b34, .cells #[.slice AR11 t9.length cR11, .slice AR5 t3.length cR5, .slice AR8 t6.length cR8, .slice AR5 t3.length cR5] 52 (0, 0))] :: CR27 :: CR17 :: CR11 :: CR8 :: CR5 :: Γ = Γ') (f := 35) (args := [.slice AR101 t99.length cR101, .slice AR5 t3.length cR5]) (by kernel_rfl) (fun W hI => Calls.lend (i := 0) rfl (Ow.nodup HR101) hI (fun _ e l107 hI => by subst e; exact Calls.lend (i := 16) rfl (Ow.nodup (HR5.mono l107)) hI (fun _ e l108 hI => by subst e; exact (grapevinelaw0_SameInts_calls k t99 t3 AR101 cR101 ((HR101.rd l107).mono l108) AR5 cR5 ((HR5.mono l107).rd l108) t105 ht106 hI))))) ?_
          rintro _ _ _ ⟨rfl, rfl, rfl⟩
          refine WL.pure 42 45 [3, 9, 10, 11, 12, 13, 80] (L' := [(3, .int .i64 (IntKind.i64.wrap (1 + t1))), (9, .slice AR5 t3.length cR5), (10, .slice AR8 t6.length cR8), (11, .slice AR11 t9.length cR11), (12, .slice AR17 t15.length cR17), (13, .slice AR27 t25.length cR27), (80, .bool (!t105))]) (by kernel_rfl) (by decide) ?_
          refine WL.split 80 (b := (!t105)) (by kernel_rfl) (fun hc => ?_) (fun hc => ?_)
          · replace hc := hc
            rw [if_pos hc] at h
            have hc109 := hc
            clear hc
            refine WL.rest 45 [3, 9, 10, 11, 12, 13, 91] (L' := [(3, .int .i64 (IntKind.i64.wrap (1 + t1))), (9, .slice AR5 t3.length cR5), (10, .slice AR8 t6.length cR8), (11, .slice AR11 t9.length cR11), (12, .slice AR17 t15.length cR17), (13, .slice AR27 t25.length cR27), (91, .bool true)]) (by kernel_rfl) ?_
            refine QP.dropAt 11 ?_
            refine QP.dropAt 10 ?_
            refine QP.dropAt 9 ?_
            refine QP.dropAt 8 ?_
            refine QP.dropAt 7 ?_
            refine QP.dropAt 6 ?_
            refine QP.dropAt 5 ?_
            refine QP.dropAt 4 ?_
            refine QP.dropAt 3 ?_
            refine QP.dropAt 2 ?_
            refine QP.dropAt 1 ?_
            refine QP.dropAt 0 ?_
            refine QP.pick [3, 9, 10, 11, 12, 13, 91] ?_
            exact QP.meet ⟨_, Option.some.inj h, rfl, rfl, rfl⟩
          · replace hc := (Bool.eq_false_iff.1 hc)
            rw [if_neg hc] at h
            have hc109 := hc
            clear hc
            refine WL.pure 45 48 [3, 9, 10, 11, 12, 13, 80, 81, 82, 83] (L' := [(3, .int .i64 (IntKind.i64.wrap (1 + t1))), (9, .slice AR5 t3.length cR5), (10, .slice AR8 t6.length cR8), (11, .slice AR11 t9.length cR11), (12, .slice AR17 t15.length cR17), (13, .slice AR27 t25.length cR27), (80, .bool false), (81, .slice AR5 t3.length cR5), (82, .slice AR5 t3.length cR5), (83, .slice AR8 t6.length cR8)]) (by kernel_rfl) (by decide) ?_
            refine WL.op (op := .buildSlice 84 2 #[(0, (.tmp 82)), (1, (.tmp 83))]) (ty := 84) (d := some 84) (g := some (44, false)) (by kernel_rfl) (by kernel_rfl) (by kernel_rfl) (Does.new (o := .cells #[.slice AR5 t3.length cR5, .slice AR8 t6.length cR8] 52 (0, 0)) (v := fun r => .slice (some ⟨r, 0, none⟩) 2 2) (fun r => by kernel_rfl)) ?_
            rintro _ _ _ ⟨b110, rfl, rfl, rfl⟩
            rw [Option.bind_eq_some_iff] at h
            obtain ⟨t113, ht114, h⟩ := h
            refine WL.op (op := .call { callee := (.value (.func 33)), args := #[(.tmp 84)], argTypes := #[84] }) (ty := 52) (d := some 85) (g := some (44, false)) (by kernel_rfl) (by kernel_rfl) (by kernel_rfl) (Does.call (Φ := fun v' G' Γ' => ∃ (AR115 : Option Addr), ∃ (cR115 : Nat), ∃ (CR115 : Chunk), v' = .slice AR115 t113.length cR115 ∧ Ow (kInt .i64) G AR115 cR115 t113 CR115 ∧ G = G' ∧ CR115 :: [(b110, .cells #[.slice AR5 t3.length cR5, .slice AR8 t6.length cR8] 52 (0, 0))] :: CR101 :: [(b96, .cells #[.slice AR5 t3.length cR5, .slice AR92 t90.length cR92] 52 (0, 0))] :: CR92 :: [(b87, .cells #[.slice AR5 t3.length cR5, .slice AR8 t6.length cR8] 52 (0, 0))] :: CR78 :: [(b73, .cells #[.slice AR69 t67.length cR69, .slice AR11 t9.length cR11] 52 (0, 0))] :: CR69 :: [(b64, .cells #[.slice AR5 t3.length cR5, .slice AR8 t6.length cR8] 52 (0, 0))] :: CR54 :: [(b49, .cells #[.slice AR11 t9.length cR11, .slice AR5 t3.length cR5, .slice AR8 t6.length cR8, .slice AR5 t3.length cR5] 52 (0, 0))] :: CR39 :: [(b34, .cells #[.slice AR11 t9.length cR11, .slice AR5 t3.length cR5, .slice AR8 t6.length cR8, .slice AR5 t3.length cR5] 52 (0, 0))] :: CR27 :: CR17 :: CR11 :: CR8 :: CR5 :: Γ = Γ') (f := 33) (args := [.slice (some ⟨b110, 0, none⟩) ([t3, t6] : List (List Int)).length 2]) (by kernel_rfl) (fun W hI => (Calls.lendR (Φ := fun v' N => ∃ (AR115 : Option Addr), ∃ (cR115 : Nat), ∃ (CR115 : Chunk), v' = .slice AR115 t113.length cR115 ∧ Ow (kInt .i64) G AR115 cR115 t113 CR115 ∧ N = [CR115]) (i := 17) rfl (Ow.nodup HR5) hI (fun _ e l116 hI => by subst e; exact Calls.lendR (Φ := fun v' N => ∃ (AR115 : Option Addr), ∃ (cR115 : Nat), ∃ (CR115 : Chunk), v' = .slice AR115 t113.length cR115 ∧ Ow (kInt .i64) G AR115 cR115 t113 CR115 ∧ N = [CR115]) (i := 16) rfl (Ow.nodup (HR8.mono l116)) hI (fun _ e l117 hI => by subst e; exact Calls.lendR (Φ := fun v' N => ∃ (AR115 : Option Addr), ∃ (cR115 : Nat), ∃ (CR115 : Chunk), v' = .slice AR115 t113.length cR115 ∧ Ow (kInt .i64) G AR115 cR115 t113 CR115 ∧ N = [CR115]) (i := 0) rfl (by simp) hI (fun _ e l118 hI => by subst e; exact ((vector_Join_calls k ([t3, t6] : List (List Int)) (some ⟨b110, 0, none⟩) 2 ((Ow.lit (kd := (kSlice (kInt .i64))) (b := b110) (T := 52) (xs := ([t3, t6] : List (List Int))) (cs := [.slice AR5 t3.length cR5, .slice AR8 t6.length cR8]) (.cons (x := t3) (cs := [.slice AR5 t3.length cR5]) ⟨AR5, cR5, rfl, ((HR5.rd l116).mono l117)⟩ (.cons (x := t6) (cs := [.slice AR8 t6.length cR8]) ⟨AR8, cR8, rfl, ((HR8.mono l116).rd l117)⟩ .nil))).rd l118) t113 ht114 hI).mono fun _ _ hr => by obtain ⟨_, _, _, rfl, ⟨AR115, cR115, CR115, rfl, HR115, rfl, rfl⟩, hI⟩ := hr; exact ⟨_, _, _, rfl, ⟨[CR115], ⟨AR115, cR115, CR115, rfl, (HR115.flat (kInt_flat _)), rfl⟩, rfl, rfl⟩, hI⟩))))).mono fun _ _ hr => by obtain ⟨_, _, _, rfl, ⟨_, ⟨AR115, cR115, CR115, rfl, HR115, rfl⟩, rfl, rfl⟩, hI⟩ := hr; exact ⟨_, _, _, rfl, ⟨AR115, cR115, CR115, rfl, HR115, rfl, rfl⟩, hI⟩)) ?_
            rintro _ _ _ ⟨AR115, cR115, CR115, rfl, HR115, rfl, rfl⟩
            refine WL.op (op := .buildSlice 84 2 #[(0, (.tmp 81)), (1, (.tmp 85))]) (ty := 84) (d := some 86) (g := some (44, false)) (by kernel_rfl) (by kernel_rfl) (by kernel_rfl) (Does.new (o := .cells #[.slice AR5 t3.length cR5, .slice AR115 t113.length cR115] 52 (0, 0)) (v := fun r => .slice (some ⟨r, 0, none⟩) 2 2) (fun r => by kernel_rfl)) ?_
            rintro _ _ _ ⟨b119, rfl, rfl, rfl⟩
            rw [Option.bind_eq_some_iff] at h
            obtain ⟨t122, ht123, h⟩ := h
            refine WL.op (op := .call { callee := (.value (.func 34)), args := #[(.tmp 86)], argTypes := #[84] }) (ty := 52) (d := some 87) (g := some (44, false)) (by kernel_rfl) (by kernel_rfl) (by kernel_rfl) (Does.call (Φ := fun v' G' Γ' => ∃ (AR124 : Option Addr), ∃ (cR124 : Nat), ∃ (CR124 : Chunk), v' = .slice AR124 t122.length cR124 ∧ Ow (kInt .i64) G AR124 cR124 t122 CR124 ∧ G = G' ∧ CR124 :: [(b119, .cells #[.slice AR5 t3.length cR5, .slice AR115 t113.length cR115] 52 (0, 0))] :: CR115 :: [(b110, .cells #[.slice AR5 t3.length cR5, .slice AR8 t6.length cR8] 52 (0, 0))] :: CR101 :: [(b96, .cells #[.slice AR5 t3.length cR5, .slice AR92 t90.length cR92] 52 (0, 0))] :: CR92 :: [(b87, .cells #[.slice AR5 t3.length cR5, .slice AR8 t6.length cR8] 52 (0, 0))] :: CR78 :: [(b73, .cells #[.slice AR69 t67.length cR69, .slice AR11 t9.length cR11] 52 (0, 0))] :: CR69 :: [(b64, .cells #[.slice AR5 t3.length cR5, .slice AR8 t6.length cR8] 52 (0, 0))] :: CR54 :: [(b49, .cells #[.slice AR11 t9.length cR11, .slice AR5 t3.length cR5, .slice AR8 t6.length cR8, .slice AR5 t3.length cR5] 52 (0, 0))] :: CR39 :: [(b34, .cells #[.slice AR11 t9.length cR11, .slice AR5 t3.length cR5, .slice AR8 t6.length cR8, .slice AR5 t3.length cR5] 52 (0, 0))] :: CR27 :: CR17 :: CR11 :: CR8 :: CR5 :: Γ = Γ') (f := 34) (args := [.slice (some ⟨b119, 0, none⟩) ([t3, t113] : List (List Int)).length 2]) (by kernel_rfl) (fun W hI => (Calls.lendR (Φ := fun v' N => ∃ (AR124 : Option Addr), ∃ (cR124 : Nat), ∃ (CR124 : Chunk), v' = .slice AR124 t122.length cR124 ∧ Ow (kInt .i64) G AR124 cR124 t122 CR124 ∧ N = [CR124]) (i := 19) rfl (Ow.nodup HR5) hI (fun _ e l125 hI => by subst e; exact Calls.lendR (Φ := fun v' N => ∃ (AR124 : Option Addr), ∃ (cR124 : Nat), ∃ (CR124 : Chunk), v' = .slice AR124 t122.length cR124 ∧ Ow (kInt .i64) G AR124 cR124 t122 CR124 ∧ N = [CR124]) (i := 1) rfl (Ow.nodup (HR115.mono l125)) hI (fun _ e l126 hI => by subst e; exact Calls.lendR (Φ := fun v' N => ∃ (AR124 : Option Addr), ∃ (cR124 : Nat), ∃ (CR124 : Chunk), v' = .slice AR124 t122.length cR124 ∧ Ow (kInt .i64) G AR124 cR124 t122 CR124 ∧ N = [CR124]) (i := 0) rfl (by simp) hI (fun _ e l127 hI => by subst e; exact ((vector_Meet_calls k ([t3, t113] : List (List Int)) (some ⟨b119, 0, none⟩) 2 ((Ow.lit (kd := (kSlice (kInt .i64))) (b := b119) (T := 52) (xs := ([t3, t113] : List (List Int))) (cs := [.slice AR5 t3.length cR5, .slice AR115 t113.length cR115]) (.cons (x := t3) (cs := [.slice AR5 t3.length cR5]) ⟨AR5, cR5, rfl, ((HR5.rd l125).mono l126)⟩ (.cons (x := t113) (cs := [.slice AR115 t113.length cR115]) ⟨AR115, cR115, rfl, ((HR115.mono l125).rd l126)⟩ .nil))).rd l127) t122 ht123 hI).mono fun _ _ hr => by obtain ⟨_, _, _, rfl, ⟨AR124, cR124, CR124, rfl, HR124, rfl, rfl⟩, hI⟩ := hr; exact ⟨_, _, _, rfl, ⟨[CR124], ⟨AR124, cR124, CR124, rfl, (HR124.flat (kInt_flat _)), rfl⟩, rfl, rfl⟩, hI⟩))))).mono fun _ _ hr => by obtain ⟨_, _, _, rfl, ⟨_, ⟨AR124, cR124, CR124, rfl, HR124, rfl⟩, rfl, rfl⟩, hI⟩ := hr; exact ⟨_, _, _, rfl, ⟨AR124, cR124, CR124, rfl, HR124, rfl, rfl⟩, hI⟩)) ?_
            rintro _ _ _ ⟨AR124, cR124, CR124, rfl, HR124, rfl, rfl⟩
            refine WL.pure 52 53 [3, 9, 10, 11, 12, 13, 80, 87, 88] (L' := [(3, .int .i64 (IntKind.i64.wrap (1 + t1))), (9, .slice AR5 t3.length cR5), (10, .slice AR8 t6.length cR8), (11, .slice AR11 t9.length cR11), (12, .slice AR17 t15.length cR17), (13, .slice AR27 t25.length cR27), (80, .bool false), (87, .slice AR124 t122.length cR124), (88, .slice AR5 t3.length cR5)]) (by kernel_rfl) (by decide) ?_
            rw [Option.bind_eq_some_iff] at h
            obtain ⟨t128, ht129, h⟩ := h
            refine WL.op (op := .call { callee := (.value (.func 35)), args := #[(.tmp 87), (.tmp 88)], argTypes := #[52, 52] }) (ty := 4) (d := some 89) (g := some (44, false)) (by kernel_rfl) (by kernel_rfl) (by kernel_rfl) (Does.call (Φ := fun v' G' Γ' => v' = .bool t128 ∧ G = G' ∧ CR124 :: [(b119, .cells #[.slice AR5 t3.length cR5, .slice AR115 t113.length cR115] 52 (0, 0))] :: CR115 :: [(b110, .cells #[.slice AR5 t3.length cR5, .slice AR8 t6.length cR8] 52 (0, 0))] :: CR101 :: [(b96, .cells #[.slice AR5 t3.length cR5, .slice AR92 t90.length cR92] 52 (0, 0))] :: CR92 :: [(b87, .cells #[.slice AR5 t3.length cR5, .slice AR8 t6.length cR8] 52 (0, 0))] :: CR78 :: [(b73, .cells #[.slice AR69 t67.length cR69, .slice AR11 t9.length cR11] 52 (0, 0))] :: CR69 :: [(b64, .cells #[.slice AR5 t3.length cR5, .slice AR8 t6.length cR8] 52 (0, 0))] :: CR54 :: [(b49, .cells #[.slice AR11 t9.length cR11, .slice AR5 t3.length cR5, .slice AR8 t6.length cR8, .slice AR5 t3.length cR5] 52 (0, 0))] :: CR39 :: [(b34, .cells #[.slice AR11 t9.length cR11, .slice AR5 t3.length cR5, .slice AR8 t6.length cR8, .slice AR5 t3.length cR5] 52 (0, 0))] :: CR27 :: CR17 :: CR11 :: CR8 :: CR5 :: Γ = Γ') (f := 35) (args := [.slice AR124 t122.length cR124, .slice AR5 t3.length cR5]) (by kernel_rfl) (fun W hI => Calls.lend (i := 0) rfl (Ow.nodup HR124) hI (fun _ e l130 hI => by subst e; exact Calls.lend (i := 20) rfl (Ow.nodup (HR5.mono l130)) hI (fun _ e l131 hI => by subst e; exact (grapevinelaw0_SameInts_calls k t122 t3 AR124 cR124 ((HR124.rd l130).mono l131) AR5 cR5 ((HR5.mono l130).rd l131) t128 ht129 hI))))) ?_
            rintro _ _ _ ⟨rfl, rfl, rfl⟩
            refine WL.rest 54 [3, 9, 10, 11, 12, 13, 91] (L' := [(3, .int .i64 (IntKind.i64.wrap (1 + t1))), (9, .slice AR5 t3.length cR5), (10, .slice AR8 t6.length cR8), (11, .slice AR11 t9.length cR11), (12, .slice AR17 t15.length cR17), (13, .slice AR27 t25.length cR27), (91, .bool (!t128))]) (by kernel_rfl) ?_
            refine QP.dropAt 15 ?_
            refine QP.dropAt 14 ?_
            refine QP.dropAt 13 ?_
            refine QP.dropAt 12 ?_
            refine QP.dropAt 11 ?_
            refine QP.dropAt 10 ?_
            refine QP.dropAt 9 ?_
            refine QP.dropAt 8 ?_
            refine QP.dropAt 7 ?_
            refine QP.dropAt 6 ?_
            refine QP.dropAt 5 ?_
            refine QP.dropAt 4 ?_
            refine QP.dropAt 3 ?_
            refine QP.dropAt 2 ?_
            refine QP.dropAt 1 ?_
            refine QP.dropAt 0 ?_
            refine QP.pick [3, 9, 10, 11, 12, 13, 91] ?_
            exact QP.meet ⟨_, Option.some.inj h, rfl, rfl, rfl⟩
  · rintro _ _ _ ⟨s32, rfl, rfl, rfl, rfl⟩
    clear h
    replace h := hk33
    refine WP.cond (b := s32) (by kernel_rfl) (fun hc => ?_) (fun hc => ?_)
    · replace hc := hc
      rw [if_pos hc] at h
      have hc132 := hc
      clear hc
      refine WP.seqP [8] (L' := [(8, .bool false)]) (by kernel_rfl) ?_
      refine WP.dropAt 4 ?_
      refine WP.dropAt 3 ?_
      refine WP.dropAt 2 ?_
      refine WP.dropAt 1 ?_
      refine WP.dropAt 0 ?_
      refine WP.ret ?_
      refine QP.thenR ?_
      obtain rfl := Option.some.inj h
      exact QP.returned [8] [.bool false] _ (by kernel_rfl) (by kernel_rfl) (by kernel_rfl) (fun W hI => ⟨_, _, _, rfl, ⟨rfl, rfl, rfl⟩, hI⟩)
    · replace hc := (Bool.eq_false_iff.1 hc)
      rw [if_neg hc] at h
      have hc132 := hc
      clear hc
      refine WP.skip ?_
      refine QP.next ?_
      refine WP.pick [3, 9, 10, 11, 12, 13] ?_
      rw [Option.bind_eq_some_iff] at h
      obtain ⟨os133, h, hk134⟩ := h
      refine WP.cut (fun L' G' Γ' => ∃ s133 : Bool, s133 = os133 ∧ L' = [(8, .bool s133)] ∧ G = G' ∧ CR27 :: CR17 :: CR11 :: CR8 :: CR5 :: Γ = Γ') ?_ ?_
      · clear hk134
        refine WP.region ?_
        refine WL.pure 0 2 [3, 9, 10, 11, 12, 13, 92, 93] (L' := [(3, .int .i64 (IntKind.i64.wrap (1 + t1))), (9, .slice AR5 t3.length cR5), (10, .slice AR8 t6.length cR8), (11, .slice AR11 t9.length cR11), (12, .slice AR17 t15.length cR17), (13, .slice AR27 t25.length cR27), (92, .slice AR5 t3.length cR5), (93, .slice AR17 t15.length cR17)]) (by kernel_rfl) (by decide) ?_
        rw [Option.bind_eq_some_iff] at h
        obtain ⟨t135, ht136, h⟩ := h
        refine WL.op (op := .call { callee := (.value (.func 36)), args := #[(.tmp 92), (.tmp 93)], argTypes := #[52, 52] }) (ty := 4) (d := some 94) (g := none) (by kernel_rfl) (by kernel_rfl) (by kernel_rfl) (Does.call (Φ := fun v' G' Γ' => v' = .bool t135 ∧ G = G' ∧ CR27 :: CR17 :: CR11 :: CR8 :: CR5 :: Γ = Γ') (f := 36) (args := [.slice AR5 t3.length cR5, .slice AR17 t15.length cR17]) (by kernel_rfl) (fun W hI => Calls.lend (i := 4) rfl (Ow.nodup HR5) hI (fun _ e l137 hI => by subst e; exact Calls.lend (i := 1) rfl (Ow.nodup (HR17.mono l137)) hI (fun _ e l138 hI => by subst e; exact (vector_Below_calls k t3 t15 AR5 cR5 ((HR5.rd l137).mono l138) AR17 cR17 ((HR17.mono l137).rd l138) t135 ht136 hI))))) ?_
        rintro _ _ _ ⟨rfl, rfl, rfl⟩
        refine WL.pure 3 4 [3, 9, 10, 11, 12, 13, 95] (L' := [(3, .int .i64 (IntKind.i64.wrap (1 + t1))), (9, .slice AR5 t3.length cR5), (10, .slice AR8 t6.length cR8), (11, .slice AR11 t9.length cR11), (12, .slice AR17 t15.length cR17), (13, .slice AR27 t25.length cR27), (95, .bool t135)]) (by kernel_rfl) (by decide) ?_
        refine WL.split 95 (b := t135) (by kernel_rfl) (fun hc => ?_) (fun hc => ?_)
        · replace hc := hc
          rw [if_pos hc] at h
          have hc139 := hc
          clear hc
          refine WL.pure 4 6 [3, 9, 10, 11, 12, 13, 95, 96, 97] (L' := [(3, .int .i64 (IntKind.i64.wrap (1 + t1))), (9, .slice AR5 t3.length cR5), (10, .slice AR8 t6.length cR8), (11, .slice AR11 t9.length cR11), (12, .slice AR17 t15.length cR17), (13, .slice AR27 t25.length cR27), (95, .bool true), (96, .slice AR27 t25.length cR27), (97, .slice AR5 t3.length cR5)]) (by kernel_rfl) (by decide) ?_
          rw [Option.bind_eq_some_iff] at h
          obtain ⟨t140, ht141, h⟩ := h
          refine WL.op (op := .call { callee := (.value (.func 36)), args := #[(.tmp 96), (.tmp 97)], argTypes := #[52, 52] }) (ty := 4) (d := some 98) (g := some (3, true)) (by kernel_rfl) (by kernel_rfl) (by kernel_rfl) (Does.call (Φ := fun v' G' Γ' => v' = .bool t140 ∧ G = G' ∧ CR27 :: CR17 :: CR11 :: CR8 :: CR5 :: Γ = Γ') (f := 36) (args := [.slice AR27 t25.length cR27, .slice AR5 t3.length cR5]) (by kernel_rfl) (fun W hI => Calls.lend (i := 0) rfl (Ow.nodup HR27) hI (fun _ e l142 hI => by subst e; exact Calls.lend (i := 4) rfl (Ow.nodup (HR5.mono l142)) hI (fun _ e l143 hI => by subst e; exact (vector_Below_calls k t25 t3 AR27 cR27 ((HR27.rd l142).mono l143) AR5 cR5 ((HR5.mono l142).rd l143) t140 ht141 hI))))) ?_
          rintro _ _ _ ⟨rfl, rfl, rfl⟩
          refine WL.pure 7 9 [3, 9, 10, 11, 12, 13, 100] (L' := [(3, .int .i64 (IntKind.i64.wrap (1 + t1))), (9, .slice AR5 t3.length cR5), (10, .slice AR8 t6.length cR8), (11, .slice AR11 t9.length cR11), (12, .slice AR17 t15.length cR17), (13, .slice AR27 t25.length cR27), (100, .bool t140)]) (by kernel_rfl) (by decide) ?_
          refine WL.split 100 (b := t140) (by kernel_rfl) (fun hc => ?_) (fun hc => ?_)
          · replace hc := hc
            rw [if_pos hc] at h
            have hc144 := hc
            clear hc
            refine WL.pure 9 11 [3, 9, 10, 11, 12, 13, 100, 101, 102] (L' := [(3, .int .i64 (IntKind.i64.wrap (1 + t1))), (9, .slice AR5 t3.length cR5), (10, .slice AR8 t6.length cR8), (11, .slice AR11 t9.length cR11), (12, .slice AR17 t15.length cR17), (13, .slice AR27 t25.length cR27), (100, .bool true), (101, .slice AR8 t6.length cR8), (102, .slice AR17 t15.length cR17)]) (by kernel_rfl) (by decide) ?_
            rw [Option.bind_eq_some_iff] at h
            obtain ⟨t145, ht146, h⟩ := h
            refine WL.op (op := .call { callee := (.value (.func 36)), args := #[(.tmp 101), (.tmp 102)], argTypes := #[52, 52] }) (ty := 4) (d := some 103) (g := some (8, true)) (by kernel_rfl) (by kernel_rfl) (by kernel_rfl) (Does.call (Φ := fun v' G' Γ' => v' = .bool t145 ∧ G = G' ∧ CR27 :: CR17 :: CR11 :: CR8 :: CR5 :: Γ = Γ') (f := 36) (args := [.slice AR8 t6.length cR8, .slice AR17 t15.length cR17]) (by kernel_rfl) (fun W hI => Calls.lend (i := 3) rfl (Ow.nodup HR8) hI (fun _ e l147 hI => by subst e; exact Calls.lend (i := 1) rfl (Ow.nodup (HR17.mono l147)) hI (fun _ e l148 hI => by subst e; exact (vector_Below_calls k t6 t15 AR8 cR8 ((HR8.rd l147).mono l148) AR17 cR17 ((HR17.mono l147).rd l148) t145 ht146 hI))))) ?_
            rintro _ _ _ ⟨rfl, rfl, rfl⟩
            refine WL.pure 12 14 [3, 9, 10, 11, 12, 13, 105] (L' := [(3, .int .i64 (IntKind.i64.wrap (1 + t1))), (9, .slice AR5 t3.length cR5), (10, .slice AR8 t6.length cR8), (11, .slice AR11 t9.length cR11), (12, .slice AR17 t15.length cR17), (13, .slice AR27 t25.length cR27), (105, .bool t145)]) (by kernel_rfl) (by decide) ?_
            refine WL.split 105 (b := t145) (by kernel_rfl) (fun hc => ?_) (fun hc => ?_)
            · replace hc := hc
              rw [if_pos hc] at h
              have hc149 := hc
              clear hc
              refine WL.pure 14 16 [3, 9, 10, 12, 105, 106, 107] (L' := [(3, .int .i64 (IntKind.i64.wrap (1 + t1))), (9, .slice AR5 t3.length cR5), (10, .slice AR8 t6.length cR8), (12, .slice AR17 t15.length cR17), (105, .bool true), (106, .slice AR27 t25.length cR27), (107, .slice AR11 t9.length cR11)]) (by kernel_rfl) (by decide) ?_
              rw [Option.bind_eq_some_iff] at h
              obtain ⟨t150, ht151, h⟩ := h
              refine WL.op (op := .call { callee := (.value (.func 36)), args := #[(.tmp 106), (.tmp 107)], argTypes := #[52, 52] }) (ty := 4) (d := some 108) (g := some (13, true)) (by kernel_rfl) (by kernel_rfl) (by kernel_rfl) (Does.call (Φ := fun v' G' Γ' => v' = .bool t150 ∧ G = G' ∧ CR27 :: CR17 :: CR11 :: CR8 :: CR5 :: Γ = Γ') (f := 36) (args := [.slice AR27 t25.length cR27, .slice AR11 t9.length cR11]) (by kernel_rfl) (fun W hI => Calls.lend (i := 0) rfl (Ow.nodup HR27) hI (fun _ e l152 hI => by subst e; exact Calls.lend (i := 2) rfl (Ow.nodup (HR11.mono l152)) hI (fun _ e l153 hI => by subst e; exact (vector_Below_calls k t25 t9 AR27 cR27 ((HR27.rd l152).mono l153) AR11 cR11 ((HR11.mono l152).rd l153) t150 ht151 hI))))) ?_
              rintro _ _ _ ⟨rfl, rfl, rfl⟩
              refine WL.pure 17 19 [3, 9, 10, 12, 110] (L' := [(3, .int .i64 (IntKind.i64.wrap (1 + t1))), (9, .slice AR5 t3.length cR5), (10, .slice AR8 t6.length cR8), (12, .slice AR17 t15.length cR17), (110, .bool t150)]) (by kernel_rfl) (by decide) ?_
              refine WL.split 110 (b := t150) (by kernel_rfl) (fun hc => ?_) (fun hc => ?_)
              · replace hc := hc
                rw [if_pos hc] at h
                have hc154 := hc
                clear hc
                refine WL.pure 19 21 [9, 10, 12, 110, 111, 112] (L' := [(9, .slice AR5 t3.length cR5), (10, .slice AR8 t6.length cR8), (12, .slice AR17 t15.length cR17), (110, .bool true), (111, .slice AR17 t15.length cR17), (112, .int .i64 (IntKind.i64.wrap (1 + t1)))]) (by kernel_rfl) (by decide) ?_
                rw [Option.bind_eq_some_iff] at h
                obtain ⟨t155, ht156, h⟩ := h
                refine WL.op (op := .call { callee := (.value (.func 37)), args := #[(.tmp 111), (.tmp 112)], argTypes := #[52, 3] }) (ty := 4) (d := some 113) (g := some (18, true)) (by kernel_rfl) (by kernel_rfl) (by kernel_rfl) (Does.call (Φ := fun v' G' Γ' => v' = .bool t155 ∧ G = G' ∧ CR27 :: CR17 :: CR11 :: CR8 :: CR5 :: Γ = Γ') (f := 37) (args := [.slice AR17 t15.length cR17, .int .i64 (IntKind.i64.wrap (1 + t1))]) (by kernel_rfl) (fun W hI => Calls.lend (i := 1) rfl (Ow.nodup HR17) hI (fun _ e l157 hI => by subst e; exact (vector_May_calls k t15 (IntKind.i64.wrap (1 + t1)) AR17 cR17 (HR17.rd l157) t155 ht156 hI)))) ?_
                rintro _ _ _ ⟨rfl, rfl, rfl⟩
                refine WL.pure 22 24 [9, 10, 12, 115] (L' := [(9, .slice AR5 t3.length cR5), (10, .slice AR8 t6.length cR8), (12, .slice AR17 t15.length cR17), (115, .bool t155)]) (by kernel_rfl) (by decide) ?_
                refine WL.split 115 (b := t155) (by kernel_rfl) (fun hc => ?_) (fun hc => ?_)
                · replace hc := hc
                  rw [if_pos hc] at h
                  have hc158 := hc
                  clear hc
                  refine WL.pure 24 26 [9, 10, 12, 115, 116, 117] (L' := [(9, .slice AR5 t3.length cR5), (10, .slice AR8 t6.length cR8), (12, .slice AR17 t15.length cR17), (115, .bool true), (116, .slice AR5 t3.length cR5), (117, .slice AR8 t6.length cR8)]) (by kernel_rfl) (by decide) ?_
                  rw [Option.bind_eq_some_iff] at h
                  obtain ⟨t159, ht160, h⟩ := h
                  refine WL.op (op := .call { callee := (.value (.func 36)), args := #[(.tmp 116), (.tmp 117)], argTypes := #[52, 52] }) (ty := 4) (d := some 118) (g := some (23, true)) (by kernel_rfl) (by kernel_rfl) (by kernel_rfl) (Does.call (Φ := fun v' G' Γ' => v' = .bool t159 ∧ G = G' ∧ CR27 :: CR17 :: CR11 :: CR8 :: CR5 :: Γ = Γ') (f := 36) (args := [.slice AR5 t3.length cR5, .slice AR8 t6.length cR8]) (by kernel_rfl) (fun W hI => Calls.lend (i := 4) rfl (Ow.nodup HR5) hI (fun _ e l161 hI => by subst e; exact Calls.lend (i := 3) rfl (Ow.nodup (HR8.mono l161)) hI (fun _ e l162 hI => by subst e; exact (vector_Below_calls k t3 t6 AR5 cR5 ((HR5.rd l161).mono l162) AR8 cR8 ((HR8.mono l161).rd l162) t159 ht160 hI))))) ?_
                  rintro _ _ _ ⟨rfl, rfl, rfl⟩
                  refine WL.pure 27 29 [9, 10, 12, 115, 118, 119, 120] (L' := [(9, .slice AR5 t3.length cR5), (10, .slice AR8 t6.length cR8), (12, .slice AR17 t15.length cR17), (115, .bool true), (118, .bool t159), (119, .slice AR5 t3.length cR5), (120, .slice AR8 t6.length cR8)]) (by kernel_rfl) (by decide) ?_
                  refine WL.op (op := .buildSlice 84 2 #[(0, (.tmp 119)), (1, (.tmp 120))]) (ty := 84) (d := some 121) (g := some (23, true)) (by kernel_rfl) (by kernel_rfl) (by kernel_rfl) (Does.new (o := .cells #[.slice AR5 t3.length cR5, .slice AR8 t6.length cR8] 52 (0, 0)) (v := fun r => .slice (some ⟨r, 0, none⟩) 2 2) (fun r => by kernel_rfl)) ?_
                  rintro _ _ _ ⟨b163, rfl, rfl, rfl⟩
                  rw [Option.bind_eq_some_iff] at h
                  obtain ⟨t166, ht167, h⟩ := h
                  refine WL.op (op := .call { callee := (.value (.func 33)), args := #[(.tmp 121)], argTypes := #[84] }) (ty := 52) (d := some 122) (g := some (23, true)) (by kernel_rfl) (by kernel_rfl) (by kernel_rfl) (Does.call (Φ := fun v' G' Γ' => ∃ (AR168 : Option Addr), ∃ (cR168 : Nat), ∃ (CR168 : Chunk), v' = .slice AR168 t166.length cR168 ∧ Ow (kInt .i64) G AR168 cR168 t166 CR168 ∧ G = G' ∧ CR168 :: [(b163, .cells #[.slice AR5 t3.length cR5, .slice AR8 t6.length cR8] 52 (0, 0))] :: CR27 :: CR17 :: CR11 :: CR8 :: CR5 :: Γ = Γ') (f := 33) (args := [.slice (some ⟨b163, 0, none⟩) ([t3, t6] : List (List Int)).length 2]) (by kernel_rfl) (fun W hI => (Calls.lendR (Φ := fun v' N => ∃ (AR168 : Option Addr), ∃ (cR168 : Nat), ∃ (CR168 : Chunk), v' = .slice AR168 t166.length cR168 ∧ Ow (kInt .i64) G AR168 cR168 t166 CR168 ∧ N = [CR168]) (i := 5) rfl (Ow.nodup HR5) hI (fun _ e l169 hI => by subst e; exact Calls.lendR (Φ := fun v' N => ∃ (AR168 : Option Addr), ∃ (cR168 : Nat), ∃ (CR168 : Chunk), v' = .slice AR168 t166.length cR168 ∧ Ow (kInt .i64) G AR168 cR168 t166 CR168 ∧ N = [CR168]) (i := 4) rfl (Ow.nodup (HR8.mono l169)) hI (fun _ e l170 hI => by subst e; exact Calls.lendR (Φ := fun v' N => ∃ (AR168 : Option Addr), ∃ (cR168 : Nat), ∃ (CR168 : Chunk), v' = .slice AR168 t166.length cR168 ∧ Ow (kInt .i64) G AR168 cR168 t166 CR168 ∧ N = [CR168]) (i := 0) rfl (by simp) hI (fun _ e l171 hI => by subst e; exact ((vector_Join_calls k ([t3, t6] : List (List Int)) (some ⟨b163, 0, none⟩) 2 ((Ow.lit (kd := (kSlice (kInt .i64))) (b := b163) (T := 52) (xs := ([t3, t6] : List (List Int))) (cs := [.slice AR5 t3.length cR5, .slice AR8 t6.length cR8]) (.cons (x := t3) (cs := [.slice AR5 t3.length cR5]) ⟨AR5, cR5, rfl, ((HR5.rd l169).mono l170)⟩ (.cons (x := t6) (cs := [.slice AR8 t6.length cR8]) ⟨AR8, cR8, rfl, ((HR8.mono l169).rd l170)⟩ .nil))).rd l171) t166 ht167 hI).mono fun _ _ hr => by obtain ⟨_, _, _, rfl, ⟨AR168, cR168, CR168, rfl, HR168, rfl, rfl⟩, hI⟩ := hr; exact ⟨_, _, _, rfl, ⟨[CR168], ⟨AR168, cR168, CR168, rfl, (HR168.flat (kInt_flat _)), rfl⟩, rfl, rfl⟩, hI⟩))))).mono fun _ _ hr => by obtain ⟨_, _, _, rfl, ⟨_, ⟨AR168, cR168, CR168, rfl, HR168, rfl⟩, rfl, rfl⟩, hI⟩ := hr; exact ⟨_, _, _, rfl, ⟨AR168, cR168, CR168, rfl, HR168, rfl, rfl⟩, hI⟩)) ?_
                  rintro _ _ _ ⟨AR168, cR168, CR168, rfl, HR168, rfl, rfl⟩
                  refine WL.pure 31 32 [9, 12, 115, 118, 122, 123] (L' := [(9, .slice AR5 t3.length cR5), (12, .slice AR17 t15.length cR17), (115, .bool true), (118, .bool t159), (122, .slice AR168 t166.length cR168), (123, .slice AR8 t6.length cR8)]) (by kernel_rfl) (by decide) ?_
                  rw [Option.bind_eq_some_iff] at h
                  obtain ⟨t172, ht173, h⟩ := h
                  refine WL.op (op := .call { callee := (.value (.func 35)), args := #[(.tmp 122), (.tmp 123)], argTypes := #[52, 52] }) (ty := 4) (d := some 124) (g := some (23, true)) (by kernel_rfl) (by kernel_rfl) (by kernel_rfl) (Does.call (Φ := fun v' G' Γ' => v' = .bool t172 ∧ G = G' ∧ CR168 :: [(b163, .cells #[.slice AR5 t3.length cR5, .slice AR8 t6.length cR8] 52 (0, 0))] :: CR27 :: CR17 :: CR11 :: CR8 :: CR5 :: Γ = Γ') (f := 35) (args := [.slice AR168 t166.length cR168, .slice AR8 t6.length cR8]) (by kernel_rfl) (fun W hI => Calls.lend (i := 0) rfl (Ow.nodup HR168) hI (fun _ e l174 hI => by subst e; exact Calls.lend (i := 5) rfl (Ow.nodup (HR8.mono l174)) hI (fun _ e l175 hI => by subst e; exact (grapevinelaw0_SameInts_calls k t166 t6 AR168 cR168 ((HR168.rd l174).mono l175) AR8 cR8 ((HR8.mono l174).rd l175) t172 ht173 hI))))) ?_
                  rintro _ _ _ ⟨rfl, rfl, rfl⟩
                  refine WL.pure 33 36 [9, 12, 127] (L' := [(9, .slice AR5 t3.length cR5), (12, .slice AR17 t15.length cR17), (127, .bool (t159 == t172))]) (by kernel_rfl) (by decide) ?_
                  refine WL.split 127 (b := (t159 == t172)) (by kernel_rfl) (fun hc => ?_) (fun hc => ?_)
                  · replace hc := hc
                    rw [if_pos hc] at h
                    have hc176 := hc
                    clear hc
                    refine WL.pure 36 37 [9, 127, 128] (L' := [(9, .slice AR5 t3.length cR5), (127, .bool true), (128, .slice AR17 t15.length cR17)]) (by kernel_rfl) (by decide) ?_
                    rw [Option.bind_eq_some_iff] at h
                    obtain ⟨t177, ht178, h⟩ := h
                    refine WL.op (op := .call { callee := (.value (.func 38)), args := #[(.tmp 128)], argTypes := #[52] }) (ty := 3) (d := some 129) (g := some (35, true)) (by kernel_rfl) (by kernel_rfl) (by kernel_rfl) (Does.call (Φ := fun v' G' Γ' => v' = .int .i64 t177 ∧ G = G' ∧ CR168 :: [(b163, .cells #[.slice AR5 t3.length cR5, .slice AR8 t6.length cR8] 52 (0, 0))] :: CR27 :: CR17 :: CR11 :: CR8 :: CR5 :: Γ = Γ') (f := 38) (args := [.slice AR17 t15.length cR17]) (by kernel_rfl) (fun W hI => Calls.lend (i := 3) rfl (Ow.nodup HR17) hI (fun _ e l179 hI => by subst e; exact (vector_Sum_calls k t15 AR17 cR17 (HR17.rd l179) t177 ht178 hI)))) ?_
                    rintro _ _ _ ⟨rfl, rfl, rfl⟩
                    refine WL.pure 38 39 [127, 129, 130] (L' := [(127, .bool true), (129, .int .i64 t177), (130, .slice AR5 t3.length cR5)]) (by kernel_rfl) (by decide) ?_
                    rw [Option.bind_eq_some_iff] at h
                    obtain ⟨t180, ht181, h⟩ := h
                    refine WL.op (op := .call { callee := (.value (.func 38)), args := #[(.tmp 130)], argTypes := #[52] }) (ty := 3) (d := some 131) (g := some (35, true)) (by kernel_rfl) (by kernel_rfl) (by kernel_rfl) (Does.call (Φ := fun v' G' Γ' => v' = .int .i64 t180 ∧ G = G' ∧ CR168 :: [(b163, .cells #[.slice AR5 t3.length cR5, .slice AR8 t6.length cR8] 52 (0, 0))] :: CR27 :: CR17 :: CR11 :: CR8 :: CR5 :: Γ = Γ') (f := 38) (args := [.slice AR5 t3.length cR5]) (by kernel_rfl) (fun W hI => Calls.lend (i := 6) rfl (Ow.nodup HR5) hI (fun _ e l182 hI => by subst e; exact (vector_Sum_calls k t3 AR5 cR5 (HR5.rd l182) t180 ht181 hI)))) ?_
                    rintro _ _ _ ⟨rfl, rfl, rfl⟩
                    refine WL.pure 40 43 [134] (L' := [(134, .bool (decide (t177 ≥ t180)))]) (by kernel_rfl) (by decide) ?_
                    refine WL.split 134 (b := decide (t177 ≥ t180)) (by kernel_rfl) (fun hc => ?_) (fun hc => ?_)
                    · replace hc := of_decide_eq_true hc
                      rw [if_pos hc] at h
                      have hc183 := hc
                      clear hc
                      rw [Option.bind_eq_some_iff] at h
                      obtain ⟨t184, ht185, h⟩ := h
                      refine WL.op (op := .call { callee := (.value (.func 39)), args := #[], argTypes := #[] }) (ty := 4) (d := some 135) (g := some (42, true)) (by kernel_rfl) (by kernel_rfl) (by kernel_rfl) (Does.call (f := 39) (args := []) (by kernel_rfl) (fun W hI => (grapevinelaw3_awake_calls k   t184 ht185 hI))) ?_
                      rintro _ _ _ ⟨rfl, rfl, rfl⟩
                      refine WL.rest 44 [8] (L' := [(8, .bool t184)]) (by kernel_rfl) ?_
                      refine QP.dropAt 1 ?_
                      refine QP.dropAt 0 ?_
                      refine QP.pick [8] ?_
                      exact QP.meet ⟨_, Option.some.inj h, rfl, rfl, rfl⟩
                    · replace hc := of_decide_eq_false hc
                      rw [if_neg hc] at h
                      have hc183 := hc
                      clear hc
                      refine WL.rest 43 [8] (L' := [(8, .bool false)]) (by kernel_rfl) ?_
                      refine QP.dropAt 1 ?_
                      refine QP.dropAt 0 ?_
                      refine QP.pick [8] ?_
                      exact QP.meet ⟨_, Option.some.inj h, rfl, rfl, rfl⟩
                  · replace hc := (Bool.eq_false_iff.1 hc)
                    rw [if_neg hc] at h
                    have hc176 := hc
                    clear hc
                    refine WL.rest 36 [8] (L' := [(8, .bool false)]) (by kernel_rfl) ?_
                    refine QP.dropAt 1 ?_
                    refine QP.dropAt 0 ?_
                    refine QP.pick [8] ?_
                    exact QP.meet ⟨_, Option.some.inj h, rfl, rfl, rfl⟩
                · replace hc := (Bool.eq_false_iff.1 hc)
                  rw [if_neg hc] at h
                  have hc158 := hc
                  clear hc
                  refine WL.rest 24 [8] (L' := [(8, .bool false)]) (by kernel_rfl) ?_
                  refine QP.pick [8] ?_
                  exact QP.meet ⟨_, Option.some.inj h, rfl, rfl, rfl⟩
              · replace hc := (Bool.eq_false_iff.1 hc)
                rw [if_neg hc] at h
                have hc154 := hc
                clear hc
                refine WL.rest 19 [8] (L' := [(8, .bool false)]) (by kernel_rfl) ?_
                refine QP.pick [8] ?_
                exact QP.meet ⟨_, Option.some.inj h, rfl, rfl, rfl⟩
            · replace hc := (Bool.eq_false_iff.1 hc)
              rw [if_neg hc] at h
              have hc149 := hc
              clear hc
              refine WL.rest 14 [8] (L' := [(8, .bool false)]) (by kernel_rfl) ?_
              refine QP.pick [8] ?_
              exact QP.meet ⟨_, Option.some.inj h, rfl, rfl, rfl⟩
          · replace hc := (Bool.eq_false_iff.1 hc)
            rw [if_neg hc] at h
            have hc144 := hc
            clear hc
            refine WL.rest 9 [8] (L' := [(8, .bool false)]) (by kernel_rfl) ?_
            refine QP.pick [8] ?_
            exact QP.meet ⟨_, Option.some.inj h, rfl, rfl, rfl⟩
        · replace hc := (Bool.eq_false_iff.1 hc)
          rw [if_neg hc] at h
          have hc139 := hc
          clear hc
          refine WL.rest 4 [8] (L' := [(8, .bool false)]) (by kernel_rfl) ?_
          refine QP.pick [8] ?_
          exact QP.meet ⟨_, Option.some.inj h, rfl, rfl, rfl⟩
      · rintro _ _ _ ⟨s133, rfl, rfl, rfl, rfl⟩
        clear h
        replace h := hk134
        refine WP.ret ?_
        obtain rfl := Option.some.inj h
        refine QP.dropAt 4 ?_
        refine QP.dropAt 3 ?_
        refine QP.dropAt 2 ?_
        refine QP.dropAt 1 ?_
        refine QP.dropAt 0 ?_
        exact QP.returned [8] [.bool s133] _ (by kernel_rfl) (by kernel_rfl) (by kernel_rfl) (fun W hI => ⟨_, _, _, rfl, ⟨rfl, rfl, rfl⟩, hI⟩)
/-- The plain law. -/
def VectorLattice_Pure : Prop := ∀ (l0 : List Int) (l1 : List Int) (l2 : List Int) (a3 : Int), (l0.length ≤ maxLen ∧ ∀ z0 ∈ l0, (Lit.int .i64 z0).wf = true) → (l1.length ≤ maxLen ∧ ∀ z0 ∈ l1, (Lit.int .i64 z0).wf = true) → (l2.length ≤ maxLen ∧ ∀ z0 ∈ l2, (Lit.int .i64 z0).wf = true) → (Lit.int .i64 a3).wf = true → ∃ k, grapevinelaw3_VectorLattice k l0 l1 l2 a3 = some true
end Go.Proofs.Ytmphcmgbognmnaa.Gf
