/- Walks of Go functions: what each tells, as a plain Lean function, and that the Go code comes to it. Written by gg.py of this repo. -/
import Derived.Test.YtjmhhmljldjmjaaDoorT
import Derived.Test.YtjmhhmljldjmjaaDoorF0
import Derived.Test.YtjmhhmljldjmjaaDoorF1
import Derived.Test.YtjmhhmljldjmjaaDoorF3
import Derived.Test.YtjmhhmljldjmjaaDoorF5
namespace Go.Proofs.YtjmhhmljldjmjaaDoor.Gf
open Go Go.Gg
set_option maxRecDepth 100000
set_option linter.unusedVariables false
set_option linter.unusedSimpArgs false

/-! ### grapevine/grapevinelaw4.RecordTells: function 8 -/
def grapevinelaw4_RecordTells (k : Nat) (a0 : T27) (a1 : T27) (l2 : List T27) : Option Bool := (((grapevinelaw0_GreatRecords k ([a0, a1] : List T27) 2).bind fun t8 => (if t8 = true then some true else ((grapevinelaw0_GreatRecords k l2 30).bind fun t14 => some t14))).bind fun s3 => (if s3 = true then ((grapevinelaw4_awake k ).bind fun t19 => some t19) else (if l2.length + 3 ≤ 1073741824 then ((record_Sort k l2).bind fun t32 => (((grapevineref4_Sort k l2).bind fun t38 => ((grapevinelaw0_SameRecords k t32 t38).bind fun t42 => (if t42 = true then ((grapevinelaw0_KeptRecords k l2 l2).bind fun t49 => (if t49 = true then ((record_May a0).bind fun t54 => ((grapevineref4_May a0).bind fun t58 => (if (t54 == t58) = true then ((record_Same a0 a1).bind fun t63 => ((grapevineref4_Same a0 a1).bind fun t67 => (if (t63 == t67) = true then ((record_Less a0 a1).bind fun t72 => ((grapevineref4_Less a0 a1).bind fun t76 => (if (t72 == t76) = true then ((record_Before (⟨a0.f0, a0.f1⟩ : T23) (⟨a1.f0, a1.f1⟩ : T23)).bind fun t81 => ((grapevineref4_Before (⟨a0.f0, a0.f1⟩ : T23) (⟨a1.f0, a1.f1⟩ : T23)).bind fun t85 => some (t81 == t85))) else some false))) else some false))) else some false))) else some false)) else some false))).bind fun s36 => ((grapevinelaw0_OverRecords k t32).bind fun t89 => ((if s36 = true then ((grapevinelaw0_KeptRecords k l2 l2).bind fun t96 => (if t96 = true then ((grapevinelaw4_awake k ).bind fun t101 => some t101) else some false)) else some false).bind fun s93 => some s93)))) else none)))
set_option maxHeartbeats 4000000 in
theorem grapevinelaw4_RecordTells_calls {B : World} {G : GMap} {Γ : List Chunk} {W : World} (HT : Tabs B G) (k : Nat) (a0 : T27) (a1 : T27) (l2 : List T27) (Al2 : Option Addr) (cl2 : Nat) (Hl2 : Rd k27 G Al2 cl2 l2) (r : Bool) (h : grapevinelaw4_RecordTells k a0 a1 l2 = some r) (hI : Inv B G (Γ) W) :
    Calls Tryd.prog 8 [.agg #[.int .i64 a0.f0, .int .i64 a0.f1, .int .i64 a0.f2, .int .i64 a0.f3, .string a0.f4], .agg #[.int .i64 a1.f0, .int .i64 a1.f1, .int .i64 a1.f2, .int .i64 a1.f3, .string a1.f4], .slice Al2 l2.length cl2].toArray W (Ret B (fun v G' Γ' => v = .bool r ∧ G = G' ∧ Γ = Γ')) := by
  refine calls_WP (Γ := Γ) (G := G) (B := B) Tryd.func8 rfl (by kernel_rfl) ?_ hI
  clear hI
  unfold grapevinelaw4_RecordTells at h
  refine WP.seqR ?_
  refine WL.op (op := .box 27 (.tmp 0)) (ty := 0) (d := some 3) (g := none) (by kernel_rfl) (by kernel_rfl) (by kernel_rfl) (Does.new (o := .cells #[.int .i64 a0.f0, .int .i64 a0.f1, .int .i64 a0.f2, .int .i64 a0.f3, .string a0.f4] 27 (0, 0)) (v := fun r => .pointer (some ⟨r, 0, none⟩)) (fun r => by kernel_rfl)) ?_
  rintro _ _ _ ⟨b1, rfl, rfl, rfl⟩
  refine WL.op (op := .box 27 (.tmp 1)) (ty := 0) (d := some 4) (g := none) (by kernel_rfl) (by kernel_rfl) (by kernel_rfl) (Does.new (o := .cells #[.int .i64 a1.f0, .int .i64 a1.f1, .int .i64 a1.f2, .int .i64 a1.f3, .string a1.f4] 27 (0, 0)) (v := fun r => .pointer (some ⟨r, 0, none⟩)) (fun r => by kernel_rfl)) ?_
  rintro _ _ _ ⟨b2, rfl, rfl, rfl⟩
  refine WL.restQ 2 [2, 3, 4] (L' := [(2, .slice Al2 l2.length cl2), (3, .pointer (some ⟨b1, 0, none⟩)), (4, .pointer (some ⟨b2, 0, none⟩))]) (by kernel_rfl) ?_
  refine WP.seq ?_
  rw [Option.bind_eq_some_iff] at h
  obtain ⟨os3, h, hk4⟩ := h
  refine WP.cut (fun L' G' Γ' => ∃ s3 : Bool, s3 = os3 ∧ L' = [(2, .slice Al2 l2.length cl2), (3, .pointer (some ⟨b1, 0, none⟩)), (4, .pointer (some ⟨b2, 0, none⟩)), (17, .bool s3)] ∧ G = G' ∧ [(b2, .cells #[.int .i64 a1.f0, .int .i64 a1.f1, .int .i64 a1.f2, .int .i64 a1.f3, .string a1.f4] 27 (0, 0))] :: [(b1, .cells #[.int .i64 a0.f0, .int .i64 a0.f1, .int .i64 a0.f2, .int .i64 a0.f3, .string a0.f4] 27 (0, 0))] :: Γ = Γ') ?_ ?_
  · clear hk4
    refine WP.region ?_
    refine WL.tell (op := .load 27 (.tmp 3)) (ty := 27) (d := some 10) (g := none) (by kernel_rfl) (by kernel_rfl) (by kernel_rfl) (Tells.load_box (i := 1) (b := b1) (o := 0) (agg := true) (by rfl) ag27 (by kernel_rfl) (fun h => by cases h) (Nat.le_of_ble_eq_true rfl) (v := .agg #[.int .i64 a0.f0, .int .i64 a0.f1, .int .i64 a0.f2, .int .i64 a0.f3, .string a0.f4]) (by kernel_rfl)) ?_
    refine WL.tell (op := .load 27 (.tmp 4)) (ty := 27) (d := some 11) (g := none) (by kernel_rfl) (by kernel_rfl) (by kernel_rfl) (Tells.load_box (i := 0) (b := b2) (o := 0) (agg := true) (by rfl) ag27 (by kernel_rfl) (fun h => by cases h) (Nat.le_of_ble_eq_true rfl) (v := .agg #[.int .i64 a1.f0, .int .i64 a1.f1, .int .i64 a1.f2, .int .i64 a1.f3, .string a1.f4]) (by kernel_rfl)) ?_
    refine WL.op (op := .buildSlice 46 2 #[(0, (.tmp 10)), (1, (.tmp 11))]) (ty := 46) (d := some 12) (g := none) (by kernel_rfl) (by kernel_rfl) (by kernel_rfl) (Does.new (o := .cells #[.int .i64 a0.f0, .int .i64 a0.f1, .int .i64 a0.f2, .int .i64 a0.f3, .string a0.f4, .int .i64 a1.f0, .int .i64 a1.f1, .int .i64 a1.f2, .int .i64 a1.f3, .string a1.f4] 27 (0, 0)) (v := fun r => .slice (some ⟨r, 0, none⟩) 2 2) (fun r => by kernel_rfl)) ?_
    rintro _ _ _ ⟨b5, rfl, rfl, rfl⟩
    have Ho7 : Ow k27 G (some ⟨b5, 0, none⟩) 2 ([a0, a1] : List T27) [(b5, .cells #[.int .i64 a0.f0, .int .i64 a0.f1, .int .i64 a0.f2, .int .i64 a0.f3, .string a0.f4, .int .i64 a1.f0, .int .i64 a1.f1, .int .i64 a1.f2, .int .i64 a1.f3, .string a1.f4] 27 (0, 0))] := Ow.lit (kd := k27) (G := G) (b := b5) (T := 27) (xs := ([a0, a1] : List T27)) (cs := [.int .i64 a0.f0, .int .i64 a0.f1, .int .i64 a0.f2, .int .i64 a0.f3, .string a0.f4, .int .i64 a1.f0, .int .i64 a1.f1, .int .i64 a1.f2, .int .i64 a1.f3, .string a1.f4]) (.cons (x := a0) (cs := [.int .i64 a0.f0, .int .i64 a0.f1, .int .i64 a0.f2, .int .i64 a0.f3, .string a0.f4]) (by exact rfl) (.cons (x := a1) (cs := [.int .i64 a1.f0, .int .i64 a1.f1, .int .i64 a1.f2, .int .i64 a1.f3, .string a1.f4]) (by exact rfl) .nil))
    rw [Option.bind_eq_some_iff] at h
    obtain ⟨t8, ht9, h⟩ := h
    refine WL.op (op := .call { callee := (.value (.func 26)), args := #[(.tmp 12), (.const (.int .i64 2))], argTypes := #[46, 3] }) (ty := 4) (d := some 13) (g := none) (by kernel_rfl) (by kernel_rfl) (by kernel_rfl) (Does.call (Φ := fun v' G' Γ' => v' = .bool t8 ∧ G = G' ∧ [(b5, .cells #[.int .i64 a0.f0, .int .i64 a0.f1, .int .i64 a0.f2, .int .i64 a0.f3, .string a0.f4, .int .i64 a1.f0, .int .i64 a1.f1, .int .i64 a1.f2, .int .i64 a1.f3, .string a1.f4] 27 (0, 0))] :: [(b2, .cells #[.int .i64 a1.f0, .int .i64 a1.f1, .int .i64 a1.f2, .int .i64 a1.f3, .string a1.f4] 27 (0, 0))] :: [(b1, .cells #[.int .i64 a0.f0, .int .i64 a0.f1, .int .i64 a0.f2, .int .i64 a0.f3, .string a0.f4] 27 (0, 0))] :: Γ = Γ') (f := 26) (args := [.slice (some ⟨b5, 0, none⟩) ([a0, a1] : List T27).length 2, .int .i64 2]) (by kernel_rfl) (fun W hI => (Calls.lendN (Φ := fun v' N => v' = .bool t8 ∧ N = []) (H := []) (i := 0) rfl hI (fun _ e l12 nl12 hI => by subst e; exact (((grapevinelaw0_GreatRecords_calls k ([a0, a1] : List T27) 2 (some ⟨b5, 0, none⟩) 2 (Ho7.rdN l12 nl12) t8 ht9 hI)).mono fun _ _ hr => by obtain ⟨_, _, _, rfl, hd, hI⟩ := hr; obtain ⟨rfl, rfl, rfl⟩ := hd; exact ⟨_, _, _, rfl, ⟨[], ⟨rfl, rfl⟩, rfl, rfl⟩, hI⟩))).mono fun _ _ hr => by obtain ⟨_, _, _, rfl, ⟨_, hd, rfl, rfl⟩, hI⟩ := hr; obtain ⟨rfl, rfl⟩ := hd; exact ⟨_, _, _, rfl, ⟨rfl, rfl, rfl⟩, hI⟩)) ?_
    rintro _ _ _ ⟨rfl, rfl, rfl⟩
    refine WL.pure 4 5 [2, 3, 4, 14] (L' := [(2, .slice Al2 l2.length cl2), (3, .pointer (some ⟨b1, 0, none⟩)), (4, .pointer (some ⟨b2, 0, none⟩)), (14, .bool t8)]) (by kernel_rfl) (by decide) ?_
    refine WL.split 14 (b := t8) (by kernel_rfl) (fun hc => ?_) (fun hc => ?_)
    · replace hc := hc
      rw [if_pos hc] at h
      have hc13 := hc
      clear hc
      refine WL.rest 5 [2, 3, 4, 17] (L' := [(2, .slice Al2 l2.length cl2), (3, .pointer (some ⟨b1, 0, none⟩)), (4, .pointer (some ⟨b2, 0, none⟩)), (17, .bool true)]) (by kernel_rfl) ?_
      refine QP.dropAt 0 ?_
      refine QP.pick [2, 3, 4, 17] ?_
      exact QP.meet ⟨_, Option.some.inj h, rfl, rfl, rfl⟩
    · replace hc := (Bool.eq_false_iff.1 hc)
      rw [if_neg hc] at h
      have hc13 := hc
      clear hc
      refine WL.pure 5 6 [2, 3, 4, 14, 15] (L' := [(2, .slice Al2 l2.length cl2), (3, .pointer (some ⟨b1, 0, none⟩)), (4, .pointer (some ⟨b2, 0, none⟩)), (14, .bool false), (15, .slice Al2 l2.length cl2)]) (by kernel_rfl) (by decide) ?_
      rw [Option.bind_eq_some_iff] at h
      obtain ⟨t14, ht15, h⟩ := h
      refine WL.op (op := .call { callee := (.value (.func 26)), args := #[(.tmp 15), (.const (.int .i64 30))], argTypes := #[46, 3] }) (ty := 4) (d := some 16) (g := some (4, false)) (by kernel_rfl) (by kernel_rfl) (by kernel_rfl) (Does.call (f := 26) (args := [.slice Al2 l2.length cl2, .int .i64 30]) (by kernel_rfl) (fun W hI => (grapevinelaw0_GreatRecords_calls k l2 30 Al2 cl2 Hl2 t14 ht15 hI))) ?_
      rintro _ _ _ ⟨rfl, rfl, rfl⟩
      refine WL.rest 7 [2, 3, 4, 17] (L' := [(2, .slice Al2 l2.length cl2), (3, .pointer (some ⟨b1, 0, none⟩)), (4, .pointer (some ⟨b2, 0, none⟩)), (17, .bool t14)]) (by kernel_rfl) ?_
      refine QP.dropAt 0 ?_
      refine QP.pick [2, 3, 4, 17] ?_
      exact QP.meet ⟨_, Option.some.inj h, rfl, rfl, rfl⟩
  · rintro _ _ _ ⟨s3, rfl, rfl, rfl, rfl⟩
    clear h
    replace h := hk4
    refine WP.cond (b := s3) (by kernel_rfl) (fun hc => ?_) (fun hc => ?_)
    · replace hc := hc
      rw [if_pos hc] at h
      have hc18 := hc
      clear hc
      refine WP.seqR ?_
      rw [Option.bind_eq_some_iff] at h
      obtain ⟨t19, ht20, h⟩ := h
      refine WL.op (op := .call { callee := (.value (.func 13)), args := #[], argTypes := #[] }) (ty := 4) (d := some 18) (g := none) (by kernel_rfl) (by kernel_rfl) (by kernel_rfl) (Does.call (f := 13) (args := []) (by kernel_rfl) (fun W hI => (grapevinelaw4_awake_calls HT k   t19 ht20 hI))) ?_
      rintro _ _ _ ⟨rfl, rfl, rfl⟩
      refine WL.restQ 1 [6] (L' := [(6, .bool t19)]) (by kernel_rfl) ?_
      refine WP.dropAt 1 ?_
      refine WP.dropAt 0 ?_
      refine WP.ret ?_
      refine QP.thenR ?_
      obtain rfl := Option.some.inj h
      exact QP.returned [6] [.bool t19] _ (by kernel_rfl) (by kernel_rfl) (by kernel_rfl) (fun W hI => ⟨_, _, _, rfl, ⟨rfl, rfl, rfl⟩, hI⟩)
    · replace hc := (Bool.eq_false_iff.1 hc)
      rw [if_neg hc] at h
      have hc18 := hc
      clear hc
      refine WP.skip ?_
      refine QP.next ?_
      refine WP.pick [2, 3, 4] ?_
      refine WP.seqR ?_
      refine WL.pure 0 1 [2, 3, 4, 19] (L' := [(2, .slice Al2 l2.length cl2), (3, .pointer (some ⟨b1, 0, none⟩)), (4, .pointer (some ⟨b2, 0, none⟩)), (19, .slice Al2 l2.length cl2)]) (by kernel_rfl) (by decide) ?_
      by_cases hb23 : l2.length + 3 ≤ 1073741824
      case neg => rw [if_neg hb23] at h; cases h
      rw [if_pos hb23] at h
      refine WL.op (op := .call { callee := (.value (.func 27)), args := #[(.tmp 19)], argTypes := #[46] }) (ty := 46) (d := some 20) (g := none) (by kernel_rfl) (by kernel_rfl) (by kernel_rfl) (Does.call (f := 27) (args := [.slice Al2 l2.length cl2]) (by kernel_rfl) (fun W hI => (grapevinelaw0_LendRecords_calls l2 Al2 cl2 Hl2 hb23 hI))) ?_
      rintro _ _ _ ⟨AR24, cR24, CR24, rfl, HR24, rfl, rfl⟩
      refine WL.freezeN (i := 0) rfl (fun G25 hG26 hle27 nd28 => ?_)
      have Hz29 := HR24.rdN (by rw [← hG26]; exact hle27) nd28
      rw [← hG26] at Hz29
      have Hm30 := Hl2.mono hle27
      have Hd31 := Hz29.head
      refine WL.restQ 2 [2, 3, 4, 7] (L' := [(2, .slice Al2 l2.length cl2), (3, .pointer (some ⟨b1, 0, none⟩)), (4, .pointer (some ⟨b2, 0, none⟩)), (7, .slice AR24 l2.length cR24)]) (by kernel_rfl) ?_
      refine WP.dropAt 0 ?_
      refine WP.seqR ?_
      refine WL.pure 0 1 [2, 3, 4, 7, 21] (L' := [(2, .slice Al2 l2.length cl2), (3, .pointer (some ⟨b1, 0, none⟩)), (4, .pointer (some ⟨b2, 0, none⟩)), (7, .slice AR24 l2.length cR24), (21, .slice AR24 l2.length cR24)]) (by kernel_rfl) (by decide) ?_
      rw [Option.bind_eq_some_iff] at h
      obtain ⟨t32, ht33, h⟩ := h
      refine WL.op (op := .call { callee := (.value (.func 28)), args := #[(.tmp 21)], argTypes := #[46] }) (ty := 46) (d := some 22) (g := none) (by kernel_rfl) (by kernel_rfl) (by kernel_rfl) (Does.call (f := 28) (args := [.slice AR24 l2.length cR24]) (by kernel_rfl) (fun W hI => (record_Sort_calls k l2 AR24 cR24 Hd31 t32 ht33 hI))) ?_
      rintro _ _ _ ⟨AR34, cR34, CR34, rfl, HR34, rfl, rfl⟩
      refine WL.restQ 2 [2, 3, 4, 7, 8] (L' := [(2, .slice Al2 l2.length cl2), (3, .pointer (some ⟨b1, 0, none⟩)), (4, .pointer (some ⟨b2, 0, none⟩)), (7, .slice AR24 l2.length cR24), (8, .slice AR34 t32.length cR34)]) (by kernel_rfl) ?_
      rw [Option.bind_eq_some_iff] at h
      obtain ⟨os36, h, hk37⟩ := h
      refine WP.cut (fun L' G' Γ' => ∃ s36 : Bool, s36 = os36 ∧ L' = [(2, .slice Al2 l2.length cl2), (7, .slice AR24 l2.length cR24), (8, .slice AR34 t32.length cR34), (9, .bool s36)] ∧ G25 = G' ∧ CR34 :: Γ = Γ') ?_ ?_
      · clear hk37
        skip
        refine WP.any (N := 48) (S := [⟨some 23, [8], []⟩, ⟨some 24, [2], []⟩, ⟨some 25, [24], [1]⟩, ⟨some 26, [23, 25], [0, 2]⟩, ⟨some 27, [26], [3]⟩, ⟨some 28, [7, 27], [4]⟩, ⟨some 29, [2, 27], [4]⟩, ⟨some 30, [27, 28, 29], [4, 5, 6]⟩, ⟨some 31, [27, 30], [4, 7]⟩, ⟨some 32, [31], [7, 8]⟩, ⟨some 33, [3, 32], [9]⟩, ⟨some 34, [32, 33], [9, 10]⟩, ⟨some 35, [3, 32], [9]⟩, ⟨some 36, [32, 35], [9, 11, 12]⟩, ⟨some 37, [32, 34, 36], [9, 11, 13]⟩, ⟨some 38, [32, 37], [9, 14]⟩, ⟨some 39, [38], [13, 15]⟩, ⟨some 40, [3, 39], [16]⟩, ⟨some 41, [4, 39], [16]⟩, ⟨some 42, [39, 40, 41], [16, 17, 18]⟩, ⟨some 43, [3, 39], [16]⟩, ⟨some 44, [4, 39], [16]⟩, ⟨some 45, [39, 43, 44], [16, 19, 20, 21]⟩, ⟨some 46, [39, 42, 45], [16, 19, 22]⟩, ⟨some 47, [39, 46], [16, 23]⟩, ⟨some 48, [47], [22, 24]⟩, ⟨some 49, [3, 48], [25]⟩, ⟨some 50, [4, 48], [25]⟩, ⟨some 51, [48, 49, 50], [25, 26, 27]⟩, ⟨some 52, [3, 48], [25]⟩, ⟨some 53, [4, 48], [25]⟩, ⟨some 54, [48, 52, 53], [25, 28, 29, 30]⟩, ⟨some 55, [48, 51, 54], [25, 28, 31]⟩, ⟨some 56, [48, 55], [25, 32]⟩, ⟨some 57, [56], [31, 33]⟩, ⟨some 58, [3, 57], [34]⟩, ⟨some 59, [57, 58], [34, 35]⟩, ⟨some 60, [4, 57], [34]⟩, ⟨some 61, [57, 60], [34, 37]⟩, ⟨some 62, [57, 59, 61], [34, 36, 38]⟩, ⟨some 63, [3, 57], [34]⟩, ⟨some 64, [57, 63], [34, 40]⟩, ⟨some 65, [4, 57], [34]⟩, ⟨some 66, [57, 65], [34, 42]⟩, ⟨some 67, [57, 64, 66], [34, 39, 41, 43]⟩, ⟨some 68, [57, 62, 67], [34, 39, 44]⟩, ⟨some 69, [57, 68], [34, 45]⟩, ⟨some 9, [69], [0, 1, 2, 3, 4, 5, 6, 7, 8, 9, 10, 11, 12, 13, 14, 15, 16, 17, 18, 19, 20, 21, 22, 23, 24, 25, 26, 27, 28, 29, 30, 31, 32, 33, 34, 35, 36, 37, 38, 39, 40, 41, 42, 43, 44, 45, 46]⟩]) (kw := 48) (G0 := G25) (Γ0 := CR34 :: [(b2, .cells #[.int .i64 a1.f0, .int .i64 a1.f1, .int .i64 a1.f2, .int .i64 a1.f3, .string a1.f4] 27 (0, 0))] :: [(b1, .cells #[.int .i64 a0.f0, .int .i64 a0.f1, .int .i64 a0.f2, .int .i64 a0.f3, .string a0.f4] 27 (0, 0))] :: Γ) mo (by kernel_rfl) (fun hS => ?_)
        refine WA.pure [0, 1] [2, 3, 4, 7, 8, 23, 24] (m := 46) (b' := 3) (L' := [(2, .slice Al2 l2.length cl2), (3, .pointer (some ⟨b1, 0, none⟩)), (4, .pointer (some ⟨b2, 0, none⟩)), (7, .slice AR24 l2.length cR24), (8, .slice AR34 t32.length cR34), (23, .slice AR34 t32.length cR34), (24, .slice Al2 l2.length cl2)]) (by kernel_rfl) (NoPanic.then (NoPanic.body)) Under.refl hS (by kernel_rfl) ?_
        rw [Option.bind_eq_some_iff] at h
        obtain ⟨t38, ht39, h⟩ := h
        refine WA.op (i := 2) (m := 45) (b' := 7) (by kernel_rfl) hS (by kernel_rfl) (op := .call { callee := (.value (.func 30)), args := #[(.tmp 24)], argTypes := #[46] }) (ty := 46) (d := some 25) (g := none) (by kernel_rfl) (by kernel_rfl) (by kernel_rfl) (Does.call (f := 30) (args := [.slice Al2 l2.length cl2]) (by kernel_rfl) (fun W hI => (grapevineref4_Sort_calls k l2 Al2 cl2 Hm30 t38 ht39 hI))) ?_
        rintro _ _ _ ⟨AR40, cR40, CR40, rfl, HR40, rfl, rfl⟩
        refine ⟨_, _, Under.cons (Under.refl), Under.refl, ?_⟩
        rw [Option.bind_eq_some_iff] at h
        obtain ⟨t42, ht43, h⟩ := h
        refine WA.op (i := 3) (m := 44) (b' := 15) (by kernel_rfl) hS (by kernel_rfl) (op := .call { callee := (.value (.func 29)), args := #[(.tmp 23), (.tmp 25)], argTypes := #[46, 46] }) (ty := 4) (d := some 26) (g := none) (by kernel_rfl) (by kernel_rfl) (by kernel_rfl) (Does.call (Φ := fun v' G' Γ' => v' = .bool t42 ∧ G25 = G' ∧ CR40 :: CR34 :: [(b2, .cells #[.int .i64 a1.f0, .int .i64 a1.f1, .int .i64 a1.f2, .int .i64 a1.f3, .string a1.f4] 27 (0, 0))] :: [(b1, .cells #[.int .i64 a0.f0, .int .i64 a0.f1, .int .i64 a0.f2, .int .i64 a0.f3, .string a0.f4] 27 (0, 0))] :: Γ = Γ') (f := 29) (args := [.slice AR34 t32.length cR34, .slice AR40 t38.length cR40]) (by kernel_rfl) (fun W hI => (Calls.lendN (Φ := fun v' N => v' = .bool t42 ∧ N = []) (H := []) (i := 1) rfl hI (fun _ e l46 nl46 hI => by subst e; exact Calls.lendN (Φ := fun v' N => v' = .bool t42 ∧ N = []) (H := []) (i := 0) rfl hI (fun _ e l47 nl47 hI => by subst e; exact (((grapevinelaw0_SameRecords_calls k t32 t38 AR34 cR34 ((HR34.rdN l46 nl46).mono l47) AR40 cR40 ((HR40.mono l46).rdN l47 nl47) t42 ht43 hI)).mono fun _ _ hr => by obtain ⟨_, _, _, rfl, hd, hI⟩ := hr; obtain ⟨rfl, rfl, rfl⟩ := hd; exact ⟨_, _, _, rfl, ⟨[], ⟨rfl, rfl⟩, rfl, rfl⟩, hI⟩)))).mono fun _ _ hr => by obtain ⟨_, _, _, rfl, ⟨_, hd, rfl, rfl⟩, hI⟩ := hr; obtain ⟨rfl, rfl⟩ := hd; exact ⟨_, _, _, rfl, ⟨rfl, rfl, rfl⟩, hI⟩)) ?_
        rintro _ _ _ ⟨rfl, rfl, rfl⟩
        refine ⟨_, _, Under.refl, Under.refl, ?_⟩
        refine WA.pure [4] [2, 3, 4, 7, 8, 27] (m := 43) (b' := 31) (L' := [(2, .slice Al2 l2.length cl2), (3, .pointer (some ⟨b1, 0, none⟩)), (4, .pointer (some ⟨b2, 0, none⟩)), (7, .slice AR24 l2.length cR24), (8, .slice AR34 t32.length cR34), (27, .bool t42)]) (by kernel_rfl) (NoPanic.then (NoPanic.body)) Under.refl hS (by kernel_rfl) ?_
        refine WA.split 27 (b := t42) (by kernel_rfl) (fun hc => ?_) (fun hc => ?_)
        · replace hc := hc
          rw [if_pos hc] at h
          have hc48 := hc
          clear hc
          refine WA.pure [5, 6] [2, 3, 4, 7, 8, 27, 28, 29] (m := 41) (b' := 127) (L' := [(2, .slice Al2 l2.length cl2), (3, .pointer (some ⟨b1, 0, none⟩)), (4, .pointer (some ⟨b2, 0, none⟩)), (7, .slice AR24 l2.length cR24), (8, .slice AR34 t32.length cR34), (27, .bool true), (28, .slice AR24 l2.length cR24), (29, .slice Al2 l2.length cl2)]) (by kernel_rfl) (NoPanic.then (NoPanic.body)) Under.refl hS (by kernel_rfl) ?_
          rw [Option.bind_eq_some_iff] at h
          obtain ⟨t49, ht50, h⟩ := h
          refine WA.op (i := 7) (m := 40) (b' := 255) (by kernel_rfl) hS (by kernel_rfl) (op := .call { callee := (.value (.func 31)), args := #[(.tmp 28), (.tmp 29)], argTypes := #[46, 46] }) (ty := 4) (d := some 30) (g := some (4, true)) (by kernel_rfl) (by kernel_rfl) (by kernel_rfl) (Does.call (f := 31) (args := [.slice AR24 l2.length cR24, .slice Al2 l2.length cl2]) (by kernel_rfl) (fun W hI => (grapevinelaw0_KeptRecords_calls k l2 l2 AR24 cR24 Hd31 Hz29 Al2 cl2 Hm30 t49 ht50 hI))) ?_
          rintro _ _ _ ⟨rfl, rfl, rfl⟩
          refine ⟨_, _, Under.refl, Under.refl, ?_⟩
          refine WA.pure [8, 9] [2, 3, 4, 7, 8, 32] (m := 38) (b' := 1023) (L' := [(2, .slice Al2 l2.length cl2), (3, .pointer (some ⟨b1, 0, none⟩)), (4, .pointer (some ⟨b2, 0, none⟩)), (7, .slice AR24 l2.length cR24), (8, .slice AR34 t32.length cR34), (32, .bool t49)]) (by kernel_rfl) (NoPanic.then (NoPanic.body)) Under.refl hS (by kernel_rfl) ?_
          refine WA.split 32 (b := t49) (by kernel_rfl) (fun hc => ?_) (fun hc => ?_)
          · replace hc := hc
            rw [if_pos hc] at h
            have hc53 := hc
            clear hc
            refine WA.tellD [] (i := 10) (m := 37) (b' := 2047) (by kernel_rfl) (NoPanic.then (NoPanic.body)) Under.refl hS (by kernel_rfl) (op := .load 27 (.tmp 3)) (ty := 27) (d := some 33) (g := some (9, true)) (by kernel_rfl) (by kernel_rfl) (by kernel_rfl) (Tells.load_box (i := 3) (b := b1) (o := 0) (agg := true) (by rfl) ag27 (by kernel_rfl) (fun h => by cases h) (Nat.le_of_ble_eq_true rfl) (v := .agg #[.int .i64 a0.f0, .int .i64 a0.f1, .int .i64 a0.f2, .int .i64 a0.f3, .string a0.f4]) (by kernel_rfl)) ?_
            refine WA.tellD [] (i := 12) (m := 36) (b' := 6143) (by kernel_rfl) (NoPanic.then (NoPanic.body)) Under.refl hS (by kernel_rfl) (op := .load 27 (.tmp 3)) (ty := 27) (d := some 35) (g := some (9, true)) (by kernel_rfl) (by kernel_rfl) (by kernel_rfl) (Tells.load_box (i := 3) (b := b1) (o := 0) (agg := true) (by rfl) ag27 (by kernel_rfl) (fun h => by cases h) (Nat.le_of_ble_eq_true rfl) (v := .agg #[.int .i64 a0.f0, .int .i64 a0.f1, .int .i64 a0.f2, .int .i64 a0.f3, .string a0.f4]) (by kernel_rfl)) ?_
            rw [Option.bind_eq_some_iff] at h
            obtain ⟨t54, ht55, h⟩ := h
            refine WA.op (i := 11) (m := 35) (b' := 8191) (by kernel_rfl) hS (by kernel_rfl) (op := .call { callee := (.value (.func 23)), args := #[(.tmp 33)], argTypes := #[27] }) (ty := 4) (d := some 34) (g := some (9, true)) (by kernel_rfl) (by kernel_rfl) (by kernel_rfl) (Does.call (f := 23) (args := [.agg #[.int .i64 a0.f0, .int .i64 a0.f1, .int .i64 a0.f2, .int .i64 a0.f3, .string a0.f4]]) (by kernel_rfl) (fun W hI => (record_May_calls (HT.mono hle27) a0  t54 ht55 hI))) ?_
            rintro _ _ _ ⟨rfl, rfl, rfl⟩
            refine ⟨_, _, Under.refl, Under.refl, ?_⟩
            rw [Option.bind_eq_some_iff] at h
            obtain ⟨t58, ht59, h⟩ := h
            refine WA.op (i := 13) (m := 34) (b' := 16383) (by kernel_rfl) hS (by kernel_rfl) (op := .call { callee := (.value (.func 32)), args := #[(.tmp 35)], argTypes := #[27] }) (ty := 4) (d := some 36) (g := some (9, true)) (by kernel_rfl) (by kernel_rfl) (by kernel_rfl) (Does.call (f := 32) (args := [.agg #[.int .i64 a0.f0, .int .i64 a0.f1, .int .i64 a0.f2, .int .i64 a0.f3, .string a0.f4]]) (by kernel_rfl) (fun W hI => (grapevineref4_May_calls (HT.mono hle27) a0  t58 ht59 hI))) ?_
            rintro _ _ _ ⟨rfl, rfl, rfl⟩
            refine ⟨_, _, Under.refl, Under.refl, ?_⟩
            refine WA.pure [14, 15, 16] [2, 3, 4, 7, 8, 39] (m := 31) (b' := 131071) (L' := [(2, .slice Al2 l2.length cl2), (3, .pointer (some ⟨b1, 0, none⟩)), (4, .pointer (some ⟨b2, 0, none⟩)), (7, .slice AR24 l2.length cR24), (8, .slice AR34 t32.length cR34), (39, .bool (t54 == t58))]) (by kernel_rfl) (NoPanic.then (NoPanic.body)) Under.refl hS (by kernel_rfl) ?_
            refine WA.split 39 (b := (t54 == t58)) (by kernel_rfl) (fun hc => ?_) (fun hc => ?_)
            · replace hc := hc
              rw [if_pos hc] at h
              have hc62 := hc
              clear hc
              refine WA.tellD [] (i := 17) (m := 30) (b' := 262143) (by kernel_rfl) (NoPanic.then (NoPanic.body)) Under.refl hS (by kernel_rfl) (op := .load 27 (.tmp 3)) (ty := 27) (d := some 40) (g := some (16, true)) (by kernel_rfl) (by kernel_rfl) (by kernel_rfl) (Tells.load_box (i := 3) (b := b1) (o := 0) (agg := true) (by rfl) ag27 (by kernel_rfl) (fun h => by cases h) (Nat.le_of_ble_eq_true rfl) (v := .agg #[.int .i64 a0.f0, .int .i64 a0.f1, .int .i64 a0.f2, .int .i64 a0.f3, .string a0.f4]) (by kernel_rfl)) ?_
              refine WA.tellD [] (i := 18) (m := 29) (b' := 524287) (by kernel_rfl) (NoPanic.then (NoPanic.body)) Under.refl hS (by kernel_rfl) (op := .load 27 (.tmp 4)) (ty := 27) (d := some 41) (g := some (16, true)) (by kernel_rfl) (by kernel_rfl) (by kernel_rfl) (Tells.load_box (i := 2) (b := b2) (o := 0) (agg := true) (by rfl) ag27 (by kernel_rfl) (fun h => by cases h) (Nat.le_of_ble_eq_true rfl) (v := .agg #[.int .i64 a1.f0, .int .i64 a1.f1, .int .i64 a1.f2, .int .i64 a1.f3, .string a1.f4]) (by kernel_rfl)) ?_
              refine WA.tellD [] (i := 20) (m := 28) (b' := 1572863) (by kernel_rfl) (NoPanic.then (NoPanic.body)) Under.refl hS (by kernel_rfl) (op := .load 27 (.tmp 3)) (ty := 27) (d := some 43) (g := some (16, true)) (by kernel_rfl) (by kernel_rfl) (by kernel_rfl) (Tells.load_box (i := 3) (b := b1) (o := 0) (agg := true) (by rfl) ag27 (by kernel_rfl) (fun h => by cases h) (Nat.le_of_ble_eq_true rfl) (v := .agg #[.int .i64 a0.f0, .int .i64 a0.f1, .int .i64 a0.f2, .int .i64 a0.f3, .string a0.f4]) (by kernel_rfl)) ?_
              refine WA.tellD [] (i := 21) (m := 27) (b' := 3670015) (by kernel_rfl) (NoPanic.then (NoPanic.body)) Under.refl hS (by kernel_rfl) (op := .load 27 (.tmp 4)) (ty := 27) (d := some 44) (g := some (16, true)) (by kernel_rfl) (by kernel_rfl) (by kernel_rfl) (Tells.load_box (i := 2) (b := b2) (o := 0) (agg := true) (by rfl) ag27 (by kernel_rfl) (fun h => by cases h) (Nat.le_of_ble_eq_true rfl) (v := .agg #[.int .i64 a1.f0, .int .i64 a1.f1, .int .i64 a1.f2, .int .i64 a1.f3, .string a1.f4]) (by kernel_rfl)) ?_
              rw [Option.bind_eq_some_iff] at h
              obtain ⟨t63, ht64, h⟩ := h
              refine WA.op (i := 19) (m := 26) (b' := 4194303) (by kernel_rfl) hS (by kernel_rfl) (op := .call { callee := (.value (.func 25)), args := #[(.tmp 40), (.tmp 41)], argTypes := #[27, 27] }) (ty := 4) (d := some 42) (g := some (16, true)) (by kernel_rfl) (by kernel_rfl) (by kernel_rfl) (Does.call (f := 25) (args := [.agg #[.int .i64 a0.f0, .int .i64 a0.f1, .int .i64 a0.f2, .int .i64 a0.f3, .string a0.f4], .agg #[.int .i64 a1.f0, .int .i64 a1.f1, .int .i64 a1.f2, .int .i64 a1.f3, .string a1.f4]]) (by kernel_rfl) (fun W hI => (record_Same_calls a0 a1  t63 ht64 hI))) ?_
              rintro _ _ _ ⟨rfl, rfl, rfl⟩
              refine ⟨_, _, Under.refl, Under.refl, ?_⟩
              rw [Option.bind_eq_some_iff] at h
              obtain ⟨t67, ht68, h⟩ := h
              refine WA.op (i := 22) (m := 25) (b' := 8388607) (by kernel_rfl) hS (by kernel_rfl) (op := .call { callee := (.value (.func 33)), args := #[(.tmp 43), (.tmp 44)], argTypes := #[27, 27] }) (ty := 4) (d := some 45) (g := some (16, true)) (by kernel_rfl) (by kernel_rfl) (by kernel_rfl) (Does.call (f := 33) (args := [.agg #[.int .i64 a0.f0, .int .i64 a0.f1, .int .i64 a0.f2, .int .i64 a0.f3, .string a0.f4], .agg #[.int .i64 a1.f0, .int .i64 a1.f1, .int .i64 a1.f2, .int .i64 a1.f3, .string a1.f4]]) (by kernel_rfl) (fun W hI => (grapevineref4_Same_calls a0 a1  t67 ht68 hI))) ?_
              rintro _ _ _ ⟨rfl, rfl, rfl⟩
              refine ⟨_, _, Under.refl, Under.refl, ?_⟩
              refine WA.pure [23, 24, 25] [2, 3, 4, 7, 8, 48] (m := 22) (b' := 67108863) (L' := [(2, .slice Al2 l2.length cl2), (3, .pointer (some ⟨b1, 0, none⟩)), (4, .pointer (some ⟨b2, 0, none⟩)), (7, .slice AR24 l2.length cR24), (8, .slice AR34 t32.length cR34), (48, .bool (t63 == t67))]) (by kernel_rfl) (NoPanic.then (NoPanic.body)) Under.refl hS (by kernel_rfl) ?_
              refine WA.split 48 (b := (t63 == t67)) (by kernel_rfl) (fun hc => ?_) (fun hc => ?_)
              · replace hc := hc
                rw [if_pos hc] at h
                have hc71 := hc
                clear hc
                refine WA.tellD [] (i := 26) (m := 21) (b' := 134217727) (by kernel_rfl) (NoPanic.then (NoPanic.body)) Under.refl hS (by kernel_rfl) (op := .load 27 (.tmp 3)) (ty := 27) (d := some 49) (g := some (25, true)) (by kernel_rfl) (by kernel_rfl) (by kernel_rfl) (Tells.load_box (i := 3) (b := b1) (o := 0) (agg := true) (by rfl) ag27 (by kernel_rfl) (fun h => by cases h) (Nat.le_of_ble_eq_true rfl) (v := .agg #[.int .i64 a0.f0, .int .i64 a0.f1, .int .i64 a0.f2, .int .i64 a0.f3, .string a0.f4]) (by kernel_rfl)) ?_
                refine WA.tellD [] (i := 27) (m := 20) (b' := 268435455) (by kernel_rfl) (NoPanic.then (NoPanic.body)) Under.refl hS (by kernel_rfl) (op := .load 27 (.tmp 4)) (ty := 27) (d := some 50) (g := some (25, true)) (by kernel_rfl) (by kernel_rfl) (by kernel_rfl) (Tells.load_box (i := 2) (b := b2) (o := 0) (agg := true) (by rfl) ag27 (by kernel_rfl) (fun h => by cases h) (Nat.le_of_ble_eq_true rfl) (v := .agg #[.int .i64 a1.f0, .int .i64 a1.f1, .int .i64 a1.f2, .int .i64 a1.f3, .string a1.f4]) (by kernel_rfl)) ?_
                refine WA.tellD [] (i := 29) (m := 19) (b' := 805306367) (by kernel_rfl) (NoPanic.then (NoPanic.body)) Under.refl hS (by kernel_rfl) (op := .load 27 (.tmp 3)) (ty := 27) (d := some 52) (g := some (25, true)) (by kernel_rfl) (by kernel_rfl) (by kernel_rfl) (Tells.load_box (i := 3) (b := b1) (o := 0) (agg := true) (by rfl) ag27 (by kernel_rfl) (fun h => by cases h) (Nat.le_of_ble_eq_true rfl) (v := .agg #[.int .i64 a0.f0, .int .i64 a0.f1, .int .i64 a0.f2, .int .i64 a0.f3, .string a0.f4]) (by kernel_rfl)) ?_
                refine WA.tellD [] (i := 30) (m := 18) (b' := 1879048191) (by kernel_rfl) (NoPanic.then (NoPanic.body)) Under.refl hS (by kernel_rfl) (op := .load 27 (.tmp 4)) (ty := 27) (d := some 53) (g := some (25, true)) (by kernel_rfl) (by kernel_rfl) (by kernel_rfl) (Tells.load_box (i := 2) (b := b2) (o := 0) (agg := true) (by rfl) ag27 (by kernel_rfl) (fun h => by cases h) (Nat.le_of_ble_eq_true rfl) (v := .agg #[.int .i64 a1.f0, .int .i64 a1.f1, .int .i64 a1.f2, .int .i64 a1.f3, .string a1.f4]) (by kernel_rfl)) ?_
                rw [Option.bind_eq_some_iff] at h
                obtain ⟨t72, ht73, h⟩ := h
                refine WA.op (i := 28) (m := 17) (b' := 2147483647) (by kernel_rfl) hS (by kernel_rfl) (op := .call { callee := (.value (.func 34)), args := #[(.tmp 49), (.tmp 50)], argTypes := #[27, 27] }) (ty := 4) (d := some 51) (g := some (25, true)) (by kernel_rfl) (by kernel_rfl) (by kernel_rfl) (Does.call (f := 34) (args := [.agg #[.int .i64 a0.f0, .int .i64 a0.f1, .int .i64 a0.f2, .int .i64 a0.f3, .string a0.f4], .agg #[.int .i64 a1.f0, .int .i64 a1.f1, .int .i64 a1.f2, .int .i64 a1.f3, .string a1.f4]]) (by kernel_rfl) (fun W hI => (record_Less_calls a0 a1  t72 ht73 hI))) ?_
                rintro _ _ _ ⟨rfl, rfl, rfl⟩
                refine ⟨_, _, Under.refl, Under.refl, ?_⟩
                rw [Option.bind_eq_some_iff] at h
                obtain ⟨t76, ht77, h⟩ := h
                refine WA.op (i := 31) (m := 16) (b' := 4294967295) (by kernel_rfl) hS (by kernel_rfl) (op := .call { callee := (.value (.func 35)), args := #[(.tmp 52), (.tmp 53)], argTypes := #[27, 27] }) (ty := 4) (d := some 54) (g := some (25, true)) (by kernel_rfl) (by kernel_rfl) (by kernel_rfl) (Does.call (f := 35) (args := [.agg #[.int .i64 a0.f0, .int .i64 a0.f1, .int .i64 a0.f2, .int .i64 a0.f3, .string a0.f4], .agg #[.int .i64 a1.f0, .int .i64 a1.f1, .int .i64 a1.f2, .int .i64 a1.f3, .string a1.f4]]) (by kernel_rfl) (fun W hI => (grapevineref4_Less_calls a0 a1  t76 ht77 hI))) ?_
                rintro _ _ _ ⟨rfl, rfl, rfl⟩
                refine ⟨_, _, Under.refl, Under.refl, ?_⟩
                refine WA.pure [32, 33, 34] [2, 3, 4, 7, 8, 57] (m := 13) (b' := 34359738367) (L' := [(2, .slice Al2 l2.length cl2), (3, .pointer (some ⟨b1, 0, none⟩)), (4, .pointer (some ⟨b2, 0, none⟩)), (7, .slice AR24 l2.length cR24), (8, .slice AR34 t32.length cR34), (57, .bool (t72 == t76))]) (by kernel_rfl) (NoPanic.then (NoPanic.body)) Under.refl hS (by kernel_rfl) ?_
                refine WA.split 57 (b := (t72 == t76)) (by kernel_rfl) (fun hc => ?_) (fun hc => ?_)
                · replace hc := hc
                  rw [if_pos hc] at h
                  have hc80 := hc
                  clear hc
                  refine WA.pure [35, 37, 40, 42] [2, 7, 8, 57, 58, 60, 63, 65] (m := 9) (b' := 5703716569087) (L' := [(2, .slice Al2 l2.length cl2), (7, .slice AR24 l2.length cR24), (8, .slice AR34 t32.length cR34), (57, .bool true), (58, .pointer (some ⟨b1, 0, none⟩)), (60, .pointer (some ⟨b2, 0, none⟩)), (63, .pointer (some ⟨b1, 0, none⟩)), (65, .pointer (some ⟨b2, 0, none⟩))]) (by kernel_rfl) (NoPanic.then (NoPanic.body)) Under.refl hS (by kernel_rfl) ?_
                  refine WA.tellD [] (i := 36) (m := 8) (b' := 5772436045823) (by kernel_rfl) (NoPanic.then (NoPanic.body)) Under.refl hS (by kernel_rfl) (op := .load 23 (.tmp 58)) (ty := 23) (d := some 59) (g := some (34, true)) (by kernel_rfl) (by kernel_rfl) (by kernel_rfl) (Tells.load_box (i := 3) (b := b1) (o := 0) (agg := true) (by rfl) ag23 (by kernel_rfl) (fun h => by cases h) (Nat.le_of_ble_eq_true rfl) (v := .agg #[.int .i64 a0.f0, .int .i64 a0.f1]) (by kernel_rfl)) ?_
                  refine WA.tellD [] (i := 38) (m := 7) (b' := 6047313952767) (by kernel_rfl) (NoPanic.then (NoPanic.body)) Under.refl hS (by kernel_rfl) (op := .load 23 (.tmp 60)) (ty := 23) (d := some 61) (g := some (34, true)) (by kernel_rfl) (by kernel_rfl) (by kernel_rfl) (Tells.load_box (i := 2) (b := b2) (o := 0) (agg := true) (by rfl) ag23 (by kernel_rfl) (fun h => by cases h) (Nat.le_of_ble_eq_true rfl) (v := .agg #[.int .i64 a1.f0, .int .i64 a1.f1]) (by kernel_rfl)) ?_
                  refine WA.tellD [] (i := 41) (m := 6) (b' := 8246337208319) (by kernel_rfl) (NoPanic.then (NoPanic.body)) Under.refl hS (by kernel_rfl) (op := .load 23 (.tmp 63)) (ty := 23) (d := some 64) (g := some (34, true)) (by kernel_rfl) (by kernel_rfl) (by kernel_rfl) (Tells.load_box (i := 3) (b := b1) (o := 0) (agg := true) (by rfl) ag23 (by kernel_rfl) (fun h => by cases h) (Nat.le_of_ble_eq_true rfl) (v := .agg #[.int .i64 a0.f0, .int .i64 a0.f1]) (by kernel_rfl)) ?_
                  refine WA.tellD [] (i := 43) (m := 5) (b' := 17042430230527) (by kernel_rfl) (NoPanic.then (NoPanic.body)) Under.refl hS (by kernel_rfl) (op := .load 23 (.tmp 65)) (ty := 23) (d := some 66) (g := some (34, true)) (by kernel_rfl) (by kernel_rfl) (by kernel_rfl) (Tells.load_box (i := 2) (b := b2) (o := 0) (agg := true) (by rfl) ag23 (by kernel_rfl) (fun h => by cases h) (Nat.le_of_ble_eq_true rfl) (v := .agg #[.int .i64 a1.f0, .int .i64 a1.f1]) (by kernel_rfl)) ?_
                  rw [Option.bind_eq_some_iff] at h
                  obtain ⟨t81, ht82, h⟩ := h
                  refine WA.op (i := 39) (m := 4) (b' := 17592186044415) (by kernel_rfl) hS (by kernel_rfl) (op := .call { callee := (.value (.func 36)), args := #[(.tmp 59), (.tmp 61)], argTypes := #[23, 23] }) (ty := 4) (d := some 62) (g := some (34, true)) (by kernel_rfl) (by kernel_rfl) (by kernel_rfl) (Does.call (f := 36) (args := [.agg #[.int .i64 a0.f0, .int .i64 a0.f1], .agg #[.int .i64 a1.f0, .int .i64 a1.f1]]) (by kernel_rfl) (fun W hI => (record_Before_calls (⟨a0.f0, a0.f1⟩ : T23) (⟨a1.f0, a1.f1⟩ : T23)  t81 ht82 hI))) ?_
                  rintro _ _ _ ⟨rfl, rfl, rfl⟩
                  refine ⟨_, _, Under.refl, Under.refl, ?_⟩
                  rw [Option.bind_eq_some_iff] at h
                  obtain ⟨t85, ht86, h⟩ := h
                  refine WA.op (i := 44) (m := 3) (b' := 35184372088831) (by kernel_rfl) hS (by kernel_rfl) (op := .call { callee := (.value (.func 37)), args := #[(.tmp 64), (.tmp 66)], argTypes := #[23, 23] }) (ty := 4) (d := some 67) (g := some (34, true)) (by kernel_rfl) (by kernel_rfl) (by kernel_rfl) (Does.call (f := 37) (args := [.agg #[.int .i64 a0.f0, .int .i64 a0.f1], .agg #[.int .i64 a1.f0, .int .i64 a1.f1]]) (by kernel_rfl) (fun W hI => (grapevineref4_Before_calls (⟨a0.f0, a0.f1⟩ : T23) (⟨a1.f0, a1.f1⟩ : T23)  t85 ht86 hI))) ?_
                  rintro _ _ _ ⟨rfl, rfl, rfl⟩
                  refine ⟨_, _, Under.refl, Under.refl, ?_⟩
                  refine WA.pure [45, 46, 47] [2, 7, 8, 9] (m := 0) (b' := 281474976710655) (L' := [(2, .slice Al2 l2.length cl2), (7, .slice AR24 l2.length cR24), (8, .slice AR34 t32.length cR34), (9, .bool (t81 == t85))]) (by kernel_rfl) (NoPanic.then (NoPanic.body)) Under.refl hS (by kernel_rfl) ?_
                  refine WA.done hS (by kernel_rfl) ?_
                  refine QP.pick [2, 7, 8, 9] ?_
                  refine QP.dropAt 3 ?_
                  refine QP.dropAt 2 ?_
                  refine QP.dropAt 0 ?_
                  refine QP.pick [2, 7, 8, 9] ?_
                  exact QP.meet ⟨_, Option.some.inj h, rfl, rfl, rfl⟩
                · replace hc := (Bool.eq_false_iff.1 hc)
                  rw [if_neg hc] at h
                  have hc80 := hc
                  clear hc
                  refine WA.pure [35, 36, 37, 38, 39, 40, 41, 42, 43, 44, 45, 46, 47] [2, 7, 8, 9] (m := 0) (b' := 281474976710655) (L' := [(2, .slice Al2 l2.length cl2), (7, .slice AR24 l2.length cR24), (8, .slice AR34 t32.length cR34), (9, .bool false)]) (by kernel_rfl) (NoPanic.then (NoPanic.body)) Under.refl hS (by kernel_rfl) ?_
                  refine WA.done hS (by kernel_rfl) ?_
                  refine QP.pick [2, 7, 8, 9] ?_
                  refine QP.dropAt 3 ?_
                  refine QP.dropAt 2 ?_
                  refine QP.dropAt 0 ?_
                  refine QP.pick [2, 7, 8, 9] ?_
                  exact QP.meet ⟨_, Option.some.inj h, rfl, rfl, rfl⟩
              · replace hc := (Bool.eq_false_iff.1 hc)
                rw [if_neg hc] at h
                have hc71 := hc
                clear hc
                refine WA.pure [26, 27, 28, 29, 30, 31, 32, 33, 34, 35, 36, 37, 38, 39, 40, 41, 42, 43, 44, 45, 46, 47] [2, 7, 8, 9] (m := 0) (b' := 281474976710655) (L' := [(2, .slice Al2 l2.length cl2), (7, .slice AR24 l2.length cR24), (8, .slice AR34 t32.length cR34), (9, .bool false)]) (by kernel_rfl) (NoPanic.then (NoPanic.body)) Under.refl hS (by kernel_rfl) ?_
                refine WA.done hS (by kernel_rfl) ?_
                refine QP.pick [2, 7, 8, 9] ?_
                refine QP.dropAt 3 ?_
                refine QP.dropAt 2 ?_
                refine QP.dropAt 0 ?_
                refine QP.pick [2, 7, 8, 9] ?_
                exact QP.meet ⟨_, Option.some.inj h, rfl, rfl, rfl⟩
            · replace hc := (Bool.eq_false_iff.1 hc)
              rw [if_neg hc] at h
              have hc62 := hc
              clear hc
              refine WA.pure [17, 18, 19, 20, 21, 22, 23, 24, 25, 26, 27, 28, 29, 30, 31, 32, 33, 34, 35, 36, 37, 38, 39, 40, 41, 42, 43, 44, 45, 46, 47] [2, 7, 8, 9] (m := 0) (b' := 281474976710655) (L' := [(2, .slice Al2 l2.length cl2), (7, .slice AR24 l2.length cR24), (8, .slice AR34 t32.length cR34), (9, .bool false)]) (by kernel_rfl) (NoPanic.then (NoPanic.body)) Under.refl hS (by kernel_rfl) ?_
              refine WA.done hS (by kernel_rfl) ?_
              refine QP.pick [2, 7, 8, 9] ?_
              refine QP.dropAt 3 ?_
              refine QP.dropAt 2 ?_
              refine QP.dropAt 0 ?_
              refine QP.pick [2, 7, 8, 9] ?_
              exact QP.meet ⟨_, Option.some.inj h, rfl, rfl, rfl⟩
          · replace hc := (Bool.eq_false_iff.1 hc)
            rw [if_neg hc] at h
            have hc53 := hc
            clear hc
            refine WA.pure [10, 11, 12, 13, 14, 15, 16, 17, 18, 19, 20, 21, 22, 23, 24, 25, 26, 27, 28, 29, 30, 31, 32, 33, 34, 35, 36, 37, 38, 39, 40, 41, 42, 43, 44, 45, 46, 47] [2, 7, 8, 9] (m := 0) (b' := 281474976710655) (L' := [(2, .slice Al2 l2.length cl2), (7, .slice AR24 l2.length cR24), (8, .slice AR34 t32.length cR34), (9, .bool false)]) (by kernel_rfl) (NoPanic.then (NoPanic.body)) Under.refl hS (by kernel_rfl) ?_
            refine WA.done hS (by kernel_rfl) ?_
            refine QP.pick [2, 7, 8, 9] ?_
            refine QP.dropAt 3 ?_
            refine QP.dropAt 2 ?_
            refine QP.dropAt 0 ?_
            refine QP.pick [2, 7, 8, 9] ?_
            exact QP.meet ⟨_, Option.some.inj h, rfl, rfl, rfl⟩
        · replace hc := (Bool.eq_false_iff.1 hc)
          rw [if_neg hc] at h
          have hc48 := hc
          clear hc
          refine WA.pure [5, 6, 7, 8, 9, 10, 11, 12, 13, 14, 15, 16, 17, 18, 19, 20, 21, 22, 23, 24, 25, 26, 27, 28, 29, 30, 31, 32, 33, 34, 35, 36, 37, 38, 39, 40, 41, 42, 43, 44, 45, 46, 47] [2, 7, 8, 9] (m := 0) (b' := 281474976710655) (L' := [(2, .slice Al2 l2.length cl2), (7, .slice AR24 l2.length cR24), (8, .slice AR34 t32.length cR34), (9, .bool false)]) (by kernel_rfl) (NoPanic.then (NoPanic.body)) Under.refl hS (by kernel_rfl) ?_
          refine WA.done hS (by kernel_rfl) ?_
          refine QP.pick [2, 7, 8, 9] ?_
          refine QP.dropAt 3 ?_
          refine QP.dropAt 2 ?_
          refine QP.dropAt 0 ?_
          refine QP.pick [2, 7, 8, 9] ?_
          exact QP.meet ⟨_, Option.some.inj h, rfl, rfl, rfl⟩
      · rintro _ _ _ ⟨s36, rfl, rfl, rfl, rfl⟩
        clear h
        replace h := hk37
        refine WP.seqR ?_
        refine WL.pure 0 1 [2, 7, 9, 70] (L' := [(2, .slice Al2 l2.length cl2), (7, .slice AR24 l2.length cR24), (9, .bool s36), (70, .slice AR34 t32.length cR34)]) (by kernel_rfl) (by decide) ?_
        rw [Option.bind_eq_some_iff] at h
        obtain ⟨t89, ht90, h⟩ := h
        refine WL.op (op := .call { callee := (.value (.func 38)), args := #[(.tmp 70)], argTypes := #[46] }) (ty := 0) (d := some 71) (g := none) (by kernel_rfl) (by kernel_rfl) (by kernel_rfl) (Does.call (f := 38) (args := [.slice AR34 t32.length cR34]) (by kernel_rfl) (fun W hI => (grapevinelaw0_OverRecords_calls k t32 AR34 cR34 CR34 HR34 t89 ht90 hI))) ?_
        rintro _ _ _ ⟨rfl, rfl, rfl⟩
        refine WL.restQ 2 [2, 7, 9] (L' := [(2, .slice Al2 l2.length cl2), (7, .slice AR24 l2.length cR24), (9, .bool s36)]) (by kernel_rfl) ?_
        rw [Option.bind_eq_some_iff] at h
        obtain ⟨os93, h, hk94⟩ := h
        refine WP.cut (fun L' G' Γ' => ∃ s93 : Bool, s93 = os93 ∧ L' = [(6, .bool s93)] ∧ G25 = G' ∧ Γ = Γ') ?_ ?_
        · clear hk94
          refine WP.region ?_
          refine WL.pure 0 2 [2, 7, 73] (L' := [(2, .slice Al2 l2.length cl2), (7, .slice AR24 l2.length cR24), (73, .bool s36)]) (by kernel_rfl) (by decide) ?_
          refine WL.split 73 (b := s36) (by kernel_rfl) (fun hc => ?_) (fun hc => ?_)
          · replace hc := hc
            rw [if_pos hc] at h
            have hc95 := hc
            clear hc
            refine WL.pure 2 4 [73, 74, 75] (L' := [(73, .bool true), (74, .slice AR24 l2.length cR24), (75, .slice Al2 l2.length cl2)]) (by kernel_rfl) (by decide) ?_
            rw [Option.bind_eq_some_iff] at h
            obtain ⟨t96, ht97, h⟩ := h
            refine WL.op (op := .call { callee := (.value (.func 31)), args := #[(.tmp 74), (.tmp 75)], argTypes := #[46, 46] }) (ty := 4) (d := some 76) (g := some (1, true)) (by kernel_rfl) (by kernel_rfl) (by kernel_rfl) (Does.call (f := 31) (args := [.slice AR24 l2.length cR24, .slice Al2 l2.length cl2]) (by kernel_rfl) (fun W hI => (grapevinelaw0_KeptRecords_calls k l2 l2 AR24 cR24 Hd31 Hz29 Al2 cl2 Hm30 t96 ht97 hI))) ?_
            rintro _ _ _ ⟨rfl, rfl, rfl⟩
            refine WL.pure 5 7 [78] (L' := [(78, .bool t96)]) (by kernel_rfl) (by decide) ?_
            refine WL.split 78 (b := t96) (by kernel_rfl) (fun hc => ?_) (fun hc => ?_)
            · replace hc := hc
              rw [if_pos hc] at h
              have hc100 := hc
              clear hc
              rw [Option.bind_eq_some_iff] at h
              obtain ⟨t101, ht102, h⟩ := h
              refine WL.op (op := .call { callee := (.value (.func 13)), args := #[], argTypes := #[] }) (ty := 4) (d := some 79) (g := some (6, true)) (by kernel_rfl) (by kernel_rfl) (by kernel_rfl) (Does.call (f := 13) (args := []) (by kernel_rfl) (fun W hI => (grapevinelaw4_awake_calls (HT.mono hle27) k   t101 ht102 hI))) ?_
              rintro _ _ _ ⟨rfl, rfl, rfl⟩
              refine WL.rest 8 [6] (L' := [(6, .bool t101)]) (by kernel_rfl) ?_
              refine QP.pick [6] ?_
              exact QP.meet ⟨_, Option.some.inj h, rfl, rfl, rfl⟩
            · replace hc := (Bool.eq_false_iff.1 hc)
              rw [if_neg hc] at h
              have hc100 := hc
              clear hc
              refine WL.rest 7 [6] (L' := [(6, .bool false)]) (by kernel_rfl) ?_
              refine QP.pick [6] ?_
              exact QP.meet ⟨_, Option.some.inj h, rfl, rfl, rfl⟩
          · replace hc := (Bool.eq_false_iff.1 hc)
            rw [if_neg hc] at h
            have hc95 := hc
            clear hc
            refine WL.rest 2 [6] (L' := [(6, .bool false)]) (by kernel_rfl) ?_
            refine QP.pick [6] ?_
            exact QP.meet ⟨_, Option.some.inj h, rfl, rfl, rfl⟩
        · rintro _ _ _ ⟨s93, rfl, rfl, rfl, rfl⟩
          clear h
          replace h := hk94
          refine WP.ret ?_
          obtain rfl := Option.some.inj h
          refine QP.lower hle27 ?_
          exact QP.returned [6] [.bool s93] _ (by kernel_rfl) (by kernel_rfl) (by kernel_rfl) (fun W hI => ⟨_, _, _, rfl, ⟨rfl, rfl, rfl⟩, hI⟩)
/-- The plain law. -/
def RecordTells_Pure : Prop := ∀ (a0 : T27) (a1 : T27) (l2 : List T27), ((Lit.int .i64 a0.f0).wf = true ∧ (Lit.int .i64 a0.f1).wf = true ∧ (Lit.int .i64 a0.f2).wf = true ∧ (Lit.int .i64 a0.f3).wf = true ∧ a0.f4.size ≤ maxLen) → ((Lit.int .i64 a1.f0).wf = true ∧ (Lit.int .i64 a1.f1).wf = true ∧ (Lit.int .i64 a1.f2).wf = true ∧ (Lit.int .i64 a1.f3).wf = true ∧ a1.f4.size ≤ maxLen) → (l2.length ≤ maxLen ∧ ∀ z0 ∈ l2, ((Lit.int .i64 z0.f0).wf = true ∧ (Lit.int .i64 z0.f1).wf = true ∧ (Lit.int .i64 z0.f2).wf = true ∧ (Lit.int .i64 z0.f3).wf = true ∧ z0.f4.size ≤ maxLen)) → ∃ k, grapevinelaw4_RecordTells k a0 a1 l2 = some true
end Go.Proofs.YtjmhhmljldjmjaaDoor.Gf
