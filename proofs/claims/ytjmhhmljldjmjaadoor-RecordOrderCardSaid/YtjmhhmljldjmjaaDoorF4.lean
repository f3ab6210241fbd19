/- Walks of Go functions: what each tells, as a plain Lean function, and that the Go code comes to it. Written by gg.py of this repo. -/
import Derived.Test.YtjmhhmljldjmjaaDoorT
import Derived.Test.YtjmhhmljldjmjaaDoorF0
import Derived.Test.YtjmhhmljldjmjaaDoorF1
namespace Go.Proofs.YtjmhhmljldjmjaaDoor.Gf
open Go Go.Gg
set_option maxRecDepth 100000
set_option linter.unusedVariables false
set_option linter.unusedSimpArgs false

/-! ### grapevine/grapevinelaw0.LendBytes: function 19 -/
def grapevinelaw0_LendBytes (l0 : List Int) : Option (List Int) := if l0.length + 3 ≤ 1073741824 then some (l0 ++ ([119, 119, 119] : List Int)) else none
set_option maxHeartbeats 4000000 in
theorem grapevinelaw0_LendBytes_calls {B : World} {G : GMap} {Γ : List Chunk} {W : World} (l0 : List Int) (Al0 : Option Addr) (cl0 : Nat) (Hl0 : Rd (kInt .u8) G Al0 cl0 l0) (hlen : l0.length + 3 ≤ 1073741824) (hI : Inv B G Γ W) :
    Calls Tryd.prog 19 [.slice Al0 l0.length cl0].toArray W (Ret B (fun v G' Γ' => ∃ (AR : Option Addr), ∃ (cR : Nat), ∃ (CR : Chunk), v = .slice AR l0.length cR ∧ Ow (kInt .u8) G' AR cR (l0 ++ ([119, 119, 119] : List Int)) CR ∧ G = G' ∧ CR :: Γ = Γ')) := by
  refine calls_WP (Γ := Γ) (G := G) (B := B) Tryd.func19 rfl (by kernel_rfl) ?_ hI
  clear hI
  have hw : IntKind.i64.wrap ((l0.length : Int) + 3) = (l0.length : Int) + 3 := by rw [IntKind.wrap_i64]; omega
  refine WP.seqP [0] (L' := [(0, .slice Al0 l0.length cl0)]) (by kernel_rfl) ?_
  refine WP.seqR ?_
  refine WL.pure 0 3 [0, 8] (L' := [(0, .slice Al0 l0.length cl0), (8, .int .i64 (IntKind.i64.wrap ((l0.length : Int) + 3)))]) (by kernel_rfl) (by decide) ?_
  refine WL.reput 8 (v := .int .i64 (IntKind.i64.wrap ((l0.length : Int) + 3))) (v' := .int .i64 ((l0.length : Int) + 3)) (by kernel_rfl) (by rw [hw]) ?_
  refine WL.op (op := .makeSlice 29 (.const (.int .i64 0)) (.tmp 8)) (ty := 29) (d := some 9) (g := none) (by kernel_rfl) (by kernel_rfl) (by kernel_rfl) (Does.makeRoom (kd := (kInt .u8)) (z := 0) (zv := (.int .u8 0)) (k := .i64) (k' := .i64) (c := (l0.length : Int) + 3) (by kernel_rfl) (by kernel_rfl) (by omega) sl29 (by decide) (by omega) (by kernel_rfl) (fun _ => by exact rfl)) ?_
  rintro _ _ _ ⟨rfl, b, C0, rfl, H0, rfl⟩
  refine WL.restQ 4 [0, 3] (L' := [(0, .slice Al0 l0.length cl0), (3, .slice (some ⟨b, 0, none⟩) 0 ((l0.length : Int) + 3).toNat)]) (by kernel_rfl) ?_
  have hc : ((l0.length : Int) + 3).toNat = l0.length + 3 := by omega
  generalize ((l0.length : Int) + 3).toNat = c at hc H0 ⊢
  subst hc
  replace H0 : Ow (kInt .u8) G (some ⟨b, 0, none⟩) (l0.length + 3) (List.replicate l0.length 0 ++ List.replicate 3 0) C0 := by rw [List.replicate_append_replicate]; exact H0
  refine WP.seqR ?_
  refine WL.pure 0 2 [0, 10, 11] (L' := [(0, .slice Al0 l0.length cl0), (10, .slice (some ⟨b, 0, none⟩) 0 (l0.length + 3)), (11, .slice Al0 l0.length cl0)]) (by kernel_rfl) (by decide) ?_
  refine WL.op (op := .call { callee := (.builtin .append), args := #[(.tmp 10), (.tmp 11)], argTypes := #[29, 29] }) (ty := 29) (d := some 12) (g := none) (by kernel_rfl) (by kernel_rfl) (by kernel_rfl) (Ow.appendIn (ys := l0) (v := .slice Al0 l0.length cl0) H0 (i := 0) rfl (by kernel_rfl) (by kernel_rfl) Hl0.src sl29 nt29 (by simp)) ?_
  rintro _ _ _ ⟨rfl, rfl, C1, H1, rfl⟩
  refine WL.restQ 3 [0, 3] (L' := [(0, .slice Al0 l0.length cl0), (3, .slice (some ⟨b, 0, none⟩) l0.length (l0.length + 3))]) (by kernel_rfl) ?_
  refine WP.seqR ?_
  refine WL.pure 0 6 [3, 13, 15, 18] (L' := [(3, .slice (some ⟨b, 0, none⟩) l0.length (l0.length + 3)), (13, .slice (some ⟨b, 0, none⟩) l0.length (l0.length + 3)), (15, .int .i64 (l0.length : Int)), (18, .int .i64 (IntKind.i64.wrap ((l0.length : Int) + 3)))]) (by kernel_rfl) (by decide) ?_
  refine WL.reput 18 (v := .int .i64 (IntKind.i64.wrap ((l0.length : Int) + 3))) (v' := .int .i64 ((l0.length : Int) + 3)) (by kernel_rfl) (by rw [hw]) ?_
  refine WL.tell (op := .slice 29 (.tmp 13) (some (.tmp 15)) (some (.tmp 18)) none) (ty := 29) (d := some 19) (g := none) (by kernel_rfl) (by kernel_rfl) (by kernel_rfl) (Tells.room (b := b) (m := l0.length) (c := l0.length + 3) (l := (l0.length : Int)) (h := (l0.length : Int) + 3) (by kernel_rfl) ⟨.i64, by kernel_rfl⟩ ⟨.i64, by kernel_rfl⟩ (by omega) (by omega) (by omega) sl29) ?_
  refine WL.reput 19 (v := .slice (some ⟨b, (l0.length : Int).toNat * 1, none⟩) (((l0.length : Int) + 3).toNat - (l0.length : Int).toNat) (l0.length + 3 - (l0.length : Int).toNat)) (v' := .slice (some ⟨b, l0.length * 1, none⟩) 3 3) (by kernel_rfl) (by rw [Int.toNat_natCast, show ((l0.length : Int) + 3).toNat - l0.length = 3 by omega, show l0.length + 3 - l0.length = 3 by omega]) ?_
  refine WL.restQ 7 [3, 4] (L' := [(3, .slice (some ⟨b, 0, none⟩) l0.length (l0.length + 3)), (4, .slice (some ⟨b, l0.length * 1, none⟩) 3 3)]) (by kernel_rfl) ?_
  refine WP.seq ?_
  refine WP.seqP [3, 4, 5] (L' := [(3, .slice (some ⟨b, 0, none⟩) l0.length (l0.length + 3)), (4, .slice (some ⟨b, l0.length * 1, none⟩) 3 3), (5, .int .i64 0)]) (by kernel_rfl) ?_
  refine WP.cutQ (fun L' G' Γ' => ∃ (C2 : Chunk), L' = [(3, .slice (some ⟨b, 0, none⟩) l0.length (l0.length + 3))] ∧ G = G' ∧ C2 :: Γ = Γ' ∧ Ow (kInt .u8) G (some ⟨b, 0, none⟩) (l0.length + 3) (l0 ++ ([119, 119, 119] : List Int)) C2) ?_ ?_
  · refine WP.block ?_
    refine WP.loopF (fun k L' G' Γ' => ∃ (i : Nat) (C2 : Chunk), i + k = 3 ∧ L' = [(3, .slice (some ⟨b, 0, none⟩) l0.length (l0.length + 3)), (4, .slice (some ⟨b, l0.length * 1, none⟩) 3 3), (5, .int .i64 (i : Int))] ∧ G = G' ∧ C2 :: Γ = Γ' ∧ Ow (kInt .u8) G (some ⟨b, 0, none⟩) (l0.length + 3) (l0 ++ (List.replicate i 119 ++ List.replicate (3 - i) 0)) C2) ?_ 3 ⟨0, C1, rfl, rfl, rfl, rfl, by simpa using H1⟩
    rintro k _ _ _ ⟨i, C2, hk, rfl, rfl, rfl, H2⟩
    refine WP.seq ?_
    refine WP.seqP [3, 4, 5, 21] (L' := [(3, .slice (some ⟨b, 0, none⟩) l0.length (l0.length + 3)), (4, .slice (some ⟨b, l0.length * 1, none⟩) 3 3), (5, .int .i64 (i : Int)), (21, .bool (decide ((i : Int) < 3)))]) (by kernel_rfl) ?_
    refine WP.cond (b := decide ((i : Int) < 3)) (by kernel_rfl) (fun hc => ?_) (fun hc => ?_)
    · replace hc := of_decide_eq_true hc
      refine WP.skip ?_
      refine QP.next ?_
      refine WP.pick [3, 4, 5] ?_
      refine WP.seq ?_
      refine WP.block ?_
      refine WP.region ?_
      refine WL.pure 0 2 [3, 4, 5, 24, 25] (L' := [(3, .slice (some ⟨b, 0, none⟩) l0.length (l0.length + 3)), (4, .slice (some ⟨b, l0.length * 1, none⟩) 3 3), (5, .int .i64 (i : Int)), (24, .slice (some ⟨b, l0.length * 1, none⟩) 3 3), (25, .int .i64 (i : Int))]) (by kernel_rfl) (by decide) ?_
      refine WL.tell (op := .indexAddr 29 (.tmp 24) (.tmp 25)) (ty := 0) (d := some 26) (g := none) (by kernel_rfl) (by kernel_rfl) (by kernel_rfl) (Tells.indexAddr (A := some ⟨b, l0.length * 1, none⟩) (n := 3) (c := 3) (k := .i64) (j := (i : Int)) (by kernel_rfl) (by kernel_rfl) rfl (by omega) hc sl29) ?_
      refine WL.reput 26 (v := .pointer ((some ⟨b, l0.length * 1, none⟩ : Option Addr).map (·.add ((i : Int).toNat * 1)))) (v' := .pointer ((some ⟨b, 0, none⟩ : Option Addr).map (·.add ((((l0.length + i : Nat) : Int)).toNat * 1)))) (by kernel_rfl) (by simp only [Option.map_some, add_mul, Int.toNat_natCast, Nat.add_mul, Nat.zero_add]) ?_
      refine WL.op (op := .store 5 (.tmp 26) (.const (.int .u8 119))) (ty := 0) (d := none) (g := none) (by kernel_rfl) (by kernel_rfl) (by kernel_rfl) (Ow.store H2 (i := 0) rfl (j := ((l0.length + i : Nat) : Int)) (by omega) (by simp; omega) (z := 119) (v := (.int .u8 119)) (by kernel_rfl) (by kernel_rfl) sz5 (by exact rfl)) ?_
      rintro _ _ _ ⟨rfl, rfl, C3, H3, rfl⟩
      refine WL.rest 4 [3, 4, 5] (L' := [(3, .slice (some ⟨b, 0, none⟩) l0.length (l0.length + 3)), (4, .slice (some ⟨b, l0.length * 1, none⟩) 3 3), (5, .int .i64 (i : Int))]) (by kernel_rfl) ?_
      refine QP.blockN ?_
      refine QP.next ?_
      refine WP.regionP [3, 4, 5] (L' := [(3, .slice (some ⟨b, 0, none⟩) l0.length (l0.length + 3)), (4, .slice (some ⟨b, l0.length * 1, none⟩) 3 3), (5, .int .i64 (IntKind.i64.wrap ((i : Int) + 1)))]) (by kernel_rfl) ?_
      rw [show IntKind.i64.wrap ((i : Int) + 1) = ((i + 1 : Nat) : Int) by rw [IntKind.wrap_i64]; omega]
      refine QP.meet ⟨k - 1, by omega, i + 1, C3, by omega, rfl, rfl, rfl, ?_⟩
      have e : (l0 ++ (List.replicate i 119 ++ List.replicate (3 - i) 0)).set ((l0.length + i : Nat) : Int).toNat 119 = l0 ++ (List.replicate (i + 1) 119 ++ List.replicate (3 - (i + 1)) 0) := by
        rw [show ((l0.length + i : Nat) : Int).toNat = l0.length + i by omega, List.set_append_right _ _ (by omega), show l0.length + i - l0.length = i by omega]
        obtain rfl | rfl | rfl : i = 0 ∨ i = 1 ∨ i = 2 := by omega
        all_goals rfl
      rw [← e]
      exact H3
    · replace hc := of_decide_eq_false hc
      obtain rfl : i = 3 := by omega
      refine WP.exit ?_
      refine QP.thenE ?_
      refine QP.thenE ?_
      refine QP.blockE ?_
      refine QP.pick [3] ?_
      exact QP.meet ⟨C2, rfl, rfl, rfl, H2⟩
  · rintro _ _ _ ⟨C2, rfl, rfl, rfl, H2⟩
    refine QP.next ?_
    refine WP.seqP [2] (L' := [(2, .slice (some ⟨b, 0, none⟩) l0.length (l0.length + 3))]) (by kernel_rfl) ?_
    refine WP.ret ?_
    exact QP.returned [2] [.slice (some ⟨b, 0, none⟩) l0.length (l0.length + 3)] _ (by kernel_rfl) (by kernel_rfl) (by kernel_rfl) (fun W hI => ⟨_, _, _, rfl, ⟨_, _, C2, rfl, H2, rfl, rfl⟩, hI⟩)

/-! ### grapevine/grapevineref4.Get: function 55 -/
def grapevineref4_Get_l0 (l0 : List Int) (a1 : Int) (a2 : Int) : Nat → Int → Int → Option Int
  | 0, _, _ => none
  | k + 1, y8, y9 => (if y9 < a2 then (if 0 ≤ (IntKind.i64.wrap (a1 + y9)) ∧ (IntKind.i64.wrap (a1 + y9)) < (l0.length : Int) then grapevineref4_Get_l0 l0 a1 a2 k (IntKind.i64.wrap ((IntKind.i64.wrap (y8 * 256)) + (IntKind.i64.wrap (l0.getD (IntKind.i64.wrap (a1 + y9)).toNat 0)))) (IntKind.i64.wrap (y9 + 1)) else none) else some y8)
def grapevineref4_Get (k : Nat) (l0 : List Int) (a1 : Int) (a2 : Int) : Option (Int × Bool) := ((if a1 < 0 then some true else (if a2 > (l0.length : Int) then some true else some (decide (a1 > (IntKind.i64.wrap ((l0.length : Int) - a2)))))).bind fun s1 => (if s1 = true then some (0, false) else ((grapevineref4_Get_l0 l0 a1 a2 k 0 0).bind fun s6 => some (s6, true))))
set_option maxHeartbeats 4000000 in
theorem grapevineref4_Get_calls {B : World} {G : GMap} {Γ : List Chunk} {W : World} (k : Nat) (l0 : List Int) (a1 : Int) (a2 : Int) (Al0 : Option Addr) (cl0 : Nat) (Hl0 : Rd (kInt .u8) G Al0 cl0 l0) (r : Int × Bool) (h : grapevineref4_Get k l0 a1 a2 = some r) (hI : Inv B G (Γ) W) :
    Calls Tryd.prog 55 [.slice Al0 l0.length cl0, .int .i64 a1, .int .i64 a2].toArray W (Ret B (fun v G' Γ' => v = .tuple #[.int .i64 r.1, .bool r.2] ∧ G = G' ∧ Γ = Γ')) := by
  refine calls_WP (Γ := Γ) (G := G) (B := B) Tryd.func55 rfl (by kernel_rfl) ?_ hI
  clear hI
  unfold grapevineref4_Get at h
  refine WP.seqP [0, 1, 2] (L' := [(0, .slice Al0 l0.length cl0), (1, .int .i64 a1), (2, .int .i64 a2)]) (by kernel_rfl) ?_
  refine WP.seq ?_
  rw [Option.bind_eq_some_iff] at h
  obtain ⟨os1, h, hk2⟩ := h
  refine WP.cut (fun L' G' Γ' => ∃ s1 : Bool, s1 = os1 ∧ L' = [(0, .slice Al0 l0.length cl0), (1, .int .i64 a1), (2, .int .i64 a2), (25, .bool s1)] ∧ G = G' ∧ Γ = Γ') ?_ ?_
  · clear hk2
    refine WP.region ?_
    refine WL.pure 0 3 [0, 1, 2, 12] (L' := [(0, .slice Al0 l0.length cl0), (1, .int .i64 a1), (2, .int .i64 a2), (12, .bool (decide (a1 < 0)))]) (by kernel_rfl) (by decide) ?_
    refine WL.split 12 (b := decide (a1 < 0)) (by kernel_rfl) (fun hc => ?_) (fun hc => ?_)
    · replace hc := of_decide_eq_true hc
      rw [if_pos hc] at h
      have hc3 := hc
      clear hc
      refine WL.rest 3 [0, 1, 2, 25] (L' := [(0, .slice Al0 l0.length cl0), (1, .int .i64 a1), (2, .int .i64 a2), (25, .bool true)]) (by kernel_rfl) ?_
      refine QP.pick [0, 1, 2, 25] ?_
      exact QP.meet ⟨_, Option.some.inj h, rfl, rfl, rfl⟩
    · replace hc := of_decide_eq_false hc
      rw [if_neg hc] at h
      have hc3 := hc
      clear hc
      refine WL.pure 3 9 [0, 1, 2, 18] (L' := [(0, .slice Al0 l0.length cl0), (1, .int .i64 a1), (2, .int .i64 a2), (18, .bool (decide (a2 > (l0.length : Int))))]) (by kernel_rfl) (by decide) ?_
      refine WL.split 18 (b := decide (a2 > (l0.length : Int))) (by kernel_rfl) (fun hc => ?_) (fun hc => ?_)
      · replace hc := of_decide_eq_true hc
        rw [if_pos hc] at h
        have hc4 := hc
        clear hc
        refine WL.rest 9 [0, 1, 2, 25] (L' := [(0, .slice Al0 l0.length cl0), (1, .int .i64 a1), (2, .int .i64 a2), (25, .bool true)]) (by kernel_rfl) ?_
        refine QP.pick [0, 1, 2, 25] ?_
        exact QP.meet ⟨_, Option.some.inj h, rfl, rfl, rfl⟩
      · replace hc := of_decide_eq_false hc
        rw [if_neg hc] at h
        have hc4 := hc
        clear hc
        refine WL.rest 9 [0, 1, 2, 25] (L' := [(0, .slice Al0 l0.length cl0), (1, .int .i64 a1), (2, .int .i64 a2), (25, .bool (decide (a1 > (IntKind.i64.wrap ((l0.length : Int) - a2)))))]) (by kernel_rfl) ?_
        refine QP.pick [0, 1, 2, 25] ?_
        exact QP.meet ⟨_, Option.some.inj h, rfl, rfl, rfl⟩
  · rintro _ _ _ ⟨s1, rfl, rfl, rfl, rfl⟩
    clear h
    replace h := hk2
    refine WP.cond (b := s1) (by kernel_rfl) (fun hc => ?_) (fun hc => ?_)
    · replace hc := hc
      rw [if_pos hc] at h
      have hc5 := hc
      clear hc
      refine WP.seqP [6, 7] (L' := [(6, .int .i64 0), (7, .bool false)]) (by kernel_rfl) ?_
      refine WP.ret ?_
      refine QP.thenR ?_
      obtain rfl := Option.some.inj h
      exact QP.returned [6, 7] [.int .i64 0, .bool false] _ (by kernel_rfl) (by kernel_rfl) (by kernel_rfl) (fun W hI => ⟨_, _, _, rfl, ⟨rfl, rfl, rfl⟩, hI⟩)
    · replace hc := (Bool.eq_false_iff.1 hc)
      rw [if_neg hc] at h
      have hc5 := hc
      clear hc
      refine WP.skip ?_
      refine QP.next ?_
      refine WP.pick [0, 1, 2] ?_
      refine WP.seqP [0, 1, 2, 8] (L' := [(0, .slice Al0 l0.length cl0), (1, .int .i64 a1), (2, .int .i64 a2), (8, .int .i64 0)]) (by kernel_rfl) ?_
      refine WP.seq ?_
      refine WP.seqP [0, 1, 2, 8, 9] (L' := [(0, .slice Al0 l0.length cl0), (1, .int .i64 a1), (2, .int .i64 a2), (8, .int .i64 0), (9, .int .i64 0)]) (by kernel_rfl) ?_
      rw [Option.bind_eq_some_iff] at h
      obtain ⟨os6, h, hk7⟩ := h
      refine WP.cutQ (fun L' G' Γ' => ∃ s6 : Int, s6 = os6 ∧ L' = [(8, .int .i64 s6)] ∧ G = G' ∧ Γ = Γ') ?_ ?_
      · clear hk7
        refine WP.block ?_
        refine WP.pick [0, 1, 2, 8, 9] ?_
        refine WP.loopF (fun kn10 L' G' Γ' => ∃ (y8 : Int), ∃ (y9 : Int), grapevineref4_Get_l0 l0 a1 a2 kn10 y8 y9 = some os6 ∧ L' = [(0, .slice Al0 l0.length cl0), (1, .int .i64 a1), (2, .int .i64 a2), (8, .int .i64 y8), (9, .int .i64 y9)] ∧ G = G' ∧ Γ = Γ') ?_ k ⟨0, 0, h, rfl, rfl, rfl⟩
        clear h
        rintro kn11 _ _ _ ⟨y8, y9, h, rfl, rfl, rfl⟩
        cases kn11 with
        | zero => exact absurd h (by simp [grapevineref4_Get_l0])
        | succ kn11 =>
          simp only [grapevineref4_Get_l0] at h
          refine WP.seq ?_
          refine WP.seqP [0, 1, 2, 8, 9, 28] (L' := [(0, .slice Al0 l0.length cl0), (1, .int .i64 a1), (2, .int .i64 a2), (8, .int .i64 y8), (9, .int .i64 y9), (28, .bool (decide (y9 < a2)))]) (by kernel_rfl) ?_
          refine WP.cond (b := decide (y9 < a2)) (by kernel_rfl) (fun hc => ?_) (fun hc => ?_)
          · replace hc := of_decide_eq_true hc
            rw [if_pos hc] at h
            have hc12 := hc
            clear hc
            refine WP.skip ?_
            refine QP.next ?_
            refine WP.pick [0, 1, 2, 8, 9] ?_
            refine WP.seq ?_
            refine WP.block ?_
            refine WP.region ?_
            refine WL.pure 0 6 [0, 1, 2, 8, 9, 32, 33, 36] (L' := [(0, .slice Al0 l0.length cl0), (1, .int .i64 a1), (2, .int .i64 a2), (8, .int .i64 y8), (9, .int .i64 y9), (32, .int .i64 (IntKind.i64.wrap (y8 * 256))), (33, .slice Al0 l0.length cl0), (36, .int .i64 (IntKind.i64.wrap (a1 + y9)))]) (by kernel_rfl) (by decide) ?_
            by_cases hb13 : 0 ≤ (IntKind.i64.wrap (a1 + y9)) ∧ (IntKind.i64.wrap (a1 + y9)) < (l0.length : Int)
            case neg => rw [if_neg hb13] at h; cases h
            rw [if_pos hb13] at h
            refine WL.tell (op := .indexAddr 29 (.tmp 33) (.tmp 36)) (ty := 0) (d := some 37) (g := none) (by kernel_rfl) (by kernel_rfl) (by kernel_rfl) (Tells.indexAddr (A := Al0) (n := l0.length) (c := cl0) (k := .i64) (j := (IntKind.i64.wrap (a1 + y9))) (by kernel_rfl) (by kernel_rfl) (Hl0.isSome hb13.1 hb13.2) hb13.1 hb13.2 sl29) ?_
            refine WL.tellE (op := .load 5 (.tmp 37)) (ty := 5) (d := some 38) (g := none) (by kernel_rfl) (by kernel_rfl) (by kernel_rfl) (Hl0.load (agg := false) hb13.1 hb13.2 0 ag5 (fun _ => rfl) (by kernel_rfl)) ?_
            rintro _ rfl
            refine WL.rest 8 [0, 1, 2, 8, 9] (L' := [(0, .slice Al0 l0.length cl0), (1, .int .i64 a1), (2, .int .i64 a2), (8, .int .i64 (IntKind.i64.wrap ((IntKind.i64.wrap (y8 * 256)) + (IntKind.i64.wrap (l0.getD (IntKind.i64.wrap (a1 + y9)).toNat 0))))), (9, .int .i64 y9)]) (by kernel_rfl) ?_
            refine QP.blockN ?_
            refine QP.next ?_
            refine WP.pick [0, 1, 2, 8, 9] ?_
            refine WP.regionP [0, 1, 2, 8, 9] (L' := [(0, .slice Al0 l0.length cl0), (1, .int .i64 a1), (2, .int .i64 a2), (8, .int .i64 (IntKind.i64.wrap ((IntKind.i64.wrap (y8 * 256)) + (IntKind.i64.wrap (l0.getD (IntKind.i64.wrap (a1 + y9)).toNat 0))))), (9, .int .i64 (IntKind.i64.wrap (y9 + 1)))]) (by kernel_rfl) ?_
            refine QP.pick [0, 1, 2, 8, 9] ?_
            exact QP.meet ⟨kn11, Nat.lt_succ_self _, (IntKind.i64.wrap ((IntKind.i64.wrap (y8 * 256)) + (IntKind.i64.wrap (l0.getD (IntKind.i64.wrap (a1 + y9)).toNat 0)))), (IntKind.i64.wrap (y9 + 1)), h, rfl, rfl, rfl⟩
          · replace hc := of_decide_eq_false hc
            rw [if_neg hc] at h
            have hc12 := hc
            clear hc
            refine WP.exit ?_
            refine QP.thenE ?_
            refine QP.thenE ?_
            refine QP.blockE ?_
            refine QP.pick [8] ?_
            exact QP.meet ⟨_, Option.some.inj h, rfl, rfl, rfl⟩
      · rintro _ _ _ ⟨s6, rfl, rfl, rfl, rfl⟩
        clear h
        replace h := hk7
        refine QP.next ?_
        refine WP.pick [8] ?_
        refine WP.seqP [6, 7] (L' := [(6, .int .i64 s6), (7, .bool true)]) (by kernel_rfl) ?_
        refine WP.ret ?_
        obtain rfl := Option.some.inj h
        exact QP.returned [6, 7] [.int .i64 s6, .bool true] _ (by kernel_rfl) (by kernel_rfl) (by kernel_rfl) (fun W hI => ⟨_, _, _, rfl, ⟨rfl, rfl, rfl⟩, hI⟩)

/-! ### grapevine/grapevineref4.Read: function 21 -/
def grapevineref4_Read (k : Nat) (l0 : List Int) (a1 : Int) : Option (T27 × Int × Bool) := ((grapevineref4_Get k l0 (IntKind.i64.wrap (a1 + 11)) 1).bind fun t2 => ((if a1 < 0 then some true else (if (!t2.2) = true then some true else some (decide (t2.1 > (IntKind.i64.wrap ((IntKind.i64.wrap ((l0.length : Int) - a1)) - 12)))))).bind fun s6 => (if s6 = true then some ((⟨0, 0, 0, 0, (⟨#[]⟩ : ByteArray)⟩ : T27), 0, false) else (if 0 ≤ (IntKind.i64.wrap (a1 + 12)) ∧ (IntKind.i64.wrap (a1 + 12)) ≤ (IntKind.i64.wrap ((IntKind.i64.wrap (a1 + 12)) + t2.1)) ∧ (IntKind.i64.wrap ((IntKind.i64.wrap (a1 + 12)) + t2.1)) ≤ (l0.length : Int) then ((grapevineref4_Get k l0 a1 1).bind fun t14 => ((grapevineref4_Get k l0 (IntKind.i64.wrap (a1 + 1)) 2).bind fun t18 => ((grapevineref4_Get k l0 (IntKind.i64.wrap (a1 + 3)) 6).bind fun t22 => ((grapevineref4_Get k l0 (IntKind.i64.wrap (a1 + 9)) 2).bind fun t26 => ((grapevineref4_May (⟨t14.1, t18.1, t22.1, t26.1, (strOfNums ((l0.take (IntKind.i64.wrap ((IntKind.i64.wrap (a1 + 12)) + t2.1)).toNat).drop (IntKind.i64.wrap (a1 + 12)).toNat))⟩ : T27)).bind fun t30 => (if (!t30) = true then some ((⟨0, 0, 0, 0, (⟨#[]⟩ : ByteArray)⟩ : T27), 0, false) else some ((⟨t14.1, t18.1, t22.1, t26.1, (strOfNums ((l0.take (IntKind.i64.wrap ((IntKind.i64.wrap (a1 + 12)) + t2.1)).toNat).drop (IntKind.i64.wrap (a1 + 12)).toNat))⟩ : T27), IntKind.i64.wrap ((IntKind.i64.wrap (a1 + 12)) + t2.1), true))))))) else none))))
set_option maxHeartbeats 4000000 in
theorem grapevineref4_Read_calls {B : World} {G : GMap} {Γ : List Chunk} {W : World} (HT : Tabs B G) (k : Nat) (l0 : List Int) (a1 : Int) (Al0 : Option Addr) (cl0 : Nat) (Hl0 : Rd (kInt .u8) G Al0 cl0 l0) (r : T27 × Int × Bool) (h : grapevineref4_Read k l0 a1 = some r) (hI : Inv B G (Γ) W) :
    Calls Tryd.prog 21 [.slice Al0 l0.length cl0, .int .i64 a1].toArray W (Ret B (fun v G' Γ' => v = .tuple #[.agg #[.int .i64 r.1.f0, .int .i64 r.1.f1, .int .i64 r.1.f2, .int .i64 r.1.f3, .string r.1.f4], .int .i64 r.2.1, .bool r.2.2] ∧ G = G' ∧ Γ = Γ')) := by
  refine calls_WP (Γ := Γ) (G := G) (B := B) Tryd.func21 rfl (by kernel_rfl) ?_ hI
  clear hI
  unfold grapevineref4_Read at h
  refine WP.seqR ?_
  refine WL.op (op := .alloc 27) (ty := 0) (d := some 4) (g := none) (by kernel_rfl) (by kernel_rfl) (by kernel_rfl) (Does.new (o := .cells #[.int .i64 0, .int .i64 0, .int .i64 0, .int .i64 0, .string (⟨#[]⟩ : ByteArray)] 27 (0, 0)) (v := fun r => .pointer (some ⟨r, 0, none⟩)) (fun r => by kernel_rfl)) ?_
  rintro _ _ _ ⟨b1, rfl, rfl, rfl⟩
  refine WL.restQ 1 [0, 1, 4] (L' := [(0, .slice Al0 l0.length cl0), (1, .int .i64 a1), (4, .pointer (some ⟨b1, 0, none⟩))]) (by kernel_rfl) ?_
  refine WP.seqR ?_
  refine WL.pure 0 3 [0, 1, 4, 11, 13] (L' := [(0, .slice Al0 l0.length cl0), (1, .int .i64 a1), (4, .pointer (some ⟨b1, 0, none⟩)), (11, .slice Al0 l0.length cl0), (13, .int .i64 (IntKind.i64.wrap (a1 + 11)))]) (by kernel_rfl) (by decide) ?_
  rw [Option.bind_eq_some_iff] at h
  obtain ⟨t2, ht3, h⟩ := h
  refine WL.op (op := .call { callee := (.value (.func 55)), args := #[(.tmp 11), (.tmp 13), (.const (.int .i64 1))], argTypes := #[29, 3, 3] }) (ty := 69) (d := some 14) (g := none) (by kernel_rfl) (by kernel_rfl) (by kernel_rfl) (Does.call (f := 55) (args := [.slice Al0 l0.length cl0, .int .i64 (IntKind.i64.wrap (a1 + 11)), .int .i64 1]) (by kernel_rfl) (fun W hI => (grapevineref4_Get_calls k l0 (IntKind.i64.wrap (a1 + 11)) 1 Al0 cl0 Hl0 t2 ht3 hI))) ?_
  rintro _ _ _ ⟨rfl, rfl, rfl⟩
  refine WL.restQ 4 [0, 1, 4, 7, 8] (L' := [(0, .slice Al0 l0.length cl0), (1, .int .i64 a1), (4, .pointer (some ⟨b1, 0, none⟩)), (7, .int .i64 t2.1), (8, .bool t2.2)]) (by kernel_rfl) ?_
  refine WP.seq ?_
  rw [Option.bind_eq_some_iff] at h
  obtain ⟨os6, h, hk7⟩ := h
  refine WP.cut (fun L' G' Γ' => ∃ s6 : Bool, s6 = os6 ∧ L' = [(0, .slice Al0 l0.length cl0), (1, .int .i64 a1), (4, .pointer (some ⟨b1, 0, none⟩)), (7, .int .i64 t2.1), (31, .bool s6)] ∧ G = G' ∧ [(b1, .cells #[.int .i64 0, .int .i64 0, .int .i64 0, .int .i64 0, .string (⟨#[]⟩ : ByteArray)] 27 (0, 0))] :: Γ = Γ') ?_ ?_
  · clear hk7
    refine WP.region ?_
    refine WL.pure 0 3 [0, 1, 4, 7, 8, 19] (L' := [(0, .slice Al0 l0.length cl0), (1, .int .i64 a1), (4, .pointer (some ⟨b1, 0, none⟩)), (7, .int .i64 t2.1), (8, .bool t2.2), (19, .bool (decide (a1 < 0)))]) (by kernel_rfl) (by decide) ?_
    refine WL.split 19 (b := decide (a1 < 0)) (by kernel_rfl) (fun hc => ?_) (fun hc => ?_)
    · replace hc := of_decide_eq_true hc
      rw [if_pos hc] at h
      have hc8 := hc
      clear hc
      refine WL.rest 3 [0, 1, 4, 7, 31] (L' := [(0, .slice Al0 l0.length cl0), (1, .int .i64 a1), (4, .pointer (some ⟨b1, 0, none⟩)), (7, .int .i64 t2.1), (31, .bool true)]) (by kernel_rfl) ?_
      refine QP.pick [0, 1, 4, 7, 31] ?_
      exact QP.meet ⟨_, Option.some.inj h, rfl, rfl, rfl⟩
    · replace hc := of_decide_eq_false hc
      rw [if_neg hc] at h
      have hc8 := hc
      clear hc
      refine WL.pure 3 7 [0, 1, 4, 7, 23] (L' := [(0, .slice Al0 l0.length cl0), (1, .int .i64 a1), (4, .pointer (some ⟨b1, 0, none⟩)), (7, .int .i64 t2.1), (23, .bool (!t2.2))]) (by kernel_rfl) (by decide) ?_
      refine WL.split 23 (b := (!t2.2)) (by kernel_rfl) (fun hc => ?_) (fun hc => ?_)
      · replace hc := hc
        rw [if_pos hc] at h
        have hc9 := hc
        clear hc
        refine WL.rest 7 [0, 1, 4, 7, 31] (L' := [(0, .slice Al0 l0.length cl0), (1, .int .i64 a1), (4, .pointer (some ⟨b1, 0, none⟩)), (7, .int .i64 t2.1), (31, .bool true)]) (by kernel_rfl) ?_
        refine QP.pick [0, 1, 4, 7, 31] ?_
        exact QP.meet ⟨_, Option.some.inj h, rfl, rfl, rfl⟩
      · replace hc := (Bool.eq_false_iff.1 hc)
        rw [if_neg hc] at h
        have hc9 := hc
        clear hc
        refine WL.rest 7 [0, 1, 4, 7, 31] (L' := [(0, .slice Al0 l0.length cl0), (1, .int .i64 a1), (4, .pointer (some ⟨b1, 0, none⟩)), (7, .int .i64 t2.1), (31, .bool (decide (t2.1 > (IntKind.i64.wrap ((IntKind.i64.wrap ((l0.length : Int) - a1)) - 12)))))]) (by kernel_rfl) ?_
        refine QP.pick [0, 1, 4, 7, 31] ?_
        exact QP.meet ⟨_, Option.some.inj h, rfl, rfl, rfl⟩
  · rintro _ _ _ ⟨s6, rfl, rfl, rfl, rfl⟩
    clear h
    replace h := hk7
    refine WP.cond (b := s6) (by kernel_rfl) (fun hc => ?_) (fun hc => ?_)
    · replace hc := hc
      rw [if_pos hc] at h
      have hc10 := hc
      clear hc
      refine WP.seqR ?_
      refine WL.pure 0 1 [4, 32] (L' := [(4, .pointer (some ⟨b1, 0, none⟩)), (32, .agg #[.int .i64 0, .int .i64 0, .int .i64 0, .int .i64 0, .string (⟨#[]⟩ : ByteArray)])]) (by kernel_rfl) (by decide) ?_
      refine WL.op (op := .store 27 (.tmp 4) (.tmp 32)) (ty := 0) (d := none) (g := none) (by kernel_rfl) (by kernel_rfl) (by kernel_rfl) (Does.store_box (i := 0) (b := b1) (o := 0) (v := .agg #[.int .i64 0, .int .i64 0, .int .i64 0, .int .i64 0, .string (⟨#[]⟩ : ByteArray)]) (by rfl) sz27 (by kernel_rfl) (by kernel_rfl) (by kernel_rfl) (Free.zero _) (Nat.le_of_ble_eq_true rfl) (cells' := #[.int .i64 0, .int .i64 0, .int .i64 0, .int .i64 0, .string (⟨#[]⟩ : ByteArray)]) (by kernel_rfl)) ?_
      rintro _ _ _ ⟨rfl, rfl, rfl⟩
      refine WL.restQ 2 [4, 5, 6] (L' := [(4, .pointer (some ⟨b1, 0, none⟩)), (5, .int .i64 0), (6, .bool false)]) (by kernel_rfl) ?_
      refine WP.ret ?_
      refine QP.thenR ?_
      obtain rfl := Option.some.inj h
      exact QP.returnedM (rs := [.cell 4 27, .tmp 5, .tmp 6]) (by kernel_rfl) (ResAll.cons (Res1.box (p := 4) (i := 0) (o := 0) (agg := true) (by rfl) ag27 (by kernel_rfl) (fun h => by cases h) (Nat.le_of_ble_eq_true rfl) (v := .agg #[.int .i64 0, .int .i64 0, .int .i64 0, .int .i64 0, .string (⟨#[]⟩ : ByteArray)]) (by kernel_rfl)) (ResAll.cons (Res1.tmp (t := 5) (v := .int .i64 0) (by kernel_rfl)) (ResAll.cons (Res1.tmp (t := 6) (v := .bool false) (by kernel_rfl)) ResAll.nil))) (by kernel_rfl) (fun W hI => ⟨_, _, _, rfl, ⟨rfl, rfl, rfl⟩, (hI.less 0 rfl)⟩)
    · replace hc := (Bool.eq_false_iff.1 hc)
      rw [if_neg hc] at h
      have hc10 := hc
      clear hc
      refine WP.skip ?_
      refine QP.next ?_
      refine WP.pick [0, 1, 4, 7] ?_
      refine WP.seqR ?_
      refine WL.pure 0 7 [0, 1, 4, 7, 33, 35, 39] (L' := [(0, .slice Al0 l0.length cl0), (1, .int .i64 a1), (4, .pointer (some ⟨b1, 0, none⟩)), (7, .int .i64 t2.1), (33, .slice Al0 l0.length cl0), (35, .int .i64 (IntKind.i64.wrap (a1 + 12))), (39, .int .i64 (IntKind.i64.wrap ((IntKind.i64.wrap (a1 + 12)) + t2.1)))]) (by kernel_rfl) (by decide) ?_
      by_cases hb11 : 0 ≤ (IntKind.i64.wrap (a1 + 12)) ∧ (IntKind.i64.wrap (a1 + 12)) ≤ (IntKind.i64.wrap ((IntKind.i64.wrap (a1 + 12)) + t2.1)) ∧ (IntKind.i64.wrap ((IntKind.i64.wrap (a1 + 12)) + t2.1)) ≤ (l0.length : Int)
      case neg => rw [if_neg hb11] at h; cases h
      rw [if_pos hb11] at h
      refine WL.tellS (op := .slice 29 (.tmp 33) (some (.tmp 35)) (some (.tmp 39)) none) (ty := 29) (d := some 40) (g := none) (by kernel_rfl) (by kernel_rfl) (by kernel_rfl) (Hl0.slice (l := (IntKind.i64.wrap (a1 + 12))) (h := (IntKind.i64.wrap ((IntKind.i64.wrap (a1 + 12)) + t2.1))) (by kernel_rfl) ⟨.i64, by kernel_rfl⟩ ⟨.i64, by kernel_rfl⟩ hb11.1 hb11.2.1 hb11.2.2 sl29) ?_
      rintro AP12 cP12 HP12
      refine WL.tell (op := .convert 29 9 (.tmp 40)) (ty := 9) (d := some 41) (g := none) (by kernel_rfl) (by kernel_rfl) (by kernel_rfl) (HP12.str (by kernel_rfl) by29 st9) ?_
      refine WL.pure 9 10 [0, 1, 4, 7, 42] (L' := [(0, .slice Al0 l0.length cl0), (1, .int .i64 a1), (4, .pointer (some ⟨b1, 0, none⟩)), (7, .int .i64 t2.1), (42, .agg #[.int .i64 0, .int .i64 0, .int .i64 0, .int .i64 0, .string (strOfNums ((l0.take (IntKind.i64.wrap ((IntKind.i64.wrap (a1 + 12)) + t2.1)).toNat).drop (IntKind.i64.wrap (a1 + 12)).toNat))])]) (by kernel_rfl) (by decide) ?_
      refine WL.op (op := .alloc 27) (ty := 0) (d := some 9) (g := none) (by kernel_rfl) (by kernel_rfl) (by kernel_rfl) (Does.new (o := .cells #[.int .i64 0, .int .i64 0, .int .i64 0, .int .i64 0, .string (⟨#[]⟩ : ByteArray)] 27 (0, 0)) (v := fun r => .pointer (some ⟨r, 0, none⟩)) (fun r => by kernel_rfl)) ?_
      rintro _ _ _ ⟨b13, rfl, rfl, rfl⟩
      refine WL.op (op := .store 27 (.tmp 9) (.tmp 42)) (ty := 0) (d := none) (g := none) (by kernel_rfl) (by kernel_rfl) (by kernel_rfl) (Does.store_box (i := 0) (b := b13) (o := 0) (v := .agg #[.int .i64 0, .int .i64 0, .int .i64 0, .int .i64 0, .string (strOfNums ((l0.take (IntKind.i64.wrap ((IntKind.i64.wrap (a1 + 12)) + t2.1)).toNat).drop (IntKind.i64.wrap (a1 + 12)).toNat))]) (by rfl) sz27 (by kernel_rfl) (by kernel_rfl) (by kernel_rfl) (Free.zero _) (Nat.le_of_ble_eq_true rfl) (cells' := #[.int .i64 0, .int .i64 0, .int .i64 0, .int .i64 0, .string (strOfNums ((l0.take (IntKind.i64.wrap ((IntKind.i64.wrap (a1 + 12)) + t2.1)).toNat).drop (IntKind.i64.wrap (a1 + 12)).toNat))]) (by kernel_rfl)) ?_
      rintro _ _ _ ⟨rfl, rfl, rfl⟩
      refine WL.restQ 12 [0, 1, 4, 7, 9] (L' := [(0, .slice Al0 l0.length cl0), (1, .int .i64 a1), (4, .pointer (some ⟨b1, 0, none⟩)), (7, .int .i64 t2.1), (9, .pointer (some ⟨b13, 0, none⟩))]) (by kernel_rfl) ?_
      refine WP.seqR ?_
      refine WL.pure 0 2 [0, 1, 4, 7, 9, 44, 45] (L' := [(0, .slice Al0 l0.length cl0), (1, .int .i64 a1), (4, .pointer (some ⟨b1, 0, none⟩)), (7, .int .i64 t2.1), (9, .pointer (some ⟨b13, 0, none⟩)), (44, .slice Al0 l0.length cl0), (45, .int .i64 a1)]) (by kernel_rfl) (by decide) ?_
      rw [Option.bind_eq_some_iff] at h
      obtain ⟨t14, ht15, h⟩ := h
      refine WL.op (op := .call { callee := (.value (.func 55)), args := #[(.tmp 44), (.tmp 45), (.const (.int .i64 1))], argTypes := #[29, 3, 3] }) (ty := 69) (d := some 46) (g := none) (by kernel_rfl) (by kernel_rfl) (by kernel_rfl) (Does.call (f := 55) (args := [.slice Al0 l0.length cl0, .int .i64 a1, .int .i64 1]) (by kernel_rfl) (fun W hI => (grapevineref4_Get_calls k l0 a1 1 Al0 cl0 Hl0 t14 ht15 hI))) ?_
      rintro _ _ _ ⟨rfl, rfl, rfl⟩
      refine WL.pure 3 8 [0, 1, 4, 7, 9, 47, 50] (L' := [(0, .slice Al0 l0.length cl0), (1, .int .i64 a1), (4, .pointer (some ⟨b1, 0, none⟩)), (7, .int .i64 t2.1), (9, .pointer (some ⟨b13, 0, none⟩)), (47, .int .i64 t14.1), (50, .pointer (some ⟨b13, 0, none⟩))]) (by kernel_rfl) (by decide) ?_
      refine WL.op (op := .store 3 (.tmp 50) (.tmp 47)) (ty := 0) (d := none) (g := none) (by kernel_rfl) (by kernel_rfl) (by kernel_rfl) (Does.store_box (i := 0) (b := b13) (o := 0) (v := .int .i64 t14.1) (by rfl) sz3 (by kernel_rfl) (by kernel_rfl) (by kernel_rfl) (Free.zero _) (Nat.le_of_ble_eq_true rfl) (cells' := #[.int .i64 t14.1, .int .i64 0, .int .i64 0, .int .i64 0, .string (strOfNums ((l0.take (IntKind.i64.wrap ((IntKind.i64.wrap (a1 + 12)) + t2.1)).toNat).drop (IntKind.i64.wrap (a1 + 12)).toNat))]) (by kernel_rfl)) ?_
      rintro _ _ _ ⟨rfl, rfl, rfl⟩
      refine WL.restQ 9 [0, 1, 4, 7, 9] (L' := [(0, .slice Al0 l0.length cl0), (1, .int .i64 a1), (4, .pointer (some ⟨b1, 0, none⟩)), (7, .int .i64 t2.1), (9, .pointer (some ⟨b13, 0, none⟩))]) (by kernel_rfl) ?_
      refine WP.seqR ?_
      refine WL.pure 0 3 [0, 1, 4, 7, 9, 52, 54] (L' := [(0, .slice Al0 l0.length cl0), (1, .int .i64 a1), (4, .pointer (some ⟨b1, 0, none⟩)), (7, .int .i64 t2.1), (9, .pointer (some ⟨b13, 0, none⟩)), (52, .slice Al0 l0.length cl0), (54, .int .i64 (IntKind.i64.wrap (a1 + 1)))]) (by kernel_rfl) (by decide) ?_
      rw [Option.bind_eq_some_iff] at h
      obtain ⟨t18, ht19, h⟩ := h
      refine WL.op (op := .call { callee := (.value (.func 55)), args := #[(.tmp 52), (.tmp 54), (.const (.int .i64 2))], argTypes := #[29, 3, 3] }) (ty := 69) (d := some 55) (g := none) (by kernel_rfl) (by kernel_rfl) (by kernel_rfl) (Does.call (f := 55) (args := [.slice Al0 l0.length cl0, .int .i64 (IntKind.i64.wrap (a1 + 1)), .int .i64 2]) (by kernel_rfl) (fun W hI => (grapevineref4_Get_calls k l0 (IntKind.i64.wrap (a1 + 1)) 2 Al0 cl0 Hl0 t18 ht19 hI))) ?_
      rintro _ _ _ ⟨rfl, rfl, rfl⟩
      refine WL.pure 4 9 [0, 1, 4, 7, 9, 56, 59] (L' := [(0, .slice Al0 l0.length cl0), (1, .int .i64 a1), (4, .pointer (some ⟨b1, 0, none⟩)), (7, .int .i64 t2.1), (9, .pointer (some ⟨b13, 0, none⟩)), (56, .int .i64 t18.1), (59, .pointer (some ⟨b13, 1, none⟩))]) (by kernel_rfl) (by decide) ?_
      refine WL.op (op := .store 3 (.tmp 59) (.tmp 56)) (ty := 0) (d := none) (g := none) (by kernel_rfl) (by kernel_rfl) (by kernel_rfl) (Does.store_box (i := 0) (b := b13) (o := 1) (v := .int .i64 t18.1) (by rfl) sz3 (by kernel_rfl) (by kernel_rfl) (by kernel_rfl) (Free.zero _) (Nat.le_of_ble_eq_true rfl) (cells' := #[.int .i64 t14.1, .int .i64 t18.1, .int .i64 0, .int .i64 0, .string (strOfNums ((l0.take (IntKind.i64.wrap ((IntKind.i64.wrap (a1 + 12)) + t2.1)).toNat).drop (IntKind.i64.wrap (a1 + 12)).toNat))]) (by kernel_rfl)) ?_
      rintro _ _ _ ⟨rfl, rfl, rfl⟩
      refine WL.restQ 10 [0, 1, 4, 7, 9] (L' := [(0, .slice Al0 l0.length cl0), (1, .int .i64 a1), (4, .pointer (some ⟨b1, 0, none⟩)), (7, .int .i64 t2.1), (9, .pointer (some ⟨b13, 0, none⟩))]) (by kernel_rfl) ?_
      refine WP.seqR ?_
      refine WL.pure 0 3 [0, 1, 4, 7, 9, 61, 63] (L' := [(0, .slice Al0 l0.length cl0), (1, .int .i64 a1), (4, .pointer (some ⟨b1, 0, none⟩)), (7, .int .i64 t2.1), (9, .pointer (some ⟨b13, 0, none⟩)), (61, .slice Al0 l0.length cl0), (63, .int .i64 (IntKind.i64.wrap (a1 + 3)))]) (by kernel_rfl) (by decide) ?_
      rw [Option.bind_eq_some_iff] at h
      obtain ⟨t22, ht23, h⟩ := h
      refine WL.op (op := .call { callee := (.value (.func 55)), args := #[(.tmp 61), (.tmp 63), (.const (.int .i64 6))], argTypes := #[29, 3, 3] }) (ty := 69) (d := some 64) (g := none) (by kernel_rfl) (by kernel_rfl) (by kernel_rfl) (Does.call (f := 55) (args := [.slice Al0 l0.length cl0, .int .i64 (IntKind.i64.wrap (a1 + 3)), .int .i64 6]) (by kernel_rfl) (fun W hI => (grapevineref4_Get_calls k l0 (IntKind.i64.wrap (a1 + 3)) 6 Al0 cl0 Hl0 t22 ht23 hI))) ?_
      rintro _ _ _ ⟨rfl, rfl, rfl⟩
      refine WL.pure 4 9 [0, 1, 4, 7, 9, 65, 68] (L' := [(0, .slice Al0 l0.length cl0), (1, .int .i64 a1), (4, .pointer (some ⟨b1, 0, none⟩)), (7, .int .i64 t2.1), (9, .pointer (some ⟨b13, 0, none⟩)), (65, .int .i64 t22.1), (68, .pointer (some ⟨b13, 2, none⟩))]) (by kernel_rfl) (by decide) ?_
      refine WL.op (op := .store 3 (.tmp 68) (.tmp 65)) (ty := 0) (d := none) (g := none) (by kernel_rfl) (by kernel_rfl) (by kernel_rfl) (Does.store_box (i := 0) (b := b13) (o := 2) (v := .int .i64 t22.1) (by rfl) sz3 (by kernel_rfl) (by kernel_rfl) (by kernel_rfl) (Free.zero _) (Nat.le_of_ble_eq_true rfl) (cells' := #[.int .i64 t14.1, .int .i64 t18.1, .int .i64 t22.1, .int .i64 0, .string (strOfNums ((l0.take (IntKind.i64.wrap ((IntKind.i64.wrap (a1 + 12)) + t2.1)).toNat).drop (IntKind.i64.wrap (a1 + 12)).toNat))]) (by kernel_rfl)) ?_
      rintro _ _ _ ⟨rfl, rfl, rfl⟩
      refine WL.restQ 10 [0, 1, 4, 7, 9] (L' := [(0, .slice Al0 l0.length cl0), (1, .int .i64 a1), (4, .pointer (some ⟨b1, 0, none⟩)), (7, .int .i64 t2.1), (9, .pointer (some ⟨b13, 0, none⟩))]) (by kernel_rfl) ?_
      refine WP.seqR ?_
      refine WL.pure 0 3 [1, 4, 7, 9, 70, 72] (L' := [(1, .int .i64 a1), (4, .pointer (some ⟨b1, 0, none⟩)), (7, .int .i64 t2.1), (9, .pointer (some ⟨b13, 0, none⟩)), (70, .slice Al0 l0.length cl0), (72, .int .i64 (IntKind.i64.wrap (a1 + 9)))]) (by kernel_rfl) (by decide) ?_
      rw [Option.bind_eq_some_iff] at h
      obtain ⟨t26, ht27, h⟩ := h
      refine WL.op (op := .call { callee := (.value (.func 55)), args := #[(.tmp 70), (.tmp 72), (.const (.int .i64 2))], argTypes := #[29, 3, 3] }) (ty := 69) (d := some 73) (g := none) (by kernel_rfl) (by kernel_rfl) (by kernel_rfl) (Does.call (f := 55) (args := [.slice Al0 l0.length cl0, .int .i64 (IntKind.i64.wrap (a1 + 9)), .int .i64 2]) (by kernel_rfl) (fun W hI => (grapevineref4_Get_calls k l0 (IntKind.i64.wrap (a1 + 9)) 2 Al0 cl0 Hl0 t26 ht27 hI))) ?_
      rintro _ _ _ ⟨rfl, rfl, rfl⟩
      refine WL.pure 4 9 [1, 4, 7, 9, 74, 77] (L' := [(1, .int .i64 a1), (4, .pointer (some ⟨b1, 0, none⟩)), (7, .int .i64 t2.1), (9, .pointer (some ⟨b13, 0, none⟩)), (74, .int .i64 t26.1), (77, .pointer (some ⟨b13, 3, none⟩))]) (by kernel_rfl) (by decide) ?_
      refine WL.op (op := .store 3 (.tmp 77) (.tmp 74)) (ty := 0) (d := none) (g := none) (by kernel_rfl) (by kernel_rfl) (by kernel_rfl) (Does.store_box (i := 0) (b := b13) (o := 3) (v := .int .i64 t26.1) (by rfl) sz3 (by kernel_rfl) (by kernel_rfl) (by kernel_rfl) (Free.zero _) (Nat.le_of_ble_eq_true rfl) (cells' := #[.int .i64 t14.1, .int .i64 t18.1, .int .i64 t22.1, .int .i64 t26.1, .string (strOfNums ((l0.take (IntKind.i64.wrap ((IntKind.i64.wrap (a1 + 12)) + t2.1)).toNat).drop (IntKind.i64.wrap (a1 + 12)).toNat))]) (by kernel_rfl)) ?_
      rintro _ _ _ ⟨rfl, rfl, rfl⟩
      refine WL.restQ 10 [1, 4, 7, 9] (L' := [(1, .int .i64 a1), (4, .pointer (some ⟨b1, 0, none⟩)), (7, .int .i64 t2.1), (9, .pointer (some ⟨b13, 0, none⟩))]) (by kernel_rfl) ?_
      refine WP.seq ?_
      refine WP.seqR ?_
      refine WL.tell (op := .load 27 (.tmp 9)) (ty := 27) (d := some 78) (g := none) (by kernel_rfl) (by kernel_rfl) (by kernel_rfl) (Tells.load_box (i := 0) (b := b13) (o := 0) (agg := true) (by rfl) ag27 (by kernel_rfl) (fun h => by cases h) (Nat.le_of_ble_eq_true rfl) (v := .agg #[.int .i64 t14.1, .int .i64 t18.1, .int .i64 t22.1, .int .i64 t26.1, .string (strOfNums ((l0.take (IntKind.i64.wrap ((IntKind.i64.wrap (a1 + 12)) + t2.1)).toNat).drop (IntKind.i64.wrap (a1 + 12)).toNat))]) (by kernel_rfl)) ?_
      rw [Option.bind_eq_some_iff] at h
      obtain ⟨t30, ht31, h⟩ := h
      refine WL.op (op := .call { callee := (.value (.func 32)), args := #[(.tmp 78)], argTypes := #[27] }) (ty := 4) (d := some 79) (g := none) (by kernel_rfl) (by kernel_rfl) (by kernel_rfl) (Does.call (f := 32) (args := [.agg #[.int .i64 t14.1, .int .i64 t18.1, .int .i64 t22.1, .int .i64 t26.1, .string (strOfNums ((l0.take (IntKind.i64.wrap ((IntKind.i64.wrap (a1 + 12)) + t2.1)).toNat).drop (IntKind.i64.wrap (a1 + 12)).toNat))]]) (by kernel_rfl) (fun W hI => (grapevineref4_May_calls HT (⟨t14.1, t18.1, t22.1, t26.1, (strOfNums ((l0.take (IntKind.i64.wrap ((IntKind.i64.wrap (a1 + 12)) + t2.1)).toNat).drop (IntKind.i64.wrap (a1 + 12)).toNat))⟩ : T27)  t30 ht31 hI))) ?_
      rintro _ _ _ ⟨rfl, rfl, rfl⟩
      refine WL.restQ 2 [1, 4, 7, 9, 80] (L' := [(1, .int .i64 a1), (4, .pointer (some ⟨b1, 0, none⟩)), (7, .int .i64 t2.1), (9, .pointer (some ⟨b13, 0, none⟩)), (80, .bool (!t30))]) (by kernel_rfl) ?_
      refine WP.cond (b := (!t30)) (by kernel_rfl) (fun hc => ?_) (fun hc => ?_)
      · replace hc := hc
        rw [if_pos hc] at h
        have hc34 := hc
        clear hc
        refine WP.seqR ?_
        refine WL.pure 0 1 [4, 81] (L' := [(4, .pointer (some ⟨b1, 0, none⟩)), (81, .agg #[.int .i64 0, .int .i64 0, .int .i64 0, .int .i64 0, .string (⟨#[]⟩ : ByteArray)])]) (by kernel_rfl) (by decide) ?_
        refine WL.op (op := .store 27 (.tmp 4) (.tmp 81)) (ty := 0) (d := none) (g := none) (by kernel_rfl) (by kernel_rfl) (by kernel_rfl) (Does.store_box (i := 1) (b := b1) (o := 0) (v := .agg #[.int .i64 0, .int .i64 0, .int .i64 0, .int .i64 0, .string (⟨#[]⟩ : ByteArray)]) (by rfl) sz27 (by kernel_rfl) (by kernel_rfl) (by kernel_rfl) (Free.zero _) (Nat.le_of_ble_eq_true rfl) (cells' := #[.int .i64 0, .int .i64 0, .int .i64 0, .int .i64 0, .string (⟨#[]⟩ : ByteArray)]) (by kernel_rfl)) ?_
        rintro _ _ _ ⟨rfl, rfl, rfl⟩
        refine WL.restQ 2 [4, 5, 6] (L' := [(4, .pointer (some ⟨b1, 0, none⟩)), (5, .int .i64 0), (6, .bool false)]) (by kernel_rfl) ?_
        refine WP.dropAt 0 ?_
        refine WP.ret ?_
        refine QP.thenR ?_
        obtain rfl := Option.some.inj h
        exact QP.returnedM (rs := [.cell 4 27, .tmp 5, .tmp 6]) (by kernel_rfl) (ResAll.cons (Res1.box (p := 4) (i := 0) (o := 0) (agg := true) (by rfl) ag27 (by kernel_rfl) (fun h => by cases h) (Nat.le_of_ble_eq_true rfl) (v := .agg #[.int .i64 0, .int .i64 0, .int .i64 0, .int .i64 0, .string (⟨#[]⟩ : ByteArray)]) (by kernel_rfl)) (ResAll.cons (Res1.tmp (t := 5) (v := .int .i64 0) (by kernel_rfl)) (ResAll.cons (Res1.tmp (t := 6) (v := .bool false) (by kernel_rfl)) ResAll.nil))) (by kernel_rfl) (fun W hI => ⟨_, _, _, rfl, ⟨rfl, rfl, rfl⟩, (hI.less 0 rfl)⟩)
      · replace hc := (Bool.eq_false_iff.1 hc)
        rw [if_neg hc] at h
        have hc34 := hc
        clear hc
        refine WP.skip ?_
        refine QP.next ?_
        refine WP.pick [1, 4, 7, 9] ?_
        refine WP.seqR ?_
        refine WL.tell (op := .load 27 (.tmp 9)) (ty := 27) (d := some 82) (g := none) (by kernel_rfl) (by kernel_rfl) (by kernel_rfl) (Tells.load_box (i := 0) (b := b13) (o := 0) (agg := true) (by rfl) ag27 (by kernel_rfl) (fun h => by cases h) (Nat.le_of_ble_eq_true rfl) (v := .agg #[.int .i64 t14.1, .int .i64 t18.1, .int .i64 t22.1, .int .i64 t26.1, .string (strOfNums ((l0.take (IntKind.i64.wrap ((IntKind.i64.wrap (a1 + 12)) + t2.1)).toNat).drop (IntKind.i64.wrap (a1 + 12)).toNat))]) (by kernel_rfl)) ?_
        refine WL.pure 1 5 [4, 82, 86] (L' := [(4, .pointer (some ⟨b1, 0, none⟩)), (82, .agg #[.int .i64 t14.1, .int .i64 t18.1, .int .i64 t22.1, .int .i64 t26.1, .string (strOfNums ((l0.take (IntKind.i64.wrap ((IntKind.i64.wrap (a1 + 12)) + t2.1)).toNat).drop (IntKind.i64.wrap (a1 + 12)).toNat))]), (86, .int .i64 (IntKind.i64.wrap ((IntKind.i64.wrap (a1 + 12)) + t2.1)))]) (by kernel_rfl) (by decide) ?_
        refine WL.op (op := .store 27 (.tmp 4) (.tmp 82)) (ty := 0) (d := none) (g := none) (by kernel_rfl) (by kernel_rfl) (by kernel_rfl) (Does.store_box (i := 1) (b := b1) (o := 0) (v := .agg #[.int .i64 t14.1, .int .i64 t18.1, .int .i64 t22.1, .int .i64 t26.1, .string (strOfNums ((l0.take (IntKind.i64.wrap ((IntKind.i64.wrap (a1 + 12)) + t2.1)).toNat).drop (IntKind.i64.wrap (a1 + 12)).toNat))]) (by rfl) sz27 (by kernel_rfl) (by kernel_rfl) (by kernel_rfl) (Free.zero _) (Nat.le_of_ble_eq_true rfl) (cells' := #[.int .i64 t14.1, .int .i64 t18.1, .int .i64 t22.1, .int .i64 t26.1, .string (strOfNums ((l0.take (IntKind.i64.wrap ((IntKind.i64.wrap (a1 + 12)) + t2.1)).toNat).drop (IntKind.i64.wrap (a1 + 12)).toNat))]) (by kernel_rfl)) ?_
        rintro _ _ _ ⟨rfl, rfl, rfl⟩
        refine WL.restQ 6 [4, 5, 6] (L' := [(4, .pointer (some ⟨b1, 0, none⟩)), (5, .int .i64 (IntKind.i64.wrap ((IntKind.i64.wrap (a1 + 12)) + t2.1))), (6, .bool true)]) (by kernel_rfl) ?_
        refine WP.dropAt 0 ?_
        refine WP.ret ?_
        obtain rfl := Option.some.inj h
        exact QP.returnedM (rs := [.cell 4 27, .tmp 5, .tmp 6]) (by kernel_rfl) (ResAll.cons (Res1.box (p := 4) (i := 0) (o := 0) (agg := true) (by rfl) ag27 (by kernel_rfl) (fun h => by cases h) (Nat.le_of_ble_eq_true rfl) (v := .agg #[.int .i64 t14.1, .int .i64 t18.1, .int .i64 t22.1, .int .i64 t26.1, .string (strOfNums ((l0.take (IntKind.i64.wrap ((IntKind.i64.wrap (a1 + 12)) + t2.1)).toNat).drop (IntKind.i64.wrap (a1 + 12)).toNat))]) (by kernel_rfl)) (ResAll.cons (Res1.tmp (t := 5) (v := .int .i64 (IntKind.i64.wrap ((IntKind.i64.wrap (a1 + 12)) + t2.1))) (by kernel_rfl)) (ResAll.cons (Res1.tmp (t := 6) (v := .bool true) (by kernel_rfl)) ResAll.nil))) (by kernel_rfl) (fun W hI => ⟨_, _, _, rfl, ⟨rfl, rfl, rfl⟩, (hI.less 0 rfl)⟩)

/-! ### grapevine/grapevinelaw0.KeptBytes: function 22 -/
def grapevinelaw0_KeptBytes_l0 (v3 : List Int) : Nat → Int → Option (Sum Bool Unit)
  | 0, _ => none
  | k + 1, y8 => (if y8 < 3 then (if 0 ≤ y8 ∧ y8 < (v3.length : Int) then (if ¬ (v3.getD y8.toNat 0) = 119 then some (Sum.inl false) else grapevinelaw0_KeptBytes_l0 v3 k (IntKind.i64.wrap (y8 + 1))) else none) else some (Sum.inr ()))
def grapevinelaw0_KeptBytes (k : Nat) (l0 : List Int) (l1 : List Int) : Option Bool := (if 0 ≤ (l0.length : Int) ∧ (l0.length : Int) ≤ (IntKind.i64.wrap ((l0.length : Int) + 3)) ∧ (IntKind.i64.wrap ((l0.length : Int) + 3)) ≤ ((l0 ++ ([119, 119, 119] : List Int)).length : Int) then ((some (((l0 ++ ([119, 119, 119] : List Int)).take (IntKind.i64.wrap ((l0.length : Int) + 3)).toNat).drop (l0.length : Int).toNat)).bind fun v3 => ((grapevinelaw0_KeptBytes_l0 v3 k 0).bind fun os6 => match os6 with | Sum.inl r => some r | Sum.inr s6 => ((grapevinelaw0_SameBytes k l0 l1).bind fun t14 => some t14))) else none)
set_option maxHeartbeats 4000000 in
theorem grapevinelaw0_KeptBytes_calls {B : World} {G : GMap} {Γ : List Chunk} {W : World} (k : Nat) (l0 : List Int) (l1 : List Int) (Al0 : Option Addr) (cl0 : Nat) (Hl0 : Rd (kInt .u8) G Al0 cl0 l0) (Hr0 : Rd (kInt .u8) G Al0 cl0 (l0 ++ ([119, 119, 119] : List Int))) (Al1 : Option Addr) (cl1 : Nat) (Hl1 : Rd (kInt .u8) G Al1 cl1 l1) (r : Bool) (h : grapevinelaw0_KeptBytes k l0 l1 = some r) (hI : Inv B G (Γ) W) :
    Calls Tryd.prog 22 [.slice Al0 l0.length cl0, .slice Al1 l1.length cl1].toArray W (Ret B (fun v G' Γ' => v = .bool r ∧ G = G' ∧ Γ = Γ')) := by
  refine calls_WP (Γ := Γ) (G := G) (B := B) Tryd.func22 rfl (by kernel_rfl) ?_ hI
  clear hI
  unfold grapevinelaw0_KeptBytes at h
  refine WP.seqP [0, 1] (L' := [(0, .slice Al0 l0.length cl0), (1, .slice Al1 l1.length cl1)]) (by kernel_rfl) ?_
  refine WP.seqR ?_
  refine WL.pure 0 6 [0, 1, 7, 9, 12] (L' := [(0, .slice Al0 l0.length cl0), (1, .slice Al1 l1.length cl1), (7, .slice Al0 l0.length cl0), (9, .int .i64 (l0.length : Int)), (12, .int .i64 (IntKind.i64.wrap ((l0.length : Int) + 3)))]) (by kernel_rfl) (by decide) ?_
  by_cases hb1 : 0 ≤ (l0.length : Int) ∧ (l0.length : Int) ≤ (IntKind.i64.wrap ((l0.length : Int) + 3)) ∧ (IntKind.i64.wrap ((l0.length : Int) + 3)) ≤ ((l0 ++ ([119, 119, 119] : List Int)).length : Int)
  case neg => rw [if_neg hb1] at h; cases h
  rw [if_pos hb1] at h
  refine WL.tellS (op := .slice 29 (.tmp 7) (some (.tmp 9)) (some (.tmp 12)) none) (ty := 29) (d := some 13) (g := none) (by kernel_rfl) (by kernel_rfl) (by kernel_rfl) (Hr0.sliceR (m := l0.length) (l := (l0.length : Int)) (h := (IntKind.i64.wrap ((l0.length : Int) + 3))) (by kernel_rfl) ⟨.i64, by kernel_rfl⟩ ⟨.i64, by kernel_rfl⟩ hb1.1 hb1.2.1 hb1.2.2 sl29) ?_
  rintro AP2 cP2 HP2
  refine WL.restQ 7 [0, 1, 5] (L' := [(0, .slice Al0 l0.length cl0), (1, .slice Al1 l1.length cl1), (5, .slice AP2 (((l0 ++ ([119, 119, 119] : List Int)).take (IntKind.i64.wrap ((l0.length : Int) + 3)).toNat).drop (l0.length : Int).toNat).length cP2)]) (by kernel_rfl) ?_
  obtain ⟨v3, hv4, h⟩ := Option.bind_eq_some_iff.1 h
  replace hv4 := Option.some.inj hv4
  have Hn5 := HP2
  rw [hv4] at Hn5
  refine WP.reput 5 (v := .slice AP2 (((l0 ++ ([119, 119, 119] : List Int)).take (IntKind.i64.wrap ((l0.length : Int) + 3)).toNat).drop (l0.length : Int).toNat).length cP2) (v' := .slice AP2 v3.length cP2) (by kernel_rfl) (by subst hv4; rfl) ?_
  refine WP.pick [0, 1, 5] ?_
  refine WP.seq ?_
  refine WP.seqP [0, 1, 5, 6] (L' := [(0, .slice Al0 l0.length cl0), (1, .slice Al1 l1.length cl1), (5, .slice AP2 v3.length cP2), (6, .int .i64 0)]) (by kernel_rfl) ?_
  rw [Option.bind_eq_some_iff] at h
  obtain ⟨os6, h, hk7⟩ := h
  refine WP.cutQ (fun L' G' Γ' => ∃ s6 : Unit, Sum.inr s6 = os6 ∧ L' = [(0, .slice Al0 l0.length cl0), (1, .slice Al1 l1.length cl1)] ∧ G = G' ∧ Γ = Γ') ?_ ?_
  · skip
    refine WP.block ?_
    refine WP.pick [0, 1, 5, 6] ?_
    refine WP.loopF (fun kn9 L' G' Γ' => ∃ (y8 : Int), grapevinelaw0_KeptBytes_l0 v3 kn9 y8 = some os6 ∧ L' = [(0, .slice Al0 l0.length cl0), (1, .slice Al1 l1.length cl1), (5, .slice AP2 v3.length cP2), (6, .int .i64 y8)] ∧ G = G' ∧ Γ = Γ') ?_ k ⟨0, h, rfl, rfl, rfl⟩
    clear h
    rintro kn10 _ _ _ ⟨y8, h, rfl, rfl, rfl⟩
    cases kn10 with
    | zero => exact absurd h (by simp [grapevinelaw0_KeptBytes_l0])
    | succ kn10 =>
      simp only [grapevinelaw0_KeptBytes_l0] at h
      refine WP.seq ?_
      refine WP.seqP [0, 1, 5, 6, 15] (L' := [(0, .slice Al0 l0.length cl0), (1, .slice Al1 l1.length cl1), (5, .slice AP2 v3.length cP2), (6, .int .i64 y8), (15, .bool (decide (y8 < 3)))]) (by kernel_rfl) ?_
      refine WP.cond (b := decide (y8 < 3)) (by kernel_rfl) (fun hc => ?_) (fun hc => ?_)
      · replace hc := of_decide_eq_true hc
        rw [if_pos hc] at h
        have hc11 := hc
        clear hc
        refine WP.skip ?_
        refine QP.next ?_
        refine WP.pick [0, 1, 5, 6] ?_
        refine WP.seq ?_
        refine WP.block ?_
        refine WP.seqR ?_
        refine WL.pure 0 2 [0, 1, 5, 6, 18, 19] (L' := [(0, .slice Al0 l0.length cl0), (1, .slice Al1 l1.length cl1), (5, .slice AP2 v3.length cP2), (6, .int .i64 y8), (18, .slice AP2 v3.length cP2), (19, .int .i64 y8)]) (by kernel_rfl) (by decide) ?_
        by_cases hb12 : 0 ≤ y8 ∧ y8 < (v3.length : Int)
        case neg => rw [if_neg hb12] at h; cases h
        rw [if_pos hb12] at h
        refine WL.tell (op := .indexAddr 29 (.tmp 18) (.tmp 19)) (ty := 0) (d := some 20) (g := none) (by kernel_rfl) (by kernel_rfl) (by kernel_rfl) (Tells.indexAddr (A := AP2) (n := v3.length) (c := cP2) (k := .i64) (j := y8) (by kernel_rfl) (by kernel_rfl) (Hn5.isSome hb12.1 hb12.2) hb12.1 hb12.2 sl29) ?_
        refine WL.tellE (op := .load 5 (.tmp 20)) (ty := 5) (d := some 21) (g := none) (by kernel_rfl) (by kernel_rfl) (by kernel_rfl) (Hn5.load (agg := false) hb12.1 hb12.2 0 ag5 (fun _ => rfl) (by kernel_rfl)) ?_
        rintro _ rfl
        refine WL.restQ 4 [0, 1, 5, 6, 22] (L' := [(0, .slice Al0 l0.length cl0), (1, .slice Al1 l1.length cl1), (5, .slice AP2 v3.length cP2), (6, .int .i64 y8), (22, .bool ((v3.getD y8.toNat 0) != 119))]) (by kernel_rfl) ?_
        refine WP.cond (b := ((v3.getD y8.toNat 0) != 119)) (by kernel_rfl) (fun hc => ?_) (fun hc => ?_)
        · replace hc := (bne_iff_ne.1 hc)
          rw [if_pos hc] at h
          have hc13 := hc
          clear hc
          refine WP.seqP [4] (L' := [(4, .bool false)]) (by kernel_rfl) ?_
          refine WP.ret ?_
          refine QP.blockR ?_
          refine QP.thenR ?_
          refine QP.thenR ?_
          refine QP.blockR ?_
          refine QP.thenR ?_
          refine QP.thenR ?_
          obtain rfl := Option.some.inj h
          obtain rfl := Option.some.inj (show some _ = some _ from hk7)
          exact QP.returned [4] [.bool false] _ (by kernel_rfl) (by kernel_rfl) (by kernel_rfl) (fun W hI => ⟨_, _, _, rfl, ⟨rfl, rfl, rfl⟩, hI⟩)
        · replace hc := (not_not_intro (bne_eq_false_iff_eq.1 hc))
          rw [if_neg hc] at h
          have hc13 := hc
          clear hc
          refine WP.skip ?_
          refine QP.blockN ?_
          refine QP.next ?_
          refine WP.pick [0, 1, 5, 6] ?_
          refine WP.regionP [0, 1, 5, 6] (L' := [(0, .slice Al0 l0.length cl0), (1, .slice Al1 l1.length cl1), (5, .slice AP2 v3.length cP2), (6, .int .i64 (IntKind.i64.wrap (y8 + 1)))]) (by kernel_rfl) ?_
          refine QP.pick [0, 1, 5, 6] ?_
          exact QP.meet ⟨kn10, Nat.lt_succ_self _, (IntKind.i64.wrap (y8 + 1)), h, rfl, rfl, rfl⟩
      · replace hc := of_decide_eq_false hc
        rw [if_neg hc] at h
        have hc11 := hc
        clear hc
        refine WP.exit ?_
        refine QP.thenE ?_
        refine QP.thenE ?_
        refine QP.blockE ?_
        refine QP.pick [0, 1] ?_
        exact QP.meet ⟨_, Option.some.inj h, rfl, rfl, rfl⟩
  · rintro _ _ _ ⟨s6, rfl, rfl, rfl, rfl⟩
    clear h
    replace h := hk7
    dsimp only at h
    refine QP.next ?_
    refine WP.pick [0, 1] ?_
    refine WP.seqR ?_
    refine WL.pure 0 2 [23, 24] (L' := [(23, .slice Al0 l0.length cl0), (24, .slice Al1 l1.length cl1)]) (by kernel_rfl) (by decide) ?_
    rw [Option.bind_eq_some_iff] at h
    obtain ⟨t14, ht15, h⟩ := h
    refine WL.op (op := .call { callee := (.value (.func 16)), args := #[(.tmp 23), (.tmp 24)], argTypes := #[29, 29] }) (ty := 4) (d := some 25) (g := none) (by kernel_rfl) (by kernel_rfl) (by kernel_rfl) (Does.call (f := 16) (args := [.slice Al0 l0.length cl0, .slice Al1 l1.length cl1]) (by kernel_rfl) (fun W hI => (grapevinelaw0_SameBytes_calls k l0 l1 Al0 cl0 Hl0 Al1 cl1 Hl1 t14 ht15 hI))) ?_
    rintro _ _ _ ⟨rfl, rfl, rfl⟩
    refine WL.restQ 3 [4] (L' := [(4, .bool t14)]) (by kernel_rfl) ?_
    refine WP.ret ?_
    obtain rfl := Option.some.inj h
    exact QP.returned [4] [.bool t14] _ (by kernel_rfl) (by kernel_rfl) (by kernel_rfl) (fun W hI => ⟨_, _, _, rfl, ⟨rfl, rfl, rfl⟩, hI⟩)
end Go.Proofs.YtjmhhmljldjmjaaDoor.Gf
