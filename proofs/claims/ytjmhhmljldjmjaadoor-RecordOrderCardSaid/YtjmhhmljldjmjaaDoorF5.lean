/- Walks of Go functions: what each tells, as a plain Lean function, and that the Go code comes to it. Written by gg.py of this repo. -/
import Derived.Test.YtjmhhmljldjmjaaDoorT
import Derived.Test.YtjmhhmljldjmjaaDoorF3
namespace Go.Proofs.YtjmhhmljldjmjaaDoor.Gf
open Go Go.Gg
set_option maxRecDepth 100000
set_option linter.unusedVariables false
set_option linter.unusedSimpArgs false

/-! ### grapevine/grapevinelaw0.LendRecords: function 27 -/
def grapevinelaw0_LendRecords (l0 : List T27) : Option (List T27) := if l0.length + 3 ≤ 1073741824 then some (l0 ++ ([(⟨0, 0, 0, 0, (⟨#[114, 111, 111, 109]⟩ : ByteArray)⟩ : T27), (⟨0, 0, 0, 0, (⟨#[114, 111, 111, 109]⟩ : ByteArray)⟩ : T27), (⟨0, 0, 0, 0, (⟨#[114, 111, 111, 109]⟩ : ByteArray)⟩ : T27)] : List T27)) else none
set_option maxHeartbeats 4000000 in
theorem grapevinelaw0_LendRecords_calls {B : World} {G : GMap} {Γ : List Chunk} {W : World} (l0 : List T27) (Al0 : Option Addr) (cl0 : Nat) (Hl0 : Rd k27 G Al0 cl0 l0) (hlen : l0.length + 3 ≤ 1073741824) (hI : Inv B G Γ W) :
    Calls Tryd.prog 27 [.slice Al0 l0.length cl0].toArray W (Ret B (fun v G' Γ' => ∃ (AR : Option Addr), ∃ (cR : Nat), ∃ (CR : Chunk), v = .slice AR l0.length cR ∧ Ow k27 G' AR cR (l0 ++ ([(⟨0, 0, 0, 0, (⟨#[114, 111, 111, 109]⟩ : ByteArray)⟩ : T27), (⟨0, 0, 0, 0, (⟨#[114, 111, 111, 109]⟩ : ByteArray)⟩ : T27), (⟨0, 0, 0, 0, (⟨#[114, 111, 111, 109]⟩ : ByteArray)⟩ : T27)] : List T27)) CR ∧ G = G' ∧ CR :: Γ = Γ')) := by
  refine calls_WP (Γ := Γ) (G := G) (B := B) Tryd.func27 rfl (by kernel_rfl) ?_ hI
  clear hI
  have hw : IntKind.i64.wrap ((l0.length : Int) + 3) = (l0.length : Int) + 3 := by rw [IntKind.wrap_i64]; omega
  refine WP.seqP [0] (L' := [(0, .slice Al0 l0.length cl0)]) (by kernel_rfl) ?_
  refine WP.seqR ?_
  refine WL.pure 0 3 [0, 8] (L' := [(0, .slice Al0 l0.length cl0), (8, .int .i64 (IntKind.i64.wrap ((l0.length : Int) + 3)))]) (by kernel_rfl) (by decide) ?_
  refine WL.reput 8 (v := .int .i64 (IntKind.i64.wrap ((l0.length : Int) + 3))) (v' := .int .i64 ((l0.length : Int) + 3)) (by kernel_rfl) (by rw [hw]) ?_
  refine WL.op (op := .makeSlice 46 (.const (.int .i64 0)) (.tmp 8)) (ty := 46) (d := some 9) (g := none) (by kernel_rfl) (by kernel_rfl) (by kernel_rfl) (Does.makeRoom (kd := k27) (z := z27) (zv := (.agg #[.int .i64 0, .int .i64 0, .int .i64 0, .int .i64 0, .string (⟨#[]⟩ : ByteArray)])) (k := .i64) (k' := .i64) (c := (l0.length : Int) + 3) (by kernel_rfl) (by kernel_rfl) (by omega) sl46 (by decide) (by omega) (by kernel_rfl) (fun _ => by exact rfl)) ?_
  rintro _ _ _ ⟨rfl, b, C0, rfl, H0, rfl⟩
  refine WL.restQ 4 [0, 3] (L' := [(0, .slice Al0 l0.length cl0), (3, .slice (some ⟨b, 0, none⟩) 0 ((l0.length : Int) + 3).toNat)]) (by kernel_rfl) ?_
  have hc : ((l0.length : Int) + 3).toNat = l0.length + 3 := by omega
  generalize ((l0.length : Int) + 3).toNat = c at hc H0 ⊢
  subst hc
  replace H0 : Ow k27 G (some ⟨b, 0, none⟩) (l0.length + 3) (List.replicate l0.length z27 ++ List.replicate 3 z27) C0 := by rw [List.replicate_append_replicate]; exact H0
  refine WP.seqR ?_
  refine WL.pure 0 2 [0, 10, 11] (L' := [(0, .slice Al0 l0.length cl0), (10, .slice (some ⟨b, 0, none⟩) 0 (l0.length + 3)), (11, .slice Al0 l0.length cl0)]) (by kernel_rfl) (by decide) ?_
  refine WL.op (op := .call { callee := (.builtin .append), args := #[(.tmp 10), (.tmp 11)], argTypes := #[46, 46] }) (ty := 46) (d := some 12) (g := none) (by kernel_rfl) (by kernel_rfl) (by kernel_rfl) (Ow.appendIn (ys := l0) (v := .slice Al0 l0.length cl0) H0 (i := 0) rfl (by kernel_rfl) (by kernel_rfl) Hl0.src sl46 nt46 (by simp)) ?_
  rintro _ _ _ ⟨rfl, rfl, C1, H1, rfl⟩
  refine WL.restQ 3 [0, 3] (L' := [(0, .slice Al0 l0.length cl0), (3, .slice (some ⟨b, 0, none⟩) l0.length (l0.length + 3))]) (by kernel_rfl) ?_
  refine WP.seqR ?_
  refine WL.pure 0 6 [3, 13, 15, 18] (L' := [(3, .slice (some ⟨b, 0, none⟩) l0.length (l0.length + 3)), (13, .slice (some ⟨b, 0, none⟩) l0.length (l0.length + 3)), (15, .int .i64 (l0.length : Int)), (18, .int .i64 (IntKind.i64.wrap ((l0.length : Int) + 3)))]) (by kernel_rfl) (by decide) ?_
  refine WL.reput 18 (v := .int .i64 (IntKind.i64.wrap ((l0.length : Int) + 3))) (v' := .int .i64 ((l0.length : Int) + 3)) (by kernel_rfl) (by rw [hw]) ?_
  refine WL.tell (op := .slice 46 (.tmp 13) (some (.tmp 15)) (some (.tmp 18)) none) (ty := 46) (d := some 19) (g := none) (by kernel_rfl) (by kernel_rfl) (by kernel_rfl) (Tells.room (b := b) (m := l0.length) (c := l0.length + 3) (l := (l0.length : Int)) (h := (l0.length : Int) + 3) (by kernel_rfl) ⟨.i64, by kernel_rfl⟩ ⟨.i64, by kernel_rfl⟩ (by omega) (by omega) (by omega) sl46) ?_
  refine WL.reput 19 (v := .slice (some ⟨b, (l0.length : Int).toNat * 5, none⟩) (((l0.length : Int) + 3).toNat - (l0.length : Int).toNat) (l0.length + 3 - (l0.length : Int).toNat)) (v' := .slice (some ⟨b, l0.length * 5, none⟩) 3 3) (by kernel_rfl) (by rw [Int.toNat_natCast, show ((l0.length : Int) + 3).toNat - l0.length = 3 by omega, show l0.length + 3 - l0.length = 3 by omega]) ?_
  refine WL.restQ 7 [3, 4] (L' := [(3, .slice (some ⟨b, 0, none⟩) l0.length (l0.length + 3)), (4, .slice (some ⟨b, l0.length * 5, none⟩) 3 3)]) (by kernel_rfl) ?_
  refine WP.seq ?_
  refine WP.seqP [3, 4, 5] (L' := [(3, .slice (some ⟨b, 0, none⟩) l0.length (l0.length + 3)), (4, .slice (some ⟨b, l0.length * 5, none⟩) 3 3), (5, .int .i64 0)]) (by kernel_rfl) ?_
  refine WP.cutQ (fun L' G' Γ' => ∃ (C2 : Chunk), L' = [(3, .slice (some ⟨b, 0, none⟩) l0.length (l0.length + 3))] ∧ G = G' ∧ C2 :: Γ = Γ' ∧ Ow k27 G (some ⟨b, 0, none⟩) (l0.length + 3) (l0 ++ ([(⟨0, 0, 0, 0, (⟨#[114, 111, 111, 109]⟩ : ByteArray)⟩ : T27), (⟨0, 0, 0, 0, (⟨#[114, 111, 111, 109]⟩ : ByteArray)⟩ : T27), (⟨0, 0, 0, 0, (⟨#[114, 111, 111, 109]⟩ : ByteArray)⟩ : T27)] : List T27)) C2) ?_ ?_
  · refine WP.block ?_
    refine WP.loopF (fun k L' G' Γ' => ∃ (i : Nat) (C2 : Chunk), i + k = 3 ∧ L' = [(3, .slice (some ⟨b, 0, none⟩) l0.length (l0.length + 3)), (4, .slice (some ⟨b, l0.length * 5, none⟩) 3 3), (5, .int .i64 (i : Int))] ∧ G = G' ∧ C2 :: Γ = Γ' ∧ Ow k27 G (some ⟨b, 0, none⟩) (l0.length + 3) (l0 ++ (List.replicate i (⟨0, 0, 0, 0, (⟨#[114, 111, 111, 109]⟩ : ByteArray)⟩ : T27) ++ List.replicate (3 - i) z27)) C2) ?_ 3 ⟨0, C1, rfl, rfl, rfl, rfl, by simpa using H1⟩
    rintro k _ _ _ ⟨i, C2, hk, rfl, rfl, rfl, H2⟩
    refine WP.seq ?_
    refine WP.seqP [3, 4, 5, 21] (L' := [(3, .slice (some ⟨b, 0, none⟩) l0.length (l0.length + 3)), (4, .slice (some ⟨b, l0.length * 5, none⟩) 3 3), (5, .int .i64 (i : Int)), (21, .bool (decide ((i : Int) < 3)))]) (by kernel_rfl) ?_
    refine WP.cond (b := decide ((i : Int) < 3)) (by kernel_rfl) (fun hc => ?_) (fun hc => ?_)
    · replace hc := of_decide_eq_true hc
      refine WP.skip ?_
      refine QP.next ?_
      refine WP.pick [3, 4, 5] ?_
      refine WP.seq ?_
      refine WP.block ?_
      refine WP.region ?_
      refine WL.pure 0 3 [3, 4, 5, 24, 25, 26] (L' := [(3, .slice (some ⟨b, 0, none⟩) l0.length (l0.length + 3)), (4, .slice (some ⟨b, l0.length * 5, none⟩) 3 3), (5, .int .i64 (i : Int)), (24, .slice (some ⟨b, l0.length * 5, none⟩) 3 3), (25, .int .i64 (i : Int)), (26, .agg #[.int .i64 0, .int .i64 0, .int .i64 0, .int .i64 0, .string (⟨#[114, 111, 111, 109]⟩ : ByteArray)])]) (by kernel_rfl) (by decide) ?_
      refine WL.tell (op := .indexAddr 46 (.tmp 24) (.tmp 25)) (ty := 0) (d := some 27) (g := none) (by kernel_rfl) (by kernel_rfl) (by kernel_rfl) (Tells.indexAddr (A := some ⟨b, l0.length * 5, none⟩) (n := 3) (c := 3) (k := .i64) (j := (i : Int)) (by kernel_rfl) (by kernel_rfl) rfl (by omega) hc sl46) ?_
      refine WL.reput 27 (v := .pointer ((some ⟨b, l0.length * 5, none⟩ : Option Addr).map (·.add ((i : Int).toNat * 5)))) (v' := .pointer ((some ⟨b, 0, none⟩ : Option Addr).map (·.add ((((l0.length + i : Nat) : Int)).toNat * 5)))) (by kernel_rfl) (by simp only [Option.map_some, add_mul, Int.toNat_natCast, Nat.add_mul, Nat.zero_add]) ?_
      refine WL.op (op := .store 27 (.tmp 27) (.tmp 26)) (ty := 0) (d := none) (g := none) (by kernel_rfl) (by kernel_rfl) (by kernel_rfl) (Ow.store H2 (i := 0) rfl (j := ((l0.length + i : Nat) : Int)) (by omega) (by simp; omega) (z := (⟨0, 0, 0, 0, (⟨#[114, 111, 111, 109]⟩ : ByteArray)⟩ : T27)) (v := (.agg #[.int .i64 0, .int .i64 0, .int .i64 0, .int .i64 0, .string (⟨#[114, 111, 111, 109]⟩ : ByteArray)])) (by kernel_rfl) (by kernel_rfl) sz27 (by exact rfl)) ?_
      rintro _ _ _ ⟨rfl, rfl, C3, H3, rfl⟩
      refine WL.rest 5 [3, 4, 5] (L' := [(3, .slice (some ⟨b, 0, none⟩) l0.length (l0.length + 3)), (4, .slice (some ⟨b, l0.length * 5, none⟩) 3 3), (5, .int .i64 (i : Int))]) (by kernel_rfl) ?_
      refine QP.blockN ?_
      refine QP.next ?_
      refine WP.regionP [3, 4, 5] (L' := [(3, .slice (some ⟨b, 0, none⟩) l0.length (l0.length + 3)), (4, .slice (some ⟨b, l0.length * 5, none⟩) 3 3), (5, .int .i64 (IntKind.i64.wrap ((i : Int) + 1)))]) (by kernel_rfl) ?_
      rw [show IntKind.i64.wrap ((i : Int) + 1) = ((i + 1 : Nat) : Int) by rw [IntKind.wrap_i64]; omega]
      refine QP.meet ⟨k - 1, by omega, i + 1, C3, by omega, rfl, rfl, rfl, ?_⟩
      have e : (l0 ++ (List.replicate i (⟨0, 0, 0, 0, (⟨#[114, 111, 111, 109]⟩ : ByteArray)⟩ : T27) ++ List.replicate (3 - i) z27)).set ((l0.length + i : Nat) : Int).toNat (⟨0, 0, 0, 0, (⟨#[114, 111, 111, 109]⟩ : ByteArray)⟩ : T27) = l0 ++ (List.replicate (i + 1) (⟨0, 0, 0, 0, (⟨#[114, 111, 111, 109]⟩ : ByteArray)⟩ : T27) ++ List.replicate (3 - (i + 1)) z27) := by
        rw [show ((l0.length + i : Nat) : Int).toNat = l0.length + i by omega, List.set_append_right _ _ (by omega), show l0.length + i - l0.length = i by omega]
        obtain rfl | rfl | rfl : i = 0 ∨ i = 1 ∨ i = 2 := by omega
        all_goals rfl
      rw [← e]
      exact H3
    · replace hc := of_decide_eq_false hc
      obtain rfl : i = 3 := by omega
      refine WP.exit ?_
      refine QP.thenE ?_
      refine QP.thenE ?_
      refine QP.blockE ?_
      refine QP.pick [3] ?_
      exact QP.meet ⟨C2, rfl, rfl, rfl, H2⟩
  · rintro _ _ _ ⟨C2, rfl, rfl, rfl, H2⟩
    refine QP.next ?_
    refine WP.seqP [2] (L' := [(2, .slice (some ⟨b, 0, none⟩) l0.length (l0.length + 3))]) (by kernel_rfl) ?_
    refine WP.ret ?_
    exact QP.returned [2] [.slice (some ⟨b, 0, none⟩) l0.length (l0.length + 3)] _ (by kernel_rfl) (by kernel_rfl) (by kernel_rfl) (fun W hI => ⟨_, _, _, rfl, ⟨_, _, C2, rfl, H2, rfl, rfl⟩, hI⟩)

/-! ### grapevine/grapevineref2.Less: function 63 -/
def grapevineref2_Less (a0 : T25) (a1 : T25) : Option Bool := ((if a0.f0 < a1.f0 then some true else (if a0.f0 = a1.f0 then some (decide (a0.f1 < a1.f1)) else some false)).bind fun s3 => some s3)
set_option maxHeartbeats 4000000 in
theorem grapevineref2_Less_calls {B : World} {G : GMap} {Γ : List Chunk} {W : World} (a0 : T25) (a1 : T25) (r : Bool) (h : grapevineref2_Less a0 a1 = some r) (hI : Inv B G (Γ) W) :
    Calls Tryd.prog 63 [.agg #[.int .i64 a0.f0, .int .i64 a0.f1], .agg #[.int .i64 a1.f0, .int .i64 a1.f1]].toArray W (Ret B (fun v G' Γ' => v = .bool r ∧ G = G' ∧ Γ = Γ')) := by
  refine calls_WP (Γ := Γ) (G := G) (B := B) Tryd.func63 rfl (by kernel_rfl) ?_ hI
  clear hI
  unfold grapevineref2_Less at h
  refine WP.seqR ?_
  refine WL.op (op := .box 25 (.tmp 0)) (ty := 0) (d := some 2) (g := none) (by kernel_rfl) (by kernel_rfl) (by kernel_rfl) (Does.new (o := .cells #[.int .i64 a0.f0, .int .i64 a0.f1] 25 (0, 0)) (v := fun r => .pointer (some ⟨r, 0, none⟩)) (fun r => by kernel_rfl)) ?_
  rintro _ _ _ ⟨b1, rfl, rfl, rfl⟩
  refine WL.op (op := .box 25 (.tmp 1)) (ty := 0) (d := some 3) (g := none) (by kernel_rfl) (by kernel_rfl) (by kernel_rfl) (Does.new (o := .cells #[.int .i64 a1.f0, .int .i64 a1.f1] 25 (0, 0)) (v := fun r => .pointer (some ⟨r, 0, none⟩)) (fun r => by kernel_rfl)) ?_
  rintro _ _ _ ⟨b2, rfl, rfl, rfl⟩
  refine WL.restQ 2 [2, 3] (L' := [(2, .pointer (some ⟨b1, 0, none⟩)), (3, .pointer (some ⟨b2, 0, none⟩))]) (by kernel_rfl) ?_
  rw [Option.bind_eq_some_iff] at h
  obtain ⟨os3, h, hk4⟩ := h
  refine WP.cut (fun L' G' Γ' => ∃ s3 : Bool, s3 = os3 ∧ L' = [(4, .bool s3)] ∧ G = G' ∧ Γ = Γ') ?_ ?_
  · clear hk4
    refine WP.region ?_
    refine WL.pure 0 1 [2, 3, 5] (L' := [(2, .pointer (some ⟨b1, 0, none⟩)), (3, .pointer (some ⟨b2, 0, none⟩)), (5, .pointer (some ⟨b1, 0, none⟩))]) (by kernel_rfl) (by decide) ?_
    refine WL.tell (op := .load 3 (.tmp 5)) (ty := 3) (d := some 6) (g := none) (by kernel_rfl) (by kernel_rfl) (by kernel_rfl) (Tells.load_box (i := 1) (b := b1) (o := 0) (agg := false) (by rfl) ag3 (by kernel_rfl) (fun _ => rfl) (Nat.le_of_ble_eq_true rfl) (v := .int .i64 a0.f0) (by kernel_rfl)) ?_
    refine WL.pure 2 3 [2, 3, 6, 7] (L' := [(2, .pointer (some ⟨b1, 0, none⟩)), (3, .pointer (some ⟨b2, 0, none⟩)), (6, .int .i64 a0.f0), (7, .pointer (some ⟨b2, 0, none⟩))]) (by kernel_rfl) (by decide) ?_
    refine WL.tell (op := .load 3 (.tmp 7)) (ty := 3) (d := some 8) (g := none) (by kernel_rfl) (by kernel_rfl) (by kernel_rfl) (Tells.load_box (i := 0) (b := b2) (o := 0) (agg := false) (by rfl) ag3 (by kernel_rfl) (fun _ => rfl) (Nat.le_of_ble_eq_true rfl) (v := .int .i64 a1.f0) (by kernel_rfl)) ?_
    refine WL.pure 4 6 [2, 3, 10] (L' := [(2, .pointer (some ⟨b1, 0, none⟩)), (3, .pointer (some ⟨b2, 0, none⟩)), (10, .bool (decide (a0.f0 < a1.f0)))]) (by kernel_rfl) (by decide) ?_
    refine WL.split 10 (b := decide (a0.f0 < a1.f0)) (by kernel_rfl) (fun hc => ?_) (fun hc => ?_)
    · replace hc := of_decide_eq_true hc
      rw [if_pos hc] at h
      have hc5 := hc
      clear hc
      refine WL.rest 6 [4] (L' := [(4, .bool true)]) (by kernel_rfl) ?_
      refine QP.dropAt 1 ?_
      refine QP.dropAt 0 ?_
      refine QP.pick [4] ?_
      exact QP.meet ⟨_, Option.some.inj h, rfl, rfl, rfl⟩
    · replace hc := of_decide_eq_false hc
      rw [if_neg hc] at h
      have hc5 := hc
      clear hc
      refine WL.pure 6 7 [2, 3, 10, 11] (L' := [(2, .pointer (some ⟨b1, 0, none⟩)), (3, .pointer (some ⟨b2, 0, none⟩)), (10, .bool false), (11, .pointer (some ⟨b1, 0, none⟩))]) (by kernel_rfl) (by decide) ?_
      refine WL.tell (op := .load 3 (.tmp 11)) (ty := 3) (d := some 12) (g := some (5, false)) (by kernel_rfl) (by kernel_rfl) (by kernel_rfl) (Tells.load_box (i := 1) (b := b1) (o := 0) (agg := false) (by rfl) ag3 (by kernel_rfl) (fun _ => rfl) (Nat.le_of_ble_eq_true rfl) (v := .int .i64 a0.f0) (by kernel_rfl)) ?_
      refine WL.pure 8 9 [2, 3, 10, 12, 13] (L' := [(2, .pointer (some ⟨b1, 0, none⟩)), (3, .pointer (some ⟨b2, 0, none⟩)), (10, .bool false), (12, .int .i64 a0.f0), (13, .pointer (some ⟨b2, 0, none⟩))]) (by kernel_rfl) (by decide) ?_
      refine WL.tell (op := .load 3 (.tmp 13)) (ty := 3) (d := some 14) (g := some (5, false)) (by kernel_rfl) (by kernel_rfl) (by kernel_rfl) (Tells.load_box (i := 0) (b := b2) (o := 0) (agg := false) (by rfl) ag3 (by kernel_rfl) (fun _ => rfl) (Nat.le_of_ble_eq_true rfl) (v := .int .i64 a1.f0) (by kernel_rfl)) ?_
      refine WL.pure 10 12 [2, 3, 10, 16] (L' := [(2, .pointer (some ⟨b1, 0, none⟩)), (3, .pointer (some ⟨b2, 0, none⟩)), (10, .bool false), (16, .bool (a0.f0 == a1.f0))]) (by kernel_rfl) (by decide) ?_
      refine WL.split 16 (b := (a0.f0 == a1.f0)) (by kernel_rfl) (fun hc => ?_) (fun hc => ?_)
      · replace hc := eq_of_beq hc
        rw [if_pos hc] at h
        have hc6 := hc
        clear hc
        refine WL.pure 12 13 [3, 10, 16, 17] (L' := [(3, .pointer (some ⟨b2, 0, none⟩)), (10, .bool false), (16, .bool true), (17, .pointer (some ⟨b1, 1, none⟩))]) (by kernel_rfl) (by decide) ?_
        refine WL.tell (op := .load 3 (.tmp 17)) (ty := 3) (d := some 18) (g := some (11, true)) (by kernel_rfl) (by kernel_rfl) (by kernel_rfl) (Tells.load_box (i := 1) (b := b1) (o := 1) (agg := false) (by rfl) ag3 (by kernel_rfl) (fun _ => rfl) (Nat.le_of_ble_eq_true rfl) (v := .int .i64 a0.f1) (by kernel_rfl)) ?_
        refine WL.pure 14 15 [10, 16, 18, 19] (L' := [(10, .bool false), (16, .bool true), (18, .int .i64 a0.f1), (19, .pointer (some ⟨b2, 1, none⟩))]) (by kernel_rfl) (by decide) ?_
        refine WL.tell (op := .load 3 (.tmp 19)) (ty := 3) (d := some 20) (g := some (11, true)) (by kernel_rfl) (by kernel_rfl) (by kernel_rfl) (Tells.load_box (i := 0) (b := b2) (o := 1) (agg := false) (by rfl) ag3 (by kernel_rfl) (fun _ => rfl) (Nat.le_of_ble_eq_true rfl) (v := .int .i64 a1.f1) (by kernel_rfl)) ?_
        refine WL.rest 16 [4] (L' := [(4, .bool (decide (a0.f1 < a1.f1)))]) (by kernel_rfl) ?_
        refine QP.dropAt 1 ?_
        refine QP.dropAt 0 ?_
        refine QP.pick [4] ?_
        exact QP.meet ⟨_, Option.some.inj h, rfl, rfl, rfl⟩
      · replace hc := ne_of_beq_false hc
        rw [if_neg hc] at h
        have hc6 := hc
        clear hc
        refine WL.rest 12 [4] (L' := [(4, .bool false)]) (by kernel_rfl) ?_
        refine QP.dropAt 1 ?_
        refine QP.dropAt 0 ?_
        refine QP.pick [4] ?_
        exact QP.meet ⟨_, Option.some.inj h, rfl, rfl, rfl⟩
  · rintro _ _ _ ⟨s3, rfl, rfl, rfl, rfl⟩
    clear h
    replace h := hk4
    refine WP.ret ?_
    obtain rfl := Option.some.inj h
    exact QP.returned [4] [.bool s3] _ (by kernel_rfl) (by kernel_rfl) (by kernel_rfl) (fun W hI => ⟨_, _, _, rfl, ⟨rfl, rfl, rfl⟩, hI⟩)

/-! ### grapevine/grapevineref4.Before: function 37 -/
def grapevineref4_Before (a0 : T23) (a1 : T23) : Option Bool := ((if a0.f0 < a1.f0 then some true else (if a0.f0 = a1.f0 then some (decide (a0.f1 < a1.f1)) else some false)).bind fun s3 => some s3)
set_option maxHeartbeats 4000000 in
theorem grapevineref4_Before_calls {B : World} {G : GMap} {Γ : List Chunk} {W : World} (a0 : T23) (a1 : T23) (r : Bool) (h : grapevineref4_Before a0 a1 = some r) (hI : Inv B G (Γ) W) :
    Calls Tryd.prog 37 [.agg #[.int .i64 a0.f0, .int .i64 a0.f1], .agg #[.int .i64 a1.f0, .int .i64 a1.f1]].toArray W (Ret B (fun v G' Γ' => v = .bool r ∧ G = G' ∧ Γ = Γ')) := by
  refine calls_WP (Γ := Γ) (G := G) (B := B) Tryd.func37 rfl (by kernel_rfl) ?_ hI
  clear hI
  unfold grapevineref4_Before at h
  refine WP.seqR ?_
  refine WL.op (op := .box 23 (.tmp 0)) (ty := 0) (d := some 2) (g := none) (by kernel_rfl) (by kernel_rfl) (by kernel_rfl) (Does.new (o := .cells #[.int .i64 a0.f0, .int .i64 a0.f1] 23 (0, 0)) (v := fun r => .pointer (some ⟨r, 0, none⟩)) (fun r => by kernel_rfl)) ?_
  rintro _ _ _ ⟨b1, rfl, rfl, rfl⟩
  refine WL.op (op := .box 23 (.tmp 1)) (ty := 0) (d := some 3) (g := none) (by kernel_rfl) (by kernel_rfl) (by kernel_rfl) (Does.new (o := .cells #[.int .i64 a1.f0, .int .i64 a1.f1] 23 (0, 0)) (v := fun r => .pointer (some ⟨r, 0, none⟩)) (fun r => by kernel_rfl)) ?_
  rintro _ _ _ ⟨b2, rfl, rfl, rfl⟩
  refine WL.restQ 2 [2, 3] (L' := [(2, .pointer (some ⟨b1, 0, none⟩)), (3, .pointer (some ⟨b2, 0, none⟩))]) (by kernel_rfl) ?_
  rw [Option.bind_eq_some_iff] at h
  obtain ⟨os3, h, hk4⟩ := h
  refine WP.cut (fun L' G' Γ' => ∃ s3 : Bool, s3 = os3 ∧ L' = [(4, .bool s3)] ∧ G = G' ∧ Γ = Γ') ?_ ?_
  · clear hk4
    refine WP.region ?_
    refine WL.pure 0 1 [2, 3, 5] (L' := [(2, .pointer (some ⟨b1, 0, none⟩)), (3, .pointer (some ⟨b2, 0, none⟩)), (5, .pointer (some ⟨b1, 0, none⟩))]) (by kernel_rfl) (by decide) ?_
    refine WL.tell (op := .load 3 (.tmp 5)) (ty := 3) (d := some 6) (g := none) (by kernel_rfl) (by kernel_rfl) (by kernel_rfl) (Tells.load_box (i := 1) (b := b1) (o := 0) (agg := false) (by rfl) ag3 (by kernel_rfl) (fun _ => rfl) (Nat.le_of_ble_eq_true rfl) (v := .int .i64 a0.f0) (by kernel_rfl)) ?_
    refine WL.pure 2 3 [2, 3, 6, 7] (L' := [(2, .pointer (some ⟨b1, 0, none⟩)), (3, .pointer (some ⟨b2, 0, none⟩)), (6, .int .i64 a0.f0), (7, .pointer (some ⟨b2, 0, none⟩))]) (by kernel_rfl) (by decide) ?_
    refine WL.tell (op := .load 3 (.tmp 7)) (ty := 3) (d := some 8) (g := none) (by kernel_rfl) (by kernel_rfl) (by kernel_rfl) (Tells.load_box (i := 0) (b := b2) (o := 0) (agg := false) (by rfl) ag3 (by kernel_rfl) (fun _ => rfl) (Nat.le_of_ble_eq_true rfl) (v := .int .i64 a1.f0) (by kernel_rfl)) ?_
    refine WL.pure 4 6 [2, 3, 10] (L' := [(2, .pointer (some ⟨b1, 0, none⟩)), (3, .pointer (some ⟨b2, 0, none⟩)), (10, .bool (decide (a0.f0 < a1.f0)))]) (by kernel_rfl) (by decide) ?_
    refine WL.split 10 (b := decide (a0.f0 < a1.f0)) (by kernel_rfl) (fun hc => ?_) (fun hc => ?_)
    · replace hc := of_decide_eq_true hc
      rw [if_pos hc] at h
      have hc5 := hc
      clear hc
      refine WL.rest 6 [4] (L' := [(4, .bool true)]) (by kernel_rfl) ?_
      refine QP.dropAt 1 ?_
      refine QP.dropAt 0 ?_
      refine QP.pick [4] ?_
      exact QP.meet ⟨_, Option.some.inj h, rfl, rfl, rfl⟩
    · replace hc := of_decide_eq_false hc
      rw [if_neg hc] at h
      have hc5 := hc
      clear hc
      refine WL.pure 6 7 [2, 3, 10, 11] (L' := [(2, .pointer (some ⟨b1, 0, none⟩)), (3, .pointer (some ⟨b2, 0, none⟩)), (10, .bool false), (11, .pointer (some ⟨b1, 0, none⟩))]) (by kernel_rfl) (by decide) ?_
      refine WL.tell (op := .load 3 (.tmp 11)) (ty := 3) (d := some 12) (g := some (5, false)) (by kernel_rfl) (by kernel_rfl) (by kernel_rfl) (Tells.load_box (i := 1) (b := b1) (o := 0) (agg := false) (by rfl) ag3 (by kernel_rfl) (fun _ => rfl) (Nat.le_of_ble_eq_true rfl) (v := .int .i64 a0.f0) (by kernel_rfl)) ?_
      refine WL.pure 8 9 [2, 3, 10, 12, 13] (L' := [(2, .pointer (some ⟨b1, 0, none⟩)), (3, .pointer (some ⟨b2, 0, none⟩)), (10, .bool false), (12, .int .i64 a0.f0), (13, .pointer (some ⟨b2, 0, none⟩))]) (by kernel_rfl) (by decide) ?_
      refine WL.tell (op := .load 3 (.tmp 13)) (ty := 3) (d := some 14) (g := some (5, false)) (by kernel_rfl) (by kernel_rfl) (by kernel_rfl) (Tells.load_box (i := 0) (b := b2) (o := 0) (agg := false) (by rfl) ag3 (by kernel_rfl) (fun _ => rfl) (Nat.le_of_ble_eq_true rfl) (v := .int .i64 a1.f0) (by kernel_rfl)) ?_
      refine WL.pure 10 12 [2, 3, 10, 16] (L' := [(2, .pointer (some ⟨b1, 0, none⟩)), (3, .pointer (some ⟨b2, 0, none⟩)), (10, .bool false), (16, .bool (a0.f0 == a1.f0))]) (by kernel_rfl) (by decide) ?_
      refine WL.split 16 (b := (a0.f0 == a1.f0)) (by kernel_rfl) (fun hc => ?_) (fun hc => ?_)
      · replace hc := eq_of_beq hc
        rw [if_pos hc] at h
        have hc6 := hc
        clear hc
        refine WL.pure 12 13 [3, 10, 16, 17] (L' := [(3, .pointer (some ⟨b2, 0, none⟩)), (10, .bool false), (16, .bool true), (17, .pointer (some ⟨b1, 1, none⟩))]) (by kernel_rfl) (by decide) ?_
        refine WL.tell (op := .load 3 (.tmp 17)) (ty := 3) (d := some 18) (g := some (11, true)) (by kernel_rfl) (by kernel_rfl) (by kernel_rfl) (Tells.load_box (i := 1) (b := b1) (o := 1) (agg := false) (by rfl) ag3 (by kernel_rfl) (fun _ => rfl) (Nat.le_of_ble_eq_true rfl) (v := .int .i64 a0.f1) (by kernel_rfl)) ?_
        refine WL.pure 14 15 [10, 16, 18, 19] (L' := [(10, .bool false), (16, .bool true), (18, .int .i64 a0.f1), (19, .pointer (some ⟨b2, 1, none⟩))]) (by kernel_rfl) (by decide) ?_
        refine WL.tell (op := .load 3 (.tmp 19)) (ty := 3) (d := some 20) (g := some (11, true)) (by kernel_rfl) (by kernel_rfl) (by kernel_rfl) (Tells.load_box (i := 0) (b := b2) (o := 1) (agg := false) (by rfl) ag3 (by kernel_rfl) (fun _ => rfl) (Nat.le_of_ble_eq_true rfl) (v := .int .i64 a1.f1) (by kernel_rfl)) ?_
        refine WL.rest 16 [4] (L' := [(4, .bool (decide (a0.f1 < a1.f1)))]) (by kernel_rfl) ?_
        refine QP.dropAt 1 ?_
        refine QP.dropAt 0 ?_
        refine QP.pick [4] ?_
        exact QP.meet ⟨_, Option.some.inj h, rfl, rfl, rfl⟩
      · replace hc := ne_of_beq_false hc
        rw [if_neg hc] at h
        have hc6 := hc
        clear hc
        refine WL.rest 12 [4] (L' := [(4, .bool false)]) (by kernel_rfl) ?_
        refine QP.dropAt 1 ?_
        refine QP.dropAt 0 ?_
        refine QP.pick [4] ?_
        exact QP.meet ⟨_, Option.some.inj h, rfl, rfl, rfl⟩
  · rintro _ _ _ ⟨s3, rfl, rfl, rfl, rfl⟩
    clear h
    replace h := hk4
    refine WP.ret ?_
    obtain rfl := Option.some.inj h
    exact QP.returned [4] [.bool s3] _ (by kernel_rfl) (by kernel_rfl) (by kernel_rfl) (fun W hI => ⟨_, _, _, rfl, ⟨rfl, rfl, rfl⟩, hI⟩)

/-! ### grapevine/grapevineref4.Less: function 35 -/
def grapevineref4_Less (a0 : T27) (a1 : T27) : Option Bool := (((grapevineref2_Less (⟨a0.f2, a0.f3⟩ : T25) (⟨a1.f2, a1.f3⟩ : T25)).bind fun t5 => (if t5 = true then some true else (if (⟨a0.f2, a0.f3⟩ : T25) = (⟨a1.f2, a1.f3⟩ : T25) then ((grapevineref4_Before (⟨a0.f0, a0.f1⟩ : T23) (⟨a1.f0, a1.f1⟩ : T23)).bind fun t11 => some t11) else some false))).bind fun s3 => some s3)
set_option maxHeartbeats 4000000 in
theorem grapevineref4_Less_calls {B : World} {G : GMap} {Γ : List Chunk} {W : World} (a0 : T27) (a1 : T27) (r : Bool) (h : grapevineref4_Less a0 a1 = some r) (hI : Inv B G (Γ) W) :
    Calls Tryd.prog 35 [.agg #[.int .i64 a0.f0, .int .i64 a0.f1, .int .i64 a0.f2, .int .i64 a0.f3, .string a0.f4], .agg #[.int .i64 a1.f0, .int .i64 a1.f1, .int .i64 a1.f2, .int .i64 a1.f3, .string a1.f4]].toArray W (Ret B (fun v G' Γ' => v = .bool r ∧ G = G' ∧ Γ = Γ')) := by
  refine calls_WP (Γ := Γ) (G := G) (B := B) Tryd.func35 rfl (by kernel_rfl) ?_ hI
  clear hI
  unfold grapevineref4_Less at h
  refine WP.seqR ?_
  refine WL.op (op := .box 27 (.tmp 0)) (ty := 0) (d := some 2) (g := none) (by kernel_rfl) (by kernel_rfl) (by kernel_rfl) (Does.new (o := .cells #[.int .i64 a0.f0, .int .i64 a0.f1, .int .i64 a0.f2, .int .i64 a0.f3, .string a0.f4] 27 (0, 0)) (v := fun r => .pointer (some ⟨r, 0, none⟩)) (fun r => by kernel_rfl)) ?_
  rintro _ _ _ ⟨b1, rfl, rfl, rfl⟩
  refine WL.op (op := .box 27 (.tmp 1)) (ty := 0) (d := some 3) (g := none) (by kernel_rfl) (by kernel_rfl) (by kernel_rfl) (Does.new (o := .cells #[.int .i64 a1.f0, .int .i64 a1.f1, .int .i64 a1.f2, .int .i64 a1.f3, .string a1.f4] 27 (0, 0)) (v := fun r => .pointer (some ⟨r, 0, none⟩)) (fun r => by kernel_rfl)) ?_
  rintro _ _ _ ⟨b2, rfl, rfl, rfl⟩
  refine WL.restQ 2 [2, 3] (L' := [(2, .pointer (some ⟨b1, 0, none⟩)), (3, .pointer (some ⟨b2, 0, none⟩))]) (by kernel_rfl) ?_
  rw [Option.bind_eq_some_iff] at h
  obtain ⟨os3, h, hk4⟩ := h
  refine WP.cut (fun L' G' Γ' => ∃ s3 : Bool, s3 = os3 ∧ L' = [(4, .bool s3)] ∧ G = G' ∧ Γ = Γ') ?_ ?_
  · clear hk4
    refine WP.region ?_
    refine WL.pure 0 1 [2, 3, 5] (L' := [(2, .pointer (some ⟨b1, 0, none⟩)), (3, .pointer (some ⟨b2, 0, none⟩)), (5, .pointer (some ⟨b1, 2, none⟩))]) (by kernel_rfl) (by decide) ?_
    refine WL.tell (op := .load 25 (.tmp 5)) (ty := 25) (d := some 6) (g := none) (by kernel_rfl) (by kernel_rfl) (by kernel_rfl) (Tells.load_box (i := 1) (b := b1) (o := 2) (agg := true) (by rfl) ag25 (by kernel_rfl) (fun h => by cases h) (Nat.le_of_ble_eq_true rfl) (v := .agg #[.int .i64 a0.f2, .int .i64 a0.f3]) (by kernel_rfl)) ?_
    refine WL.pure 2 3 [2, 3, 6, 7] (L' := [(2, .pointer (some ⟨b1, 0, none⟩)), (3, .pointer (some ⟨b2, 0, none⟩)), (6, .agg #[.int .i64 a0.f2, .int .i64 a0.f3]), (7, .pointer (some ⟨b2, 2, none⟩))]) (by kernel_rfl) (by decide) ?_
    refine WL.tell (op := .load 25 (.tmp 7)) (ty := 25) (d := some 8) (g := none) (by kernel_rfl) (by kernel_rfl) (by kernel_rfl) (Tells.load_box (i := 0) (b := b2) (o := 2) (agg := true) (by rfl) ag25 (by kernel_rfl) (fun h => by cases h) (Nat.le_of_ble_eq_true rfl) (v := .agg #[.int .i64 a1.f2, .int .i64 a1.f3]) (by kernel_rfl)) ?_
    rw [Option.bind_eq_some_iff] at h
    obtain ⟨t5, ht6, h⟩ := h
    refine WL.op (op := .call { callee := (.value (.func 63)), args := #[(.tmp 6), (.tmp 8)], argTypes := #[25, 25] }) (ty := 4) (d := some 9) (g := none) (by kernel_rfl) (by kernel_rfl) (by kernel_rfl) (Does.call (f := 63) (args := [.agg #[.int .i64 a0.f2, .int .i64 a0.f3], .agg #[.int .i64 a1.f2, .int .i64 a1.f3]]) (by kernel_rfl) (fun W hI => (grapevineref2_Less_calls (⟨a0.f2, a0.f3⟩ : T25) (⟨a1.f2, a1.f3⟩ : T25)  t5 ht6 hI))) ?_
    rintro _ _ _ ⟨rfl, rfl, rfl⟩
    refine WL.pure 5 6 [2, 3, 10] (L' := [(2, .pointer (some ⟨b1, 0, none⟩)), (3, .pointer (some ⟨b2, 0, none⟩)), (10, .bool t5)]) (by kernel_rfl) (by decide) ?_
    refine WL.split 10 (b := t5) (by kernel_rfl) (fun hc => ?_) (fun hc => ?_)
    · replace hc := hc
      rw [if_pos hc] at h
      have hc9 := hc
      clear hc
      refine WL.rest 6 [4] (L' := [(4, .bool true)]) (by kernel_rfl) ?_
      refine QP.dropAt 1 ?_
      refine QP.dropAt 0 ?_
      refine QP.pick [4] ?_
      exact QP.meet ⟨_, Option.some.inj h, rfl, rfl, rfl⟩
    · replace hc := (Bool.eq_false_iff.1 hc)
      rw [if_neg hc] at h
      have hc9 := hc
      clear hc
      refine WL.pure 6 7 [2, 3, 10, 11] (L' := [(2, .pointer (some ⟨b1, 0, none⟩)), (3, .pointer (some ⟨b2, 0, none⟩)), (10, .bool false), (11, .pointer (some ⟨b1, 2, none⟩))]) (by kernel_rfl) (by decide) ?_
      refine WL.tell (op := .load 25 (.tmp 11)) (ty := 25) (d := some 12) (g := some (5, false)) (by kernel_rfl) (by kernel_rfl) (by kernel_rfl) (Tells.load_box (i := 1) (b := b1) (o := 2) (agg := true) (by rfl) ag25 (by kernel_rfl) (fun h => by cases h) (Nat.le_of_ble_eq_true rfl) (v := .agg #[.int .i64 a0.f2, .int .i64 a0.f3]) (by kernel_rfl)) ?_
      refine WL.pure 8 9 [2, 3, 10, 12, 13] (L' := [(2, .pointer (some ⟨b1, 0, none⟩)), (3, .pointer (some ⟨b2, 0, none⟩)), (10, .bool false), (12, .agg #[.int .i64 a0.f2, .int .i64 a0.f3]), (13, .pointer (some ⟨b2, 2, none⟩))]) (by kernel_rfl) (by decide) ?_
      refine WL.tell (op := .load 25 (.tmp 13)) (ty := 25) (d := some 14) (g := some (5, false)) (by kernel_rfl) (by kernel_rfl) (by kernel_rfl) (Tells.load_box (i := 0) (b := b2) (o := 2) (agg := true) (by rfl) ag25 (by kernel_rfl) (fun h => by cases h) (Nat.le_of_ble_eq_true rfl) (v := .agg #[.int .i64 a1.f2, .int .i64 a1.f3]) (by kernel_rfl)) ?_
      refine WL.tell (op := .binOp .eql 25 (.tmp 12) (.tmp 14) 25) (ty := 4) (d := some 15) (g := some (5, false)) (by kernel_rfl) (by kernel_rfl) (by kernel_rfl) (Tells.eqAgg (xs := #[.int .i64 a0.f2, .int .i64 a0.f3]) (ys := #[.int .i64 a1.f2, .int .i64 a1.f3]) (ls := [.int a0.f2 a1.f2, .int a0.f3 a1.f3]) (by kernel_rfl) (by kernel_rfl) (by kernel_rfl) eg25) ?_
      refine WL.reput 15 (v := .bool ([.int a0.f2 a1.f2, .int a0.f3 a1.f3].all Lf.ok)) (v' := .bool (decide ((⟨a0.f2, a0.f3⟩ : T25) = (⟨a1.f2, a1.f3⟩ : T25)))) (by kernel_rfl) (by exact (congrArg Value.bool (eqT25 (⟨a0.f2, a0.f3⟩ : T25) (⟨a1.f2, a1.f3⟩ : T25)))) ?_
      refine WL.pure 11 12 [2, 3, 10, 16] (L' := [(2, .pointer (some ⟨b1, 0, none⟩)), (3, .pointer (some ⟨b2, 0, none⟩)), (10, .bool false), (16, .bool (decide ((⟨a0.f2, a0.f3⟩ : T25) = (⟨a1.f2, a1.f3⟩ : T25))))]) (by kernel_rfl) (by decide) ?_
      refine WL.split 16 (b := decide ((⟨a0.f2, a0.f3⟩ : T25) = (⟨a1.f2, a1.f3⟩ : T25))) (by kernel_rfl) (fun hc => ?_) (fun hc => ?_)
      · replace hc := of_decide_eq_true hc
        rw [if_pos hc] at h
        have hc10 := hc
        clear hc
        refine WL.pure 12 13 [3, 10, 16, 17] (L' := [(3, .pointer (some ⟨b2, 0, none⟩)), (10, .bool false), (16, .bool true), (17, .pointer (some ⟨b1, 0, none⟩))]) (by kernel_rfl) (by decide) ?_
        refine WL.tell (op := .load 23 (.tmp 17)) (ty := 23) (d := some 18) (g := some (11, true)) (by kernel_rfl) (by kernel_rfl) (by kernel_rfl) (Tells.load_box (i := 1) (b := b1) (o := 0) (agg := true) (by rfl) ag23 (by kernel_rfl) (fun h => by cases h) (Nat.le_of_ble_eq_true rfl) (v := .agg #[.int .i64 a0.f0, .int .i64 a0.f1]) (by kernel_rfl)) ?_
        refine WL.pure 14 15 [10, 16, 18, 19] (L' := [(10, .bool false), (16, .bool true), (18, .agg #[.int .i64 a0.f0, .int .i64 a0.f1]), (19, .pointer (some ⟨b2, 0, none⟩))]) (by kernel_rfl) (by decide) ?_
        refine WL.tell (op := .load 23 (.tmp 19)) (ty := 23) (d := some 20) (g := some (11, true)) (by kernel_rfl) (by kernel_rfl) (by kernel_rfl) (Tells.load_box (i := 0) (b := b2) (o := 0) (agg := true) (by rfl) ag23 (by kernel_rfl) (fun h => by cases h) (Nat.le_of_ble_eq_true rfl) (v := .agg #[.int .i64 a1.f0, .int .i64 a1.f1]) (by kernel_rfl)) ?_
        rw [Option.bind_eq_some_iff] at h
        obtain ⟨t11, ht12, h⟩ := h
        refine WL.op (op := .call { callee := (.value (.func 37)), args := #[(.tmp 18), (.tmp 20)], argTypes := #[23, 23] }) (ty := 4) (d := some 21) (g := some (11, true)) (by kernel_rfl) (by kernel_rfl) (by kernel_rfl) (Does.call (f := 37) (args := [.agg #[.int .i64 a0.f0, .int .i64 a0.f1], .agg #[.int .i64 a1.f0, .int .i64 a1.f1]]) (by kernel_rfl) (fun W hI => (grapevineref4_Before_calls (⟨a0.f0, a0.f1⟩ : T23) (⟨a1.f0, a1.f1⟩ : T23)  t11 ht12 hI))) ?_
        rintro _ _ _ ⟨rfl, rfl, rfl⟩
        refine WL.rest 17 [4] (L' := [(4, .bool t11)]) (by kernel_rfl) ?_
        refine QP.dropAt 1 ?_
        refine QP.dropAt 0 ?_
        refine QP.pick [4] ?_
        exact QP.meet ⟨_, Option.some.inj h, rfl, rfl, rfl⟩
      · replace hc := of_decide_eq_false hc
        rw [if_neg hc] at h
        have hc10 := hc
        clear hc
        refine WL.rest 12 [4] (L' := [(4, .bool false)]) (by kernel_rfl) ?_
        refine QP.dropAt 1 ?_
        refine QP.dropAt 0 ?_
        refine QP.pick [4] ?_
        exact QP.meet ⟨_, Option.some.inj h, rfl, rfl, rfl⟩
  · rintro _ _ _ ⟨s3, rfl, rfl, rfl, rfl⟩
    clear h
    replace h := hk4
    refine WP.ret ?_
    obtain rfl := Option.some.inj h
    exact QP.returned [4] [.bool s3] _ (by kernel_rfl) (by kernel_rfl) (by kernel_rfl) (fun W hI => ⟨_, _, _, rfl, ⟨rfl, rfl, rfl⟩, hI⟩)

/-! ### grapevine/grapevineref4.Sort: function 30 -/
def grapevineref4_Sort_l1 (l0 : List T27) (y3 : List T27) (y4 : Int) : Nat → Int → Option Int
  | 0, _ => none
  | k + 1, y10 => ((if y10 > 0 then (if 0 ≤ y4 ∧ y4 < (l0.length : Int) then (if 0 ≤ (IntKind.i64.wrap (y10 - 1)) ∧ (IntKind.i64.wrap (y10 - 1)) < (y3.length : Int) then ((grapevineref4_Less (l0.getD y4.toNat z27) (y3.getD (IntKind.i64.wrap (y10 - 1)).toNat z27)).bind fun t18 => some t18) else none) else none) else some false).bind fun s13 => (if s13 = true then grapevineref4_Sort_l1 l0 y3 y4 k (IntKind.i64.wrap (y10 - 1)) else some y10))
def grapevineref4_Sort_l0 (l0 : List T27) : Nat → (List T27) → Int → Option (List T27)
  | 0, _, _ => none
  | k + 1, y3, y4 => (if y4 < (l0.length : Int) then ((grapevineref4_Sort_l1 l0 y3 y4 k (y3.length : Int)).bind fun s8 => ((if 0 ≤ (0 : Int) ∧ (0 : Int) ≤ s8 ∧ s8 ≤ (y3.length : Int) then (if 0 ≤ y4 ∧ y4 < (l0.length : Int) then (if 0 ≤ s8 ∧ s8 ≤ (y3.length : Int) ∧ (y3.length : Int) ≤ (y3.length : Int) then (if ([] : List T27).length + ((y3.take s8.toNat).drop (0 : Int).toNat).length ≤ 1073741824 then (if (([] : List T27) ++ ((y3.take s8.toNat).drop (0 : Int).toNat)).length + ([(l0.getD y4.toNat z27)] : List T27).length ≤ 1073741824 then (if ((([] : List T27) ++ ((y3.take s8.toNat).drop (0 : Int).toNat)) ++ ([(l0.getD y4.toNat z27)] : List T27)).length + ((y3.take (y3.length : Int).toNat).drop s8.toNat).length ≤ 1073741824 then some (((([] : List T27) ++ ((y3.take s8.toNat).drop (0 : Int).toNat)) ++ ([(l0.getD y4.toNat z27)] : List T27)) ++ ((y3.take (y3.length : Int).toNat).drop s8.toNat)) else none) else none) else none) else none) else none) else none).bind fun s23 => grapevineref4_Sort_l0 l0 k s23 (IntKind.i64.wrap (y4 + 1)))) else some y3)
def grapevineref4_Sort (k : Nat) (l0 : List T27) : Option (List T27) := ((grapevineref4_Sort_l0 l0 k ([] : List T27) 0).bind fun s1 => some s1)
set_option maxHeartbeats 4000000 in
theorem grapevineref4_Sort_calls {B : World} {G : GMap} {Γ : List Chunk} {W : World} (k : Nat) (l0 : List T27) (Al0 : Option Addr) (cl0 : Nat) (Hl0 : Rd k27 G Al0 cl0 l0) (r : List T27) (h : grapevineref4_Sort k l0 = some r) (hI : Inv B G (Γ) W) :
    Calls Tryd.prog 30 [.slice Al0 l0.length cl0].toArray W (Ret B (fun v G' Γ' => ∃ (AR : Option Addr), ∃ (cR : Nat), ∃ (CR : Chunk), v = .slice AR r.length cR ∧ Ow k27 G' AR cR r CR ∧ G = G' ∧ CR :: Γ = Γ')) := by
  refine calls_WP (Γ := Γ) (G := G) (B := B) Tryd.func30 rfl (by kernel_rfl) ?_ hI
  clear hI
  unfold grapevineref4_Sort at h
  refine WP.seqP [0] (L' := [(0, .slice Al0 l0.length cl0)]) (by kernel_rfl) ?_
  refine WP.seqP [0, 3] (L' := [(0, .slice Al0 l0.length cl0), (3, .slice none 0 0)]) (by kernel_rfl) ?_
  refine WP.seq ?_
  refine WP.seqP [0, 3, 4] (L' := [(0, .slice Al0 l0.length cl0), (3, .slice none 0 0), (4, .int .i64 0)]) (by kernel_rfl) ?_
  rw [Option.bind_eq_some_iff] at h
  obtain ⟨os1, h, hk2⟩ := h
  refine WP.cutQ (fun L' G' Γ' => ∃ s1 : (List T27), s1 = os1 ∧ ∃ (As1 : Option Addr), ∃ (cs1 : Nat), ∃ (Cs1 : Chunk), L' = [(3, .slice As1 s1.length cs1)] ∧ G = G' ∧ Cs1 :: Γ = Γ' ∧ Ow k27 G As1 cs1 s1 Cs1) ?_ ?_
  · clear hk2
    refine WP.block ?_
    refine WP.addNil ?_
    refine WP.pick [0, 3, 4] ?_
    refine WP.loopF (fun kn5 L' G' Γ' => ∃ (y3 : List T27), ∃ (y4 : Int), grapevineref4_Sort_l0 l0 kn5 y3 y4 = some os1 ∧ ∃ (Ay3 : Option Addr), ∃ (cy3 : Nat), ∃ (Cy3 : Chunk), L' = [(0, .slice Al0 l0.length cl0), (3, .slice Ay3 y3.length cy3), (4, .int .i64 y4)] ∧ G = G' ∧ Cy3 :: Γ = Γ' ∧ Ow k27 G Ay3 cy3 y3 Cy3) ?_ k ⟨([] : List T27), 0, h, none, 0, [], rfl, rfl, rfl, (Ow.nil k27 _)⟩
    clear h
    rintro kn6 _ _ _ ⟨y3, y4, h, Ay3, cy3, Cy3, rfl, rfl, rfl, Hy3⟩
    cases kn6 with
    | zero => exact absurd h (by simp [grapevineref4_Sort_l0])
    | succ kn6 =>
      simp only [grapevineref4_Sort_l0] at h
      refine WP.seq ?_
      refine WP.seqP [0, 3, 4, 9] (L' := [(0, .slice Al0 l0.length cl0), (3, .slice Ay3 y3.length cy3), (4, .int .i64 y4), (9, .bool (decide (y4 < (l0.length : Int))))]) (by kernel_rfl) ?_
      refine WP.cond (b := decide (y4 < (l0.length : Int))) (by kernel_rfl) (fun hc => ?_) (fun hc => ?_)
      · replace hc := of_decide_eq_true hc
        rw [if_pos hc] at h
        have hc7 := hc
        clear hc
        refine WP.skip ?_
        refine QP.next ?_
        refine WP.pick [0, 3, 4] ?_
        refine WP.seq ?_
        refine WP.block ?_
        refine WP.seqP [0, 3, 4, 5] (L' := [(0, .slice Al0 l0.length cl0), (3, .slice Ay3 y3.length cy3), (4, .int .i64 y4), (5, .int .i64 (y3.length : Int))]) (by kernel_rfl) ?_
        rw [Option.bind_eq_some_iff] at h
        obtain ⟨os8, h, hk9⟩ := h
        refine WP.cut (fun L' G' Γ' => ∃ s8 : Int, s8 = os8 ∧ L' = [(0, .slice Al0 l0.length cl0), (3, .slice Ay3 y3.length cy3), (4, .int .i64 y4), (5, .int .i64 s8)] ∧ G = G' ∧ Cy3 :: Γ = Γ') ?_ ?_
        · clear hk9
          refine WP.block ?_
          refine WP.pick [0, 3, 4, 5] ?_
          refine WP.loopF (fun kn11 L' G' Γ' => ∃ (y10 : Int), grapevineref4_Sort_l1 l0 y3 y4 kn11 y10 = some os8 ∧ L' = [(0, .slice Al0 l0.length cl0), (3, .slice Ay3 y3.length cy3), (4, .int .i64 y4), (5, .int .i64 y10)] ∧ G = G' ∧ Cy3 :: Γ = Γ') ?_ kn6 ⟨(y3.length : Int), h, rfl, rfl, rfl⟩
          clear h
          rintro kn12 _ _ _ ⟨y10, h, rfl, rfl, rfl⟩
          cases kn12 with
          | zero => exact absurd h (by simp [grapevineref4_Sort_l1])
          | succ kn12 =>
            simp only [grapevineref4_Sort_l1] at h
            refine WP.seq ?_
            rw [Option.bind_eq_some_iff] at h
            obtain ⟨os13, h, hk14⟩ := h
            refine WP.cut (fun L' G' Γ' => ∃ s13 : Bool, s13 = os13 ∧ L' = [(0, .slice Al0 l0.length cl0), (3, .slice Ay3 y3.length cy3), (4, .int .i64 y4), (5, .int .i64 y10), (27, .bool s13)] ∧ G = G' ∧ Cy3 :: Γ = Γ') ?_ ?_
            · clear hk14
              skip
              refine WP.any (N := 14) (S := [⟨some 14, [5], []⟩, ⟨some 15, [14], [0]⟩, ⟨some 16, [15], [1]⟩, ⟨some 17, [0, 16], [2]⟩, ⟨some 18, [4, 16], [2]⟩, ⟨some 19, [16, 17, 18], [2, 3, 4]⟩, ⟨some 20, [16, 19], [2, 5]⟩, ⟨some 21, [3, 16], [2]⟩, ⟨some 22, [5, 16], [2]⟩, ⟨some 23, [16, 22], [2, 8]⟩, ⟨some 24, [16, 21, 23], [2, 7, 9]⟩, ⟨some 25, [16, 24], [2, 10]⟩, ⟨some 26, [16, 20, 25], [2, 6, 11]⟩, ⟨some 27, [16, 26], [2, 12]⟩]) (kw := 14) (G0 := G) (Γ0 := Cy3 :: Γ) mo (by kernel_rfl) (fun hS => ?_)
              refine WA.pure [0, 1, 2] [0, 3, 4, 5, 16] (m := 11) (b' := 7) (L' := [(0, .slice Al0 l0.length cl0), (3, .slice Ay3 y3.length cy3), (4, .int .i64 y4), (5, .int .i64 y10), (16, .bool (decide (y10 > 0)))]) (by kernel_rfl) (NoPanic.then (NoPanic.then (NoPanic.then (NoPanic.block (NoPanic.then (NoPanic.block (NoPanic.then (NoPanic.then (NoPanic.block (NoPanic.then (NoPanic.then (NoPanic.body)))))))))))) Under.refl hS (by kernel_rfl) ?_
              refine WA.split 16 (b := decide (y10 > 0)) (by kernel_rfl) (fun hc => ?_) (fun hc => ?_)
              · replace hc := of_decide_eq_true hc
                rw [if_pos hc] at h
                have hc15 := hc
                clear hc
                refine WA.pure [3, 4, 7, 8, 9] [0, 3, 4, 5, 16, 17, 18, 21, 23] (m := 6) (b' := 927) (L' := [(0, .slice Al0 l0.length cl0), (3, .slice Ay3 y3.length cy3), (4, .int .i64 y4), (5, .int .i64 y10), (16, .bool true), (17, .slice Al0 l0.length cl0), (18, .int .i64 y4), (21, .slice Ay3 y3.length cy3), (23, .int .i64 (IntKind.i64.wrap (y10 - 1)))]) (by kernel_rfl) (NoPanic.then (NoPanic.then (NoPanic.then (NoPanic.block (NoPanic.then (NoPanic.block (NoPanic.then (NoPanic.then (NoPanic.block (NoPanic.then (NoPanic.then (NoPanic.body)))))))))))) Under.refl hS (by kernel_rfl) ?_
                by_cases hb16 : 0 ≤ y4 ∧ y4 < (l0.length : Int)
                case neg => rw [if_neg hb16] at h; cases h
                rw [if_pos hb16] at h
                refine WA.tellD [] (i := 5) (m := 5) (b' := 959) (by kernel_rfl) (NoPanic.then (NoPanic.then (NoPanic.then (NoPanic.block (NoPanic.then (NoPanic.block (NoPanic.then (NoPanic.then (NoPanic.block (NoPanic.then (NoPanic.then (NoPanic.body)))))))))))) Under.refl hS (by kernel_rfl) (op := .indexAddr 46 (.tmp 17) (.tmp 18)) (ty := 0) (d := some 19) (g := some (2, true)) (by kernel_rfl) (by kernel_rfl) (by kernel_rfl) (Tells.indexAddr (A := Al0) (n := l0.length) (c := cl0) (k := .i64) (j := y4) (by kernel_rfl) (by kernel_rfl) (Hl0.isSome hb16.1 hb16.2) hb16.1 hb16.2 sl46) ?_
                refine WA.tellDE [] (i := 6) (m := 4) (b' := 1023) (by kernel_rfl) (NoPanic.then (NoPanic.then (NoPanic.then (NoPanic.block (NoPanic.then (NoPanic.block (NoPanic.then (NoPanic.then (NoPanic.block (NoPanic.then (NoPanic.then (NoPanic.body)))))))))))) Under.refl hS (by kernel_rfl) (op := .load 27 (.tmp 19)) (ty := 27) (d := some 20) (g := some (2, true)) (by kernel_rfl) (by kernel_rfl) (by kernel_rfl) (Hl0.load (agg := true) hb16.1 hb16.2 z27 ag27 (fun h => by cases h) (by kernel_rfl)) ?_
                rintro _ rfl
                by_cases hb17 : 0 ≤ (IntKind.i64.wrap (y10 - 1)) ∧ (IntKind.i64.wrap (y10 - 1)) < (y3.length : Int)
                case neg => rw [if_neg hb17] at h; cases h
                rw [if_pos hb17] at h
                refine WA.tellD [] (i := 10) (m := 3) (b' := 2047) (by kernel_rfl) (NoPanic.then (NoPanic.then (NoPanic.then (NoPanic.block (NoPanic.then (NoPanic.block (NoPanic.then (NoPanic.then (NoPanic.block (NoPanic.then (NoPanic.then (NoPanic.body)))))))))))) Under.refl hS (by kernel_rfl) (op := .indexAddr 46 (.tmp 21) (.tmp 23)) (ty := 0) (d := some 24) (g := some (2, true)) (by kernel_rfl) (by kernel_rfl) (by kernel_rfl) (Tells.indexAddr (A := Ay3) (n := y3.length) (c := cy3) (k := .i64) (j := (IntKind.i64.wrap (y10 - 1))) (by kernel_rfl) (by kernel_rfl) (Hy3.isSome hb17.1 hb17.2) hb17.1 hb17.2 sl46) ?_
                refine WA.tellDE [] (i := 11) (m := 2) (b' := 4095) (by kernel_rfl) (NoPanic.then (NoPanic.then (NoPanic.then (NoPanic.block (NoPanic.then (NoPanic.block (NoPanic.then (NoPanic.then (NoPanic.block (NoPanic.then (NoPanic.then (NoPanic.body)))))))))))) Under.refl hS (by kernel_rfl) (op := .load 27 (.tmp 24)) (ty := 27) (d := some 25) (g := some (2, true)) (by kernel_rfl) (by kernel_rfl) (by kernel_rfl) (Hy3.load (i := 0) rfl (agg := true) hb17.1 hb17.2 z27 ag27 (fun h => by cases h) (by kernel_rfl)) ?_
                rintro _ rfl
                rw [Option.bind_eq_some_iff] at h
                obtain ⟨t18, ht19, h⟩ := h
                refine WA.op (i := 12) (m := 1) (b' := 8191) (by kernel_rfl) hS (by kernel_rfl) (op := .call { callee := (.value (.func 35)), args := #[(.tmp 20), (.tmp 25)], argTypes := #[27, 27] }) (ty := 4) (d := some 26) (g := some (2, true)) (by kernel_rfl) (by kernel_rfl) (by kernel_rfl) (Does.call (f := 35) (args := [.agg #[.int .i64 ((l0.getD y4.toNat z27).f0), .int .i64 ((l0.getD y4.toNat z27).f1), .int .i64 ((l0.getD y4.toNat z27).f2), .int .i64 ((l0.getD y4.toNat z27).f3), .string ((l0.getD y4.toNat z27).f4)], .agg #[.int .i64 ((y3.getD (IntKind.i64.wrap (y10 - 1)).toNat z27).f0), .int .i64 ((y3.getD (IntKind.i64.wrap (y10 - 1)).toNat z27).f1), .int .i64 ((y3.getD (IntKind.i64.wrap (y10 - 1)).toNat z27).f2), .int .i64 ((y3.getD (IntKind.i64.wrap (y10 - 1)).toNat z27).f3), .string ((y3.getD (IntKind.i64.wrap (y10 - 1)).toNat z27).f4)]]) (by kernel_rfl) (fun W hI => (grapevineref4_Less_calls (l0.getD y4.toNat z27) (y3.getD (IntKind.i64.wrap (y10 - 1)).toNat z27)  t18 ht19 hI))) ?_
                rintro _ _ _ ⟨rfl, rfl, rfl⟩
                refine ⟨_, _, Under.refl, Under.refl, ?_⟩
                refine WA.pure [13] [0, 3, 4, 5, 27] (m := 0) (b' := 16383) (L' := [(0, .slice Al0 l0.length cl0), (3, .slice Ay3 y3.length cy3), (4, .int .i64 y4), (5, .int .i64 y10), (27, .bool t18)]) (by kernel_rfl) (NoPanic.then (NoPanic.then (NoPanic.then (NoPanic.block (NoPanic.then (NoPanic.block (NoPanic.then (NoPanic.then (NoPanic.block (NoPanic.then (NoPanic.then (NoPanic.body)))))))))))) Under.refl hS (by kernel_rfl) ?_
                refine WA.done hS (by kernel_rfl) ?_
                refine QP.pick [0, 3, 4, 5, 27] ?_
                refine QP.pick [0, 3, 4, 5, 27] ?_
                exact QP.meet ⟨_, Option.some.inj h, rfl, rfl, rfl⟩
              · replace hc := of_decide_eq_false hc
                rw [if_neg hc] at h
                have hc15 := hc
                clear hc
                refine WA.pure [3, 4, 5, 6, 7, 8, 9, 10, 11, 12, 13] [0, 3, 4, 5, 27] (m := 0) (b' := 16383) (L' := [(0, .slice Al0 l0.length cl0), (3, .slice Ay3 y3.length cy3), (4, .int .i64 y4), (5, .int .i64 y10), (27, .bool false)]) (by kernel_rfl) (NoPanic.then (NoPanic.then (NoPanic.then (NoPanic.block (NoPanic.then (NoPanic.block (NoPanic.then (NoPanic.then (NoPanic.block (NoPanic.then (NoPanic.then (NoPanic.body)))))))))))) Under.refl hS (by kernel_rfl) ?_
                refine WA.done hS (by kernel_rfl) ?_
                refine QP.pick [0, 3, 4, 5, 27] ?_
                refine QP.pick [0, 3, 4, 5, 27] ?_
                exact QP.meet ⟨_, Option.some.inj h, rfl, rfl, rfl⟩
            · rintro _ _ _ ⟨s13, rfl, rfl, rfl, rfl⟩
              clear h
              replace h := hk14
              refine WP.cond (b := s13) (by kernel_rfl) (fun hc => ?_) (fun hc => ?_)
              · replace hc := hc
                rw [if_pos hc] at h
                have hc22 := hc
                clear hc
                refine WP.skip ?_
                refine QP.next ?_
                refine WP.pick [0, 3, 4, 5] ?_
                refine WP.block ?_
                refine WP.regionP [0, 3, 4, 5] (L' := [(0, .slice Al0 l0.length cl0), (3, .slice Ay3 y3.length cy3), (4, .int .i64 y4), (5, .int .i64 (IntKind.i64.wrap (y10 - 1)))]) (by kernel_rfl) ?_
                refine QP.blockN ?_
                refine QP.pick [0, 3, 4, 5] ?_
                exact QP.meet ⟨kn12, Nat.lt_succ_self _, (IntKind.i64.wrap (y10 - 1)), h, rfl, rfl, rfl⟩
              · replace hc := (Bool.eq_false_iff.1 hc)
                rw [if_neg hc] at h
                have hc22 := hc
                clear hc
                refine WP.exit ?_
                refine QP.thenE ?_
                refine QP.thenE ?_
                refine QP.blockE ?_
                refine QP.pick [0, 3, 4, 5] ?_
                exact QP.meet ⟨_, Option.some.inj h, rfl, rfl, rfl⟩
        · rintro _ _ _ ⟨s8, rfl, rfl, rfl, rfl⟩
          clear h
          replace h := hk9
          rw [Option.bind_eq_some_iff] at h
          obtain ⟨os23, h, hk24⟩ := h
          refine WP.cutQ (fun L' G' Γ' => ∃ s23 : (List T27), s23 = os23 ∧ ∃ (As23 : Option Addr), ∃ (cs23 : Nat), ∃ (Cs23 : Chunk), L' = [(0, .slice Al0 l0.length cl0), (3, .slice As23 s23.length cs23), (4, .int .i64 y4)] ∧ G = G' ∧ Cs23 :: Γ = Γ' ∧ Ow k27 G As23 cs23 s23 Cs23) ?_ ?_
          · clear hk24
            refine WP.freezeN (i := 0) rfl (fun G25 hG26 hle27 nd28 => ?_)
            have Hz29 := Hy3.rdN (by rw [← hG26]; exact hle27) nd28
            rw [← hG26] at Hz29
            have Hm30 := Hl0.mono hle27
            skip
            refine WP.any (N := 15) (S := [⟨some 30, [3], []⟩, ⟨some 31, [5], []⟩, ⟨some 32, [30, 31], [0, 1]⟩, ⟨some 33, [32], [2]⟩, ⟨some 34, [0], []⟩, ⟨some 35, [4], []⟩, ⟨some 36, [34, 35], [4, 5]⟩, ⟨some 37, [36], [6]⟩, ⟨some 38, [37], [7]⟩, ⟨some 39, [33, 38], [3, 8]⟩, ⟨some 40, [3], []⟩, ⟨some 41, [5], []⟩, ⟨some 42, [40, 41], [10, 11]⟩, ⟨some 43, [39, 42], [9, 12]⟩, ⟨some 3, [43], [0, 1, 2, 3, 4, 5, 6, 7, 8, 9, 10, 11, 12, 13]⟩]) (kw := 15) (G0 := G25) (Γ0 := []) mo (by kernel_rfl) (fun hS => ?_)
            refine WA.pure [0, 1, 4, 5, 10, 11] [0, 3, 4, 30, 31, 34, 35, 40, 41] (m := 9) (b' := 3123) (L' := [(0, .slice Al0 l0.length cl0), (3, .slice Ay3 y3.length cy3), (4, .int .i64 y4), (30, .slice Ay3 y3.length cy3), (31, .int .i64 s8), (34, .slice Al0 l0.length cl0), (35, .int .i64 y4), (40, .slice Ay3 y3.length cy3), (41, .int .i64 s8)]) (by kernel_rfl) (NoPanic.then (NoPanic.block (NoPanic.then (NoPanic.then (NoPanic.block (NoPanic.then (NoPanic.then (NoPanic.body)))))))) Under.empty hS (by kernel_rfl) ?_
            by_cases hb31 : 0 ≤ (0 : Int) ∧ (0 : Int) ≤ s8 ∧ s8 ≤ (y3.length : Int)
            case neg => rw [if_neg hb31] at h; cases h
            rw [if_pos hb31] at h
            refine WA.tellDS [] (i := 2) (m := 8) (b' := 3127) (by kernel_rfl) (NoPanic.then (NoPanic.block (NoPanic.then (NoPanic.then (NoPanic.block (NoPanic.then (NoPanic.then (NoPanic.body)))))))) Under.empty hS (by kernel_rfl) (op := .slice 46 (.tmp 30) none (some (.tmp 31)) none) (ty := 46) (d := some 32) (g := none) (by kernel_rfl) (by kernel_rfl) (by kernel_rfl) (Hz29.slice (l := 0) (h := s8) (by kernel_rfl) rfl ⟨.i64, by kernel_rfl⟩ hb31.1 hb31.2.1 hb31.2.2 sl46) ?_
            rintro AP32 cP32 HP32
            by_cases hb33 : 0 ≤ y4 ∧ y4 < (l0.length : Int)
            case neg => rw [if_neg hb33] at h; cases h
            rw [if_pos hb33] at h
            refine WA.tellD [] (i := 6) (m := 7) (b' := 3191) (by kernel_rfl) (NoPanic.then (NoPanic.block (NoPanic.then (NoPanic.then (NoPanic.block (NoPanic.then (NoPanic.then (NoPanic.body)))))))) Under.empty hS (by kernel_rfl) (op := .indexAddr 46 (.tmp 34) (.tmp 35)) (ty := 0) (d := some 36) (g := none) (by kernel_rfl) (by kernel_rfl) (by kernel_rfl) (Tells.indexAddr (A := Al0) (n := l0.length) (c := cl0) (k := .i64) (j := y4) (by kernel_rfl) (by kernel_rfl) (Hm30.isSome hb33.1 hb33.2) hb33.1 hb33.2 sl46) ?_
            refine WA.tellDE [] (i := 7) (m := 6) (b' := 3319) (by kernel_rfl) (NoPanic.then (NoPanic.block (NoPanic.then (NoPanic.then (NoPanic.block (NoPanic.then (NoPanic.then (NoPanic.body)))))))) Under.empty hS (by kernel_rfl) (op := .load 27 (.tmp 36)) (ty := 27) (d := some 37) (g := none) (by kernel_rfl) (by kernel_rfl) (by kernel_rfl) (Hm30.load (agg := true) hb33.1 hb33.2 z27 ag27 (fun h => by cases h) (by kernel_rfl)) ?_
            rintro _ rfl
            by_cases hb34 : 0 ≤ s8 ∧ s8 ≤ (y3.length : Int) ∧ (y3.length : Int) ≤ (y3.length : Int)
            case neg => rw [if_neg hb34] at h; cases h
            rw [if_pos hb34] at h
            refine WA.tellDS [] (i := 12) (m := 5) (b' := 7415) (by kernel_rfl) (NoPanic.then (NoPanic.block (NoPanic.then (NoPanic.then (NoPanic.block (NoPanic.then (NoPanic.then (NoPanic.body)))))))) Under.empty hS (by kernel_rfl) (op := .slice 46 (.tmp 40) (some (.tmp 41)) none none) (ty := 46) (d := some 42) (g := none) (by kernel_rfl) (by kernel_rfl) (by kernel_rfl) (Hz29.slice (l := s8) (h := (y3.length : Int)) (by kernel_rfl) ⟨.i64, by kernel_rfl⟩ rfl hb34.1 hb34.2.1 hb34.2.2 sl46) ?_
            rintro AP35 cP35 HP35
            refine WA.two (i := 3) (j := 8) (m := 4) (by kernel_rfl) hS (by kernel_rfl) ?_ ?_
            · refine WO.addNil ?_
              by_cases hb36 : ([] : List T27).length + ((y3.take s8.toNat).drop (0 : Int).toNat).length ≤ 1073741824
              case neg => rw [if_neg hb36] at h; cases h
              rw [if_pos hb36] at h
              refine WO.op (b' := 7423) (by kernel_rfl) (op := .call { callee := (.builtin .append), args := #[(.const (.slice none 0 0)), (.tmp 32)], argTypes := #[46, 46] }) (ty := 46) (d := some 33) (g := none) (by kernel_rfl) (by kernel_rfl) (by kernel_rfl) (Ow.append (ys := ((y3.take s8.toNat).drop (0 : Int).toNat)) (v := .slice AP32 ((y3.take s8.toNat).drop (0 : Int).toNat).length cP32) (Ow.nil k27 G25) (i := 0) rfl (by kernel_rfl) (by kernel_rfl) HP32.src sl46 ze27 nt46 (by decide) hb36) ?_
              rintro _ _ _ ⟨rfl, AN37, cN37, CN37, rfl, HN37, rfl⟩
              refine ⟨_, _, Under.refl, Under.empty, ?_⟩
              refine WA.op (i := 8) (m := 3) (b' := 7679) (by kernel_rfl) hS (by kernel_rfl) (op := .buildSlice 46 1 #[(0, (.tmp 37))]) (ty := 46) (d := some 38) (g := none) (by kernel_rfl) (by kernel_rfl) (by kernel_rfl) (Does.new (o := .cells #[.int .i64 ((l0.getD y4.toNat z27).f0), .int .i64 ((l0.getD y4.toNat z27).f1), .int .i64 ((l0.getD y4.toNat z27).f2), .int .i64 ((l0.getD y4.toNat z27).f3), .string ((l0.getD y4.toNat z27).f4)] 27 (0, 0)) (v := fun r => .slice (some ⟨r, 0, none⟩) 1 1) (fun r => by kernel_rfl)) ?_
              rintro _ _ _ ⟨b38, rfl, rfl, rfl⟩
              refine ⟨_, _, Under.refl, Under.empty, ?_⟩
              have Ho40 : Ow k27 G25 (some ⟨b38, 0, none⟩) 1 ([(l0.getD y4.toNat z27)] : List T27) [(b38, .cells #[.int .i64 ((l0.getD y4.toNat z27).f0), .int .i64 ((l0.getD y4.toNat z27).f1), .int .i64 ((l0.getD y4.toNat z27).f2), .int .i64 ((l0.getD y4.toNat z27).f3), .string ((l0.getD y4.toNat z27).f4)] 27 (0, 0))] := Ow.lit (kd := k27) (G := G25) (b := b38) (T := 27) (xs := ([(l0.getD y4.toNat z27)] : List T27)) (cs := [.int .i64 ((l0.getD y4.toNat z27).f0), .int .i64 ((l0.getD y4.toNat z27).f1), .int .i64 ((l0.getD y4.toNat z27).f2), .int .i64 ((l0.getD y4.toNat z27).f3), .string ((l0.getD y4.toNat z27).f4)]) (.cons (x := (l0.getD y4.toNat z27)) (cs := [.int .i64 ((l0.getD y4.toNat z27).f0), .int .i64 ((l0.getD y4.toNat z27).f1), .int .i64 ((l0.getD y4.toNat z27).f2), .int .i64 ((l0.getD y4.toNat z27).f3), .string ((l0.getD y4.toNat z27).f4)]) (by exact rfl) .nil)
              by_cases hb41 : (([] : List T27) ++ ((y3.take s8.toNat).drop (0 : Int).toNat)).length + ([(l0.getD y4.toNat z27)] : List T27).length ≤ 1073741824
              case neg => rw [if_neg hb41] at h; cases h
              rw [if_pos hb41] at h
              refine WA.op (i := 9) (m := 2) (b' := 8191) (by kernel_rfl) hS (by kernel_rfl) (op := .call { callee := (.builtin .append), args := #[(.tmp 33), (.tmp 38)], argTypes := #[46, 46] }) (ty := 46) (d := some 39) (g := none) (by kernel_rfl) (by kernel_rfl) (by kernel_rfl) (Ow.append (ys := ([(l0.getD y4.toNat z27)] : List T27)) (v := .slice (some ⟨b38, 0, none⟩) ([(l0.getD y4.toNat z27)] : List T27).length 1) HN37 (i := 1) rfl (by kernel_rfl) (by kernel_rfl) (Ho40.src (i := 0) rfl) sl46 ze27 nt46 (by decide) hb41) ?_
              rintro _ _ _ ⟨rfl, AN42, cN42, CN42, rfl, HN42, rfl⟩
              refine ⟨_, _, Under.refl, Under.empty, ?_⟩
              by_cases hb43 : ((([] : List T27) ++ ((y3.take s8.toNat).drop (0 : Int).toNat)) ++ ([(l0.getD y4.toNat z27)] : List T27)).length + ((y3.take (y3.length : Int).toNat).drop s8.toNat).length ≤ 1073741824
              case neg => rw [if_neg hb43] at h; cases h
              rw [if_pos hb43] at h
              refine WA.op (i := 13) (m := 1) (b' := 16383) (by kernel_rfl) hS (by kernel_rfl) (op := .call { callee := (.builtin .append), args := #[(.tmp 39), (.tmp 42)], argTypes := #[46, 46] }) (ty := 46) (d := some 43) (g := none) (by kernel_rfl) (by kernel_rfl) (by kernel_rfl) (Ow.append (ys := ((y3.take (y3.length : Int).toNat).drop s8.toNat)) (v := .slice AP35 ((y3.take (y3.length : Int).toNat).drop s8.toNat).length cP35) HN42 (i := 1) rfl (by kernel_rfl) (by kernel_rfl) HP35.src sl46 ze27 nt46 (by decide) hb43) ?_
              rintro _ _ _ ⟨rfl, AN44, cN44, CN44, rfl, HN44, rfl⟩
              refine ⟨_, _, Under.refl, Under.empty, ?_⟩
              refine WA.pure [14] [0, 3, 4] (m := 0) (b' := 32767) (L' := [(0, .slice Al0 l0.length cl0), (3, .slice AN44 (((([] : List T27) ++ ((y3.take s8.toNat).drop (0 : Int).toNat)) ++ ([(l0.getD y4.toNat z27)] : List T27)) ++ ((y3.take (y3.length : Int).toNat).drop s8.toNat)).length cN44), (4, .int .i64 y4)]) (by kernel_rfl) (NoPanic.then (NoPanic.block (NoPanic.then (NoPanic.then (NoPanic.block (NoPanic.then (NoPanic.then (NoPanic.body)))))))) Under.empty hS (by kernel_rfl) ?_
              refine WA.done hS (by kernel_rfl) ?_
              refine QP.pick [0, 3, 4] ?_
              refine QP.dropAt 2 ?_
              refine QP.dropAt 0 ?_
              refine QP.lower hle27 ?_
              refine QP.pick [0, 3, 4] ?_
              exact QP.meet ⟨_, Option.some.inj h, AN44, cN44, CN44, rfl, rfl, rfl, (HN44.flat (kFlat_flat _ _ _ _))⟩
            · refine WO.op (b' := 7671) (by kernel_rfl) (op := .buildSlice 46 1 #[(0, (.tmp 37))]) (ty := 46) (d := some 38) (g := none) (by kernel_rfl) (by kernel_rfl) (by kernel_rfl) (Does.new (o := .cells #[.int .i64 ((l0.getD y4.toNat z27).f0), .int .i64 ((l0.getD y4.toNat z27).f1), .int .i64 ((l0.getD y4.toNat z27).f2), .int .i64 ((l0.getD y4.toNat z27).f3), .string ((l0.getD y4.toNat z27).f4)] 27 (0, 0)) (v := fun r => .slice (some ⟨r, 0, none⟩) 1 1) (fun r => by kernel_rfl)) ?_
              rintro _ _ _ ⟨b36, rfl, rfl, rfl⟩
              refine ⟨_, _, Under.refl, Under.empty, ?_⟩
              have Ho38 : Ow k27 G25 (some ⟨b36, 0, none⟩) 1 ([(l0.getD y4.toNat z27)] : List T27) [(b36, .cells #[.int .i64 ((l0.getD y4.toNat z27).f0), .int .i64 ((l0.getD y4.toNat z27).f1), .int .i64 ((l0.getD y4.toNat z27).f2), .int .i64 ((l0.getD y4.toNat z27).f3), .string ((l0.getD y4.toNat z27).f4)] 27 (0, 0))] := Ow.lit (kd := k27) (G := G25) (b := b36) (T := 27) (xs := ([(l0.getD y4.toNat z27)] : List T27)) (cs := [.int .i64 ((l0.getD y4.toNat z27).f0), .int .i64 ((l0.getD y4.toNat z27).f1), .int .i64 ((l0.getD y4.toNat z27).f2), .int .i64 ((l0.getD y4.toNat z27).f3), .string ((l0.getD y4.toNat z27).f4)]) (.cons (x := (l0.getD y4.toNat z27)) (cs := [.int .i64 ((l0.getD y4.toNat z27).f0), .int .i64 ((l0.getD y4.toNat z27).f1), .int .i64 ((l0.getD y4.toNat z27).f2), .int .i64 ((l0.getD y4.toNat z27).f3), .string ((l0.getD y4.toNat z27).f4)]) (by exact rfl) .nil)
              refine WA.addNil ?_
              by_cases hb39 : ([] : List T27).length + ((y3.take s8.toNat).drop (0 : Int).toNat).length ≤ 1073741824
              case neg => rw [if_neg hb39] at h; cases h
              rw [if_pos hb39] at h
              refine WA.op (i := 3) (m := 3) (b' := 7679) (by kernel_rfl) hS (by kernel_rfl) (op := .call { callee := (.builtin .append), args := #[(.const (.slice none 0 0)), (.tmp 32)], argTypes := #[46, 46] }) (ty := 46) (d := some 33) (g := none) (by kernel_rfl) (by kernel_rfl) (by kernel_rfl) (Ow.append (ys := ((y3.take s8.toNat).drop (0 : Int).toNat)) (v := .slice AP32 ((y3.take s8.toNat).drop (0 : Int).toNat).length cP32) (Ow.nil k27 G25) (i := 0) rfl (by kernel_rfl) (by kernel_rfl) HP32.src sl46 ze27 nt46 (by decide) hb39) ?_
              rintro _ _ _ ⟨rfl, AN40, cN40, CN40, rfl, HN40, rfl⟩
              refine ⟨_, _, Under.refl, Under.empty, ?_⟩
              by_cases hb41 : (([] : List T27) ++ ((y3.take s8.toNat).drop (0 : Int).toNat)).length + ([(l0.getD y4.toNat z27)] : List T27).length ≤ 1073741824
              case neg => rw [if_neg hb41] at h; cases h
              rw [if_pos hb41] at h
              refine WA.op (i := 9) (m := 2) (b' := 8191) (by kernel_rfl) hS (by kernel_rfl) (op := .call { callee := (.builtin .append), args := #[(.tmp 33), (.tmp 38)], argTypes := #[46, 46] }) (ty := 46) (d := some 39) (g := none) (by kernel_rfl) (by kernel_rfl) (by kernel_rfl) (Ow.append (ys := ([(l0.getD y4.toNat z27)] : List T27)) (v := .slice (some ⟨b36, 0, none⟩) ([(l0.getD y4.toNat z27)] : List T27).length 1) HN40 (i := 0) rfl (by kernel_rfl) (by kernel_rfl) (Ho38.src (i := 1) rfl) sl46 ze27 nt46 (by decide) hb41) ?_
              rintro _ _ _ ⟨rfl, AN42, cN42, CN42, rfl, HN42, rfl⟩
              refine ⟨_, _, Under.refl, Under.empty, ?_⟩
              by_cases hb43 : ((([] : List T27) ++ ((y3.take s8.toNat).drop (0 : Int).toNat)) ++ ([(l0.getD y4.toNat z27)] : List T27)).length + ((y3.take (y3.length : Int).toNat).drop s8.toNat).length ≤ 1073741824
              case neg => rw [if_neg hb43] at h; cases h
              rw [if_pos hb43] at h
              refine WA.op (i := 13) (m := 1) (b' := 16383) (by kernel_rfl) hS (by kernel_rfl) (op := .call { callee := (.builtin .append), args := #[(.tmp 39), (.tmp 42)], argTypes := #[46, 46] }) (ty := 46) (d := some 43) (g := none) (by kernel_rfl) (by kernel_rfl) (by kernel_rfl) (Ow.append (ys := ((y3.take (y3.length : Int).toNat).drop s8.toNat)) (v := .slice AP35 ((y3.take (y3.length : Int).toNat).drop s8.toNat).length cP35) HN42 (i := 0) rfl (by kernel_rfl) (by kernel_rfl) HP35.src sl46 ze27 nt46 (by decide) hb43) ?_
              rintro _ _ _ ⟨rfl, AN44, cN44, CN44, rfl, HN44, rfl⟩
              refine ⟨_, _, Under.refl, Under.empty, ?_⟩
              refine WA.pure [14] [0, 3, 4] (m := 0) (b' := 32767) (L' := [(0, .slice Al0 l0.length cl0), (3, .slice AN44 (((([] : List T27) ++ ((y3.take s8.toNat).drop (0 : Int).toNat)) ++ ([(l0.getD y4.toNat z27)] : List T27)) ++ ((y3.take (y3.length : Int).toNat).drop s8.toNat)).length cN44), (4, .int .i64 y4)]) (by kernel_rfl) (NoPanic.then (NoPanic.block (NoPanic.then (NoPanic.then (NoPanic.block (NoPanic.then (NoPanic.then (NoPanic.body)))))))) Under.empty hS (by kernel_rfl) ?_
              refine WA.done hS (by kernel_rfl) ?_
              refine QP.pick [0, 3, 4] ?_
              refine QP.dropAt 2 ?_
              refine QP.dropAt 1 ?_
              refine QP.lower hle27 ?_
              refine QP.pick [0, 3, 4] ?_
              exact QP.meet ⟨_, Option.some.inj h, AN44, cN44, CN44, rfl, rfl, rfl, (HN44.flat (kFlat_flat _ _ _ _))⟩
          · rintro _ _ _ ⟨s23, rfl, As23, cs23, Cs23, rfl, rfl, rfl, Hs23⟩
            clear h
            replace h := hk24
            refine QP.blockN ?_
            refine QP.next ?_
            refine WP.pick [0, 3, 4] ?_
            refine WP.regionP [0, 3, 4] (L' := [(0, .slice Al0 l0.length cl0), (3, .slice As23 s23.length cs23), (4, .int .i64 (IntKind.i64.wrap (y4 + 1)))]) (by kernel_rfl) ?_
            refine QP.pick [0, 3, 4] ?_
            exact QP.meet ⟨kn6, Nat.lt_succ_self _, s23, (IntKind.i64.wrap (y4 + 1)), h, As23, cs23, Cs23, rfl, rfl, rfl, Hs23⟩
      · replace hc := of_decide_eq_false hc
        rw [if_neg hc] at h
        have hc7 := hc
        clear hc
        refine WP.exit ?_
        refine QP.thenE ?_
        refine QP.thenE ?_
        refine QP.blockE ?_
        refine QP.pick [3] ?_
        exact QP.meet ⟨_, Option.some.inj h, Ay3, cy3, Cy3, rfl, rfl, rfl, Hy3⟩
  · rintro _ _ _ ⟨s1, rfl, As1, cs1, Cs1, rfl, rfl, rfl, Hs1⟩
    clear h
    replace h := hk2
    refine QP.next ?_
    refine WP.pick [3] ?_
    refine WP.seqP [2] (L' := [(2, .slice As1 s1.length cs1)]) (by kernel_rfl) ?_
    refine WP.ret ?_
    obtain rfl := Option.some.inj h
    exact QP.returned [2] [.slice As1 s1.length cs1] _ (by kernel_rfl) (by kernel_rfl) (by kernel_rfl) (fun W hI => ⟨_, _, _, rfl, ⟨As1, cs1, Cs1, rfl, Hs1, rfl, rfl⟩, hI⟩)

/-! ### grapevine/grapevinelaw0.KeptRecords: function 31 -/
def grapevinelaw0_KeptRecords_l0 (v3 : List T27) : Nat → Int → Option (Sum Bool Unit)
  | 0, _ => none
  | k + 1, y8 => (if y8 < 3 then (if 0 ≤ y8 ∧ y8 < (v3.length : Int) then (if ¬ (v3.getD y8.toNat z27) = (⟨0, 0, 0, 0, (⟨#[114, 111, 111, 109]⟩ : ByteArray)⟩ : T27) then some (Sum.inl false) else grapevinelaw0_KeptRecords_l0 v3 k (IntKind.i64.wrap (y8 + 1))) else none) else some (Sum.inr ()))
def grapevinelaw0_KeptRecords (k : Nat) (l0 : List T27) (l1 : List T27) : Option Bool := (if 0 ≤ (l0.length : Int) ∧ (l0.length : Int) ≤ (IntKind.i64.wrap ((l0.length : Int) + 3)) ∧ (IntKind.i64.wrap ((l0.length : Int) + 3)) ≤ ((l0 ++ ([(⟨0, 0, 0, 0, (⟨#[114, 111, 111, 109]⟩ : ByteArray)⟩ : T27), (⟨0, 0, 0, 0, (⟨#[114, 111, 111, 109]⟩ : ByteArray)⟩ : T27), (⟨0, 0, 0, 0, (⟨#[114, 111, 111, 109]⟩ : ByteArray)⟩ : T27)] : List T27)).length : Int) then ((some (((l0 ++ ([(⟨0, 0, 0, 0, (⟨#[114, 111, 111, 109]⟩ : ByteArray)⟩ : T27), (⟨0, 0, 0, 0, (⟨#[114, 111, 111, 109]⟩ : ByteArray)⟩ : T27), (⟨0, 0, 0, 0, (⟨#[114, 111, 111, 109]⟩ : ByteArray)⟩ : T27)] : List T27)).take (IntKind.i64.wrap ((l0.length : Int) + 3)).toNat).drop (l0.length : Int).toNat)).bind fun v3 => ((grapevinelaw0_KeptRecords_l0 v3 k 0).bind fun os6 => match os6 with | Sum.inl r => some r | Sum.inr s6 => ((grapevinelaw0_SameRecords k l0 l1).bind fun t14 => some t14))) else none)
set_option maxHeartbeats 4000000 in
theorem grapevinelaw0_KeptRecords_calls {B : World} {G : GMap} {Γ : List Chunk} {W : World} (k : Nat) (l0 : List T27) (l1 : List T27) (Al0 : Option Addr) (cl0 : Nat) (Hl0 : Rd k27 G Al0 cl0 l0) (Hr0 : Rd k27 G Al0 cl0 (l0 ++ ([(⟨0, 0, 0, 0, (⟨#[114, 111, 111, 109]⟩ : ByteArray)⟩ : T27), (⟨0, 0, 0, 0, (⟨#[114, 111, 111, 109]⟩ : ByteArray)⟩ : T27), (⟨0, 0, 0, 0, (⟨#[114, 111, 111, 109]⟩ : ByteArray)⟩ : T27)] : List T27))) (Al1 : Option Addr) (cl1 : Nat) (Hl1 : Rd k27 G Al1 cl1 l1) (r : Bool) (h : grapevinelaw0_KeptRecords k l0 l1 = some r) (hI : Inv B G (Γ) W) :
    Calls Tryd.prog 31 [.slice Al0 l0.length cl0, .slice Al1 l1.length cl1].toArray W (Ret B (fun v G' Γ' => v = .bool r ∧ G = G' ∧ Γ = Γ')) := by
  refine calls_WP (Γ := Γ) (G := G) (B := B) Tryd.func31 rfl (by kernel_rfl) ?_ hI
  clear hI
  unfold grapevinelaw0_KeptRecords at h
  refine WP.seqP [0, 1] (L' := [(0, .slice Al0 l0.length cl0), (1, .slice Al1 l1.length cl1)]) (by kernel_rfl) ?_
  refine WP.seqR ?_
  refine WL.pure 0 6 [0, 1, 7, 9, 12] (L' := [(0, .slice Al0 l0.length cl0), (1, .slice Al1 l1.length cl1), (7, .slice Al0 l0.length cl0), (9, .int .i64 (l0.length : Int)), (12, .int .i64 (IntKind.i64.wrap ((l0.length : Int) + 3)))]) (by kernel_rfl) (by decide) ?_
  by_cases hb1 : 0 ≤ (l0.length : Int) ∧ (l0.length : Int) ≤ (IntKind.i64.wrap ((l0.length : Int) + 3)) ∧ (IntKind.i64.wrap ((l0.length : Int) + 3)) ≤ ((l0 ++ ([(⟨0, 0, 0, 0, (⟨#[114, 111, 111, 109]⟩ : ByteArray)⟩ : T27), (⟨0, 0, 0, 0, (⟨#[114, 111, 111, 109]⟩ : ByteArray)⟩ : T27), (⟨0, 0, 0, 0, (⟨#[114, 111, 111, 109]⟩ : ByteArray)⟩ : T27)] : List T27)).length : Int)
  case neg => rw [if_neg hb1] at h; cases h
  rw [if_pos hb1] at h
  refine WL.tellS (op := .slice 46 (.tmp 7) (some (.tmp 9)) (some (.tmp 12)) none) (ty := 46) (d := some 13) (g := none) (by kernel_rfl) (by kernel_rfl) (by kernel_rfl) (Hr0.sliceR (m := l0.length) (l := (l0.length : Int)) (h := (IntKind.i64.wrap ((l0.length : Int) + 3))) (by kernel_rfl) ⟨.i64, by kernel_rfl⟩ ⟨.i64, by kernel_rfl⟩ hb1.1 hb1.2.1 hb1.2.2 sl46) ?_
  rintro AP2 cP2 HP2
  refine WL.restQ 7 [0, 1, 5] (L' := [(0, .slice Al0 l0.length cl0), (1, .slice Al1 l1.length cl1), (5, .slice AP2 (((l0 ++ ([(⟨0, 0, 0, 0, (⟨#[114, 111, 111, 109]⟩ : ByteArray)⟩ : T27), (⟨0, 0, 0, 0, (⟨#[114, 111, 111, 109]⟩ : ByteArray)⟩ : T27), (⟨0, 0, 0, 0, (⟨#[114, 111, 111, 109]⟩ : ByteArray)⟩ : T27)] : List T27)).take (IntKind.i64.wrap ((l0.length : Int) + 3)).toNat).drop (l0.length : Int).toNat).length cP2)]) (by kernel_rfl) ?_
  obtain ⟨v3, hv4, h⟩ := Option.bind_eq_some_iff.1 h
  replace hv4 := Option.some.inj hv4
  have Hn5 := HP2
  rw [hv4] at Hn5
  refine WP.reput 5 (v := .slice AP2 (((l0 ++ ([(⟨0, 0, 0, 0, (⟨#[114, 111, 111, 109]⟩ : ByteArray)⟩ : T27), (⟨0, 0, 0, 0, (⟨#[114, 111, 111, 109]⟩ : ByteArray)⟩ : T27), (⟨0, 0, 0, 0, (⟨#[114, 111, 111, 109]⟩ : ByteArray)⟩ : T27)] : List T27)).take (IntKind.i64.wrap ((l0.length : Int) + 3)).toNat).drop (l0.length : Int).toNat).length cP2) (v' := .slice AP2 v3.length cP2) (by kernel_rfl) (by subst hv4; rfl) ?_
  refine WP.pick [0, 1, 5] ?_
  refine WP.seq ?_
  refine WP.seqP [0, 1, 5, 6] (L' := [(0, .slice Al0 l0.length cl0), (1, .slice Al1 l1.length cl1), (5, .slice AP2 v3.length cP2), (6, .int .i64 0)]) (by kernel_rfl) ?_
  rw [Option.bind_eq_some_iff] at h
  obtain ⟨os6, h, hk7⟩ := h
  refine WP.cutQ (fun L' G' Γ' => ∃ s6 : Unit, Sum.inr s6 = os6 ∧ L' = [(0, .slice Al0 l0.length cl0), (1, .slice Al1 l1.length cl1)] ∧ G = G' ∧ Γ = Γ') ?_ ?_
  · skip
    refine WP.block ?_
    refine WP.pick [0, 1, 5, 6] ?_
    refine WP.loopF (fun kn9 L' G' Γ' => ∃ (y8 : Int), grapevinelaw0_KeptRecords_l0 v3 kn9 y8 = some os6 ∧ L' = [(0, .slice Al0 l0.length cl0), (1, .slice Al1 l1.length cl1), (5, .slice AP2 v3.length cP2), (6, .int .i64 y8)] ∧ G = G' ∧ Γ = Γ') ?_ k ⟨0, h, rfl, rfl, rfl⟩
    clear h
    rintro kn10 _ _ _ ⟨y8, h, rfl, rfl, rfl⟩
    cases kn10 with
    | zero => exact absurd h (by simp [grapevinelaw0_KeptRecords_l0])
    | succ kn10 =>
      simp only [grapevinelaw0_KeptRecords_l0] at h
      refine WP.seq ?_
      refine WP.seqP [0, 1, 5, 6, 15] (L' := [(0, .slice Al0 l0.length cl0), (1, .slice Al1 l1.length cl1), (5, .slice AP2 v3.length cP2), (6, .int .i64 y8), (15, .bool (decide (y8 < 3)))]) (by kernel_rfl) ?_
      refine WP.cond (b := decide (y8 < 3)) (by kernel_rfl) (fun hc => ?_) (fun hc => ?_)
      · replace hc := of_decide_eq_true hc
        rw [if_pos hc] at h
        have hc11 := hc
        clear hc
        refine WP.skip ?_
        refine QP.next ?_
        refine WP.pick [0, 1, 5, 6] ?_
        refine WP.seq ?_
        refine WP.block ?_
        refine WP.seqR ?_
        refine WL.pure 0 2 [0, 1, 5, 6, 18, 19] (L' := [(0, .slice Al0 l0.length cl0), (1, .slice Al1 l1.length cl1), (5, .slice AP2 v3.length cP2), (6, .int .i64 y8), (18, .slice AP2 v3.length cP2), (19, .int .i64 y8)]) (by kernel_rfl) (by decide) ?_
        by_cases hb12 : 0 ≤ y8 ∧ y8 < (v3.length : Int)
        case neg => rw [if_neg hb12] at h; cases h
        rw [if_pos hb12] at h
        refine WL.tell (op := .indexAddr 46 (.tmp 18) (.tmp 19)) (ty := 0) (d := some 20) (g := none) (by kernel_rfl) (by kernel_rfl) (by kernel_rfl) (Tells.indexAddr (A := AP2) (n := v3.length) (c := cP2) (k := .i64) (j := y8) (by kernel_rfl) (by kernel_rfl) (Hn5.isSome hb12.1 hb12.2) hb12.1 hb12.2 sl46) ?_
        refine WL.tellE (op := .load 27 (.tmp 20)) (ty := 27) (d := some 21) (g := none) (by kernel_rfl) (by kernel_rfl) (by kernel_rfl) (Hn5.load (agg := true) hb12.1 hb12.2 z27 ag27 (fun h => by cases h) (by kernel_rfl)) ?_
        rintro _ rfl
        refine WL.pure 4 5 [0, 1, 5, 6, 21, 22] (L' := [(0, .slice Al0 l0.length cl0), (1, .slice Al1 l1.length cl1), (5, .slice AP2 v3.length cP2), (6, .int .i64 y8), (21, .agg #[.int .i64 ((v3.getD y8.toNat z27).f0), .int .i64 ((v3.getD y8.toNat z27).f1), .int .i64 ((v3.getD y8.toNat z27).f2), .int .i64 ((v3.getD y8.toNat z27).f3), .string ((v3.getD y8.toNat z27).f4)]), (22, .agg #[.int .i64 0, .int .i64 0, .int .i64 0, .int .i64 0, .string (⟨#[114, 111, 111, 109]⟩ : ByteArray)])]) (by kernel_rfl) (by decide) ?_
        refine WL.tell (op := .binOp .neq 27 (.tmp 21) (.tmp 22) 27) (ty := 4) (d := some 23) (g := none) (by kernel_rfl) (by kernel_rfl) (by kernel_rfl) (Tells.neAgg (xs := #[.int .i64 ((v3.getD y8.toNat z27).f0), .int .i64 ((v3.getD y8.toNat z27).f1), .int .i64 ((v3.getD y8.toNat z27).f2), .int .i64 ((v3.getD y8.toNat z27).f3), .string ((v3.getD y8.toNat z27).f4)]) (ys := #[.int .i64 0, .int .i64 0, .int .i64 0, .int .i64 0, .string (⟨#[114, 111, 111, 109]⟩ : ByteArray)]) (ls := [.int ((v3.getD y8.toNat z27).f0) 0, .int ((v3.getD y8.toNat z27).f1) 0, .int ((v3.getD y8.toNat z27).f2) 0, .int ((v3.getD y8.toNat z27).f3) 0, .str ((v3.getD y8.toNat z27).f4) (⟨#[114, 111, 111, 109]⟩ : ByteArray)]) (by kernel_rfl) (by kernel_rfl) (by kernel_rfl) eg27) ?_
        refine WL.reput 23 (v := .bool (!([.int ((v3.getD y8.toNat z27).f0) 0, .int ((v3.getD y8.toNat z27).f1) 0, .int ((v3.getD y8.toNat z27).f2) 0, .int ((v3.getD y8.toNat z27).f3) 0, .str ((v3.getD y8.toNat z27).f4) (⟨#[114, 111, 111, 109]⟩ : ByteArray)].all Lf.ok))) (v' := .bool (!decide ((v3.getD y8.toNat z27) = (⟨0, 0, 0, 0, (⟨#[114, 111, 111, 109]⟩ : ByteArray)⟩ : T27)))) (by kernel_rfl) (by exact (congrArg (fun z => Value.bool (!z)) (eqT27 (v3.getD y8.toNat z27) (⟨0, 0, 0, 0, (⟨#[114, 111, 111, 109]⟩ : ByteArray)⟩ : T27)))) ?_
        refine WL.restQ 6 [0, 1, 5, 6, 23] (L' := [(0, .slice Al0 l0.length cl0), (1, .slice Al1 l1.length cl1), (5, .slice AP2 v3.length cP2), (6, .int .i64 y8), (23, .bool (!decide ((v3.getD y8.toNat z27) = (⟨0, 0, 0, 0, (⟨#[114, 111, 111, 109]⟩ : ByteArray)⟩ : T27))))]) (by kernel_rfl) ?_
        refine WP.cond (b := (!decide ((v3.getD y8.toNat z27) = (⟨0, 0, 0, 0, (⟨#[114, 111, 111, 109]⟩ : ByteArray)⟩ : T27)))) (by kernel_rfl) (fun hc => ?_) (fun hc => ?_)
        · replace hc := (nd_true hc)
          rw [if_pos hc] at h
          have hc13 := hc
          clear hc
          refine WP.seqP [4] (L' := [(4, .bool false)]) (by kernel_rfl) ?_
          refine WP.ret ?_
          refine QP.blockR ?_
          refine QP.thenR ?_
          refine QP.thenR ?_
          refine QP.blockR ?_
          refine QP.thenR ?_
          refine QP.thenR ?_
          obtain rfl := Option.some.inj h
          obtain rfl := Option.some.inj (show some _ = some _ from hk7)
          exact QP.returned [4] [.bool false] _ (by kernel_rfl) (by kernel_rfl) (by kernel_rfl) (fun W hI => ⟨_, _, _, rfl, ⟨rfl, rfl, rfl⟩, hI⟩)
        · replace hc := (nd_false hc)
          rw [if_neg hc] at h
          have hc13 := hc
          clear hc
          refine WP.skip ?_
          refine QP.blockN ?_
          refine QP.next ?_
          refine WP.pick [0, 1, 5, 6] ?_
          refine WP.regionP [0, 1, 5, 6] (L' := [(0, .slice Al0 l0.length cl0), (1, .slice Al1 l1.length cl1), (5, .slice AP2 v3.length cP2), (6, .int .i64 (IntKind.i64.wrap (y8 + 1)))]) (by kernel_rfl) ?_
          refine QP.pick [0, 1, 5, 6] ?_
          exact QP.meet ⟨kn10, Nat.lt_succ_self _, (IntKind.i64.wrap (y8 + 1)), h, rfl, rfl, rfl⟩
      · replace hc := of_decide_eq_false hc
        rw [if_neg hc] at h
        have hc11 := hc
        clear hc
        refine WP.exit ?_
        refine QP.thenE ?_
        refine QP.thenE ?_
        refine QP.blockE ?_
        refine QP.pick [0, 1] ?_
        exact QP.meet ⟨_, Option.some.inj h, rfl, rfl, rfl⟩
  · rintro _ _ _ ⟨s6, rfl, rfl, rfl, rfl⟩
    clear h
    replace h := hk7
    dsimp only at h
    refine QP.next ?_
    refine WP.pick [0, 1] ?_
    refine WP.seqR ?_
    refine WL.pure 0 2 [24, 25] (L' := [(24, .slice Al0 l0.length cl0), (25, .slice Al1 l1.length cl1)]) (by kernel_rfl) (by decide) ?_
    rw [Option.bind_eq_some_iff] at h
    obtain ⟨t14, ht15, h⟩ := h
    refine WL.op (op := .call { callee := (.value (.func 29)), args := #[(.tmp 24), (.tmp 25)], argTypes := #[46, 46] }) (ty := 4) (d := some 26) (g := none) (by kernel_rfl) (by kernel_rfl) (by kernel_rfl) (Does.call (f := 29) (args := [.slice Al0 l0.length cl0, .slice Al1 l1.length cl1]) (by kernel_rfl) (fun W hI => (grapevinelaw0_SameRecords_calls k l0 l1 Al0 cl0 Hl0 Al1 cl1 Hl1 t14 ht15 hI))) ?_
    rintro _ _ _ ⟨rfl, rfl, rfl⟩
    refine WL.restQ 3 [4] (L' := [(4, .bool t14)]) (by kernel_rfl) ?_
    refine WP.ret ?_
    obtain rfl := Option.some.inj h
    exact QP.returned [4] [.bool t14] _ (by kernel_rfl) (by kernel_rfl) (by kernel_rfl) (fun W hI => ⟨_, _, _, rfl, ⟨rfl, rfl, rfl⟩, hI⟩)

/-! ### grapevine/grapevineref4.Same: function 33 -/
def grapevineref4_Same (a0 : T27) (a1 : T27) : Option Bool := ((if (⟨a0.f0, a0.f1⟩ : T23) = (⟨a1.f0, a1.f1⟩ : T23) then (if (⟨a0.f2, a0.f3⟩ : T25) = (⟨a1.f2, a1.f3⟩ : T25) then some (a0.f4.toList == a1.f4.toList) else some false) else some false).bind fun s3 => some s3)
set_option maxHeartbeats 4000000 in
theorem grapevineref4_Same_calls {B : World} {G : GMap} {Γ : List Chunk} {W : World} (a0 : T27) (a1 : T27) (r : Bool) (h : grapevineref4_Same a0 a1 = some r) (hI : Inv B G (Γ) W) :
    Calls Tryd.prog 33 [.agg #[.int .i64 a0.f0, .int .i64 a0.f1, .int .i64 a0.f2, .int .i64 a0.f3, .string a0.f4], .agg #[.int .i64 a1.f0, .int .i64 a1.f1, .int .i64 a1.f2, .int .i64 a1.f3, .string a1.f4]].toArray W (Ret B (fun v G' Γ' => v = .bool r ∧ G = G' ∧ Γ = Γ')) := by
  refine calls_WP (Γ := Γ) (G := G) (B := B) Tryd.func33 rfl (by kernel_rfl) ?_ hI
  clear hI
  unfold grapevineref4_Same at h
  refine WP.seqR ?_
  refine WL.op (op := .box 27 (.tmp 0)) (ty := 0) (d := some 2) (g := none) (by kernel_rfl) (by kernel_rfl) (by kernel_rfl) (Does.new (o := .cells #[.int .i64 a0.f0, .int .i64 a0.f1, .int .i64 a0.f2, .int .i64 a0.f3, .string a0.f4] 27 (0, 0)) (v := fun r => .pointer (some ⟨r, 0, none⟩)) (fun r => by kernel_rfl)) ?_
  rintro _ _ _ ⟨b1, rfl, rfl, rfl⟩
  refine WL.op (op := .box 27 (.tmp 1)) (ty := 0) (d := some 3) (g := none) (by kernel_rfl) (by kernel_rfl) (by kernel_rfl) (Does.new (o := .cells #[.int .i64 a1.f0, .int .i64 a1.f1, .int .i64 a1.f2, .int .i64 a1.f3, .string a1.f4] 27 (0, 0)) (v := fun r => .pointer (some ⟨r, 0, none⟩)) (fun r => by kernel_rfl)) ?_
  rintro _ _ _ ⟨b2, rfl, rfl, rfl⟩
  refine WL.restQ 2 [2, 3] (L' := [(2, .pointer (some ⟨b1, 0, none⟩)), (3, .pointer (some ⟨b2, 0, none⟩))]) (by kernel_rfl) ?_
  rw [Option.bind_eq_some_iff] at h
  obtain ⟨os3, h, hk4⟩ := h
  refine WP.cut (fun L' G' Γ' => ∃ s3 : Bool, s3 = os3 ∧ L' = [(4, .bool s3)] ∧ G = G' ∧ Γ = Γ') ?_ ?_
  · clear hk4
    refine WP.region ?_
    refine WL.pure 0 1 [2, 3, 5] (L' := [(2, .pointer (some ⟨b1, 0, none⟩)), (3, .pointer (some ⟨b2, 0, none⟩)), (5, .pointer (some ⟨b1, 0, none⟩))]) (by kernel_rfl) (by decide) ?_
    refine WL.tell (op := .load 23 (.tmp 5)) (ty := 23) (d := some 6) (g := none) (by kernel_rfl) (by kernel_rfl) (by kernel_rfl) (Tells.load_box (i := 1) (b := b1) (o := 0) (agg := true) (by rfl) ag23 (by kernel_rfl) (fun h => by cases h) (Nat.le_of_ble_eq_true rfl) (v := .agg #[.int .i64 a0.f0, .int .i64 a0.f1]) (by kernel_rfl)) ?_
    refine WL.pure 2 3 [2, 3, 6, 7] (L' := [(2, .pointer (some ⟨b1, 0, none⟩)), (3, .pointer (some ⟨b2, 0, none⟩)), (6, .agg #[.int .i64 a0.f0, .int .i64 a0.f1]), (7, .pointer (some ⟨b2, 0, none⟩))]) (by kernel_rfl) (by decide) ?_
    refine WL.tell (op := .load 23 (.tmp 7)) (ty := 23) (d := some 8) (g := none) (by kernel_rfl) (by kernel_rfl) (by kernel_rfl) (Tells.load_box (i := 0) (b := b2) (o := 0) (agg := true) (by rfl) ag23 (by kernel_rfl) (fun h => by cases h) (Nat.le_of_ble_eq_true rfl) (v := .agg #[.int .i64 a1.f0, .int .i64 a1.f1]) (by kernel_rfl)) ?_
    refine WL.tell (op := .binOp .eql 23 (.tmp 6) (.tmp 8) 23) (ty := 4) (d := some 9) (g := none) (by kernel_rfl) (by kernel_rfl) (by kernel_rfl) (Tells.eqAgg (xs := #[.int .i64 a0.f0, .int .i64 a0.f1]) (ys := #[.int .i64 a1.f0, .int .i64 a1.f1]) (ls := [.int a0.f0 a1.f0, .int a0.f1 a1.f1]) (by kernel_rfl) (by kernel_rfl) (by kernel_rfl) eg23) ?_
    refine WL.reput 9 (v := .bool ([.int a0.f0 a1.f0, .int a0.f1 a1.f1].all Lf.ok)) (v' := .bool (decide ((⟨a0.f0, a0.f1⟩ : T23) = (⟨a1.f0, a1.f1⟩ : T23)))) (by kernel_rfl) (by exact (congrArg Value.bool (eqT23 (⟨a0.f0, a0.f1⟩ : T23) (⟨a1.f0, a1.f1⟩ : T23)))) ?_
    refine WL.pure 5 6 [2, 3, 10] (L' := [(2, .pointer (some ⟨b1, 0, none⟩)), (3, .pointer (some ⟨b2, 0, none⟩)), (10, .bool (decide ((⟨a0.f0, a0.f1⟩ : T23) = (⟨a1.f0, a1.f1⟩ : T23))))]) (by kernel_rfl) (by decide) ?_
    refine WL.split 10 (b := decide ((⟨a0.f0, a0.f1⟩ : T23) = (⟨a1.f0, a1.f1⟩ : T23))) (by kernel_rfl) (fun hc => ?_) (fun hc => ?_)
    · replace hc := of_decide_eq_true hc
      rw [if_pos hc] at h
      have hc5 := hc
      clear hc
      refine WL.pure 6 7 [2, 3, 10, 11] (L' := [(2, .pointer (some ⟨b1, 0, none⟩)), (3, .pointer (some ⟨b2, 0, none⟩)), (10, .bool true), (11, .pointer (some ⟨b1, 2, none⟩))]) (by kernel_rfl) (by decide) ?_
      refine WL.tell (op := .load 25 (.tmp 11)) (ty := 25) (d := some 12) (g := some (5, true)) (by kernel_rfl) (by kernel_rfl) (by kernel_rfl) (Tells.load_box (i := 1) (b := b1) (o := 2) (agg := true) (by rfl) ag25 (by kernel_rfl) (fun h => by cases h) (Nat.le_of_ble_eq_true rfl) (v := .agg #[.int .i64 a0.f2, .int .i64 a0.f3]) (by kernel_rfl)) ?_
      refine WL.pure 8 9 [2, 3, 10, 12, 13] (L' := [(2, .pointer (some ⟨b1, 0, none⟩)), (3, .pointer (some ⟨b2, 0, none⟩)), (10, .bool true), (12, .agg #[.int .i64 a0.f2, .int .i64 a0.f3]), (13, .pointer (some ⟨b2, 2, none⟩))]) (by kernel_rfl) (by decide) ?_
      refine WL.tell (op := .load 25 (.tmp 13)) (ty := 25) (d := some 14) (g := some (5, true)) (by kernel_rfl) (by kernel_rfl) (by kernel_rfl) (Tells.load_box (i := 0) (b := b2) (o := 2) (agg := true) (by rfl) ag25 (by kernel_rfl) (fun h => by cases h) (Nat.le_of_ble_eq_true rfl) (v := .agg #[.int .i64 a1.f2, .int .i64 a1.f3]) (by kernel_rfl)) ?_
      refine WL.tell (op := .binOp .eql 25 (.tmp 12) (.tmp 14) 25) (ty := 4) (d := some 15) (g := some (5, true)) (by kernel_rfl) (by kernel_rfl) (by kernel_rfl) (Tells.eqAgg (xs := #[.int .i64 a0.f2, .int .i64 a0.f3]) (ys := #[.int .i64 a1.f2, .int .i64 a1.f3]) (ls := [.int a0.f2 a1.f2, .int a0.f3 a1.f3]) (by kernel_rfl) (by kernel_rfl) (by kernel_rfl) eg25) ?_
      refine WL.reput 15 (v := .bool ([.int a0.f2 a1.f2, .int a0.f3 a1.f3].all Lf.ok)) (v' := .bool (decide ((⟨a0.f2, a0.f3⟩ : T25) = (⟨a1.f2, a1.f3⟩ : T25)))) (by kernel_rfl) (by exact (congrArg Value.bool (eqT25 (⟨a0.f2, a0.f3⟩ : T25) (⟨a1.f2, a1.f3⟩ : T25)))) ?_
      refine WL.pure 11 13 [2, 3, 17] (L' := [(2, .pointer (some ⟨b1, 0, none⟩)), (3, .pointer (some ⟨b2, 0, none⟩)), (17, .bool (decide ((⟨a0.f2, a0.f3⟩ : T25) = (⟨a1.f2, a1.f3⟩ : T25))))]) (by kernel_rfl) (by decide) ?_
      refine WL.split 17 (b := decide ((⟨a0.f2, a0.f3⟩ : T25) = (⟨a1.f2, a1.f3⟩ : T25))) (by kernel_rfl) (fun hc => ?_) (fun hc => ?_)
      · replace hc := of_decide_eq_true hc
        rw [if_pos hc] at h
        have hc6 := hc
        clear hc
        refine WL.pure 13 14 [3, 17, 18] (L' := [(3, .pointer (some ⟨b2, 0, none⟩)), (17, .bool true), (18, .pointer (some ⟨b1, 4, none⟩))]) (by kernel_rfl) (by decide) ?_
        refine WL.tell (op := .load 9 (.tmp 18)) (ty := 9) (d := some 19) (g := some (12, true)) (by kernel_rfl) (by kernel_rfl) (by kernel_rfl) (Tells.load_box (i := 1) (b := b1) (o := 4) (agg := false) (by rfl) ag9 (by kernel_rfl) (fun _ => rfl) (Nat.le_of_ble_eq_true rfl) (v := .string a0.f4) (by kernel_rfl)) ?_
        refine WL.pure 15 16 [17, 19, 20] (L' := [(17, .bool true), (19, .string a0.f4), (20, .pointer (some ⟨b2, 4, none⟩))]) (by kernel_rfl) (by decide) ?_
        refine WL.tell (op := .load 9 (.tmp 20)) (ty := 9) (d := some 21) (g := some (12, true)) (by kernel_rfl) (by kernel_rfl) (by kernel_rfl) (Tells.load_box (i := 0) (b := b2) (o := 4) (agg := false) (by rfl) ag9 (by kernel_rfl) (fun _ => rfl) (Nat.le_of_ble_eq_true rfl) (v := .string a1.f4) (by kernel_rfl)) ?_
        refine WL.rest 17 [4] (L' := [(4, .bool (a0.f4.toList == a1.f4.toList))]) (by kernel_rfl) ?_
        refine QP.dropAt 1 ?_
        refine QP.dropAt 0 ?_
        refine QP.pick [4] ?_
        exact QP.meet ⟨_, Option.some.inj h, rfl, rfl, rfl⟩
      · replace hc := of_decide_eq_false hc
        rw [if_neg hc] at h
        have hc6 := hc
        clear hc
        refine WL.rest 13 [4] (L' := [(4, .bool false)]) (by kernel_rfl) ?_
        refine QP.dropAt 1 ?_
        refine QP.dropAt 0 ?_
        refine QP.pick [4] ?_
        exact QP.meet ⟨_, Option.some.inj h, rfl, rfl, rfl⟩
    · replace hc := of_decide_eq_false hc
      rw [if_neg hc] at h
      have hc5 := hc
      clear hc
      refine WL.rest 6 [4] (L' := [(4, .bool false)]) (by kernel_rfl) ?_
      refine QP.dropAt 1 ?_
      refine QP.dropAt 0 ?_
      refine QP.pick [4] ?_
      exact QP.meet ⟨_, Option.some.inj h, rfl, rfl, rfl⟩
  · rintro _ _ _ ⟨s3, rfl, rfl, rfl, rfl⟩
    clear h
    replace h := hk4
    refine WP.ret ?_
    obtain rfl := Option.some.inj h
    exact QP.returned [4] [.bool s3] _ (by kernel_rfl) (by kernel_rfl) (by kernel_rfl) (fun W hI => ⟨_, _, _, rfl, ⟨rfl, rfl, rfl⟩, hI⟩)

/-! ### grapevine/grapevinelaw0.OverRecords: function 38 -/
def grapevinelaw0_OverRecords_l0 : Nat → Int → (List T27) → Option (List T27)
  | 0, _, _ => none
  | k + 1, y3, y4 => (if y3 < (y4.length : Int) then (if 0 ≤ y3 ∧ y3 < (y4.length : Int) then grapevinelaw0_OverRecords_l0 k (IntKind.i64.wrap (y3 + 1)) (y4.set y3.toNat (⟨0, 0, 0, 0, (⟨#[111, 118, 101, 114]⟩ : ByteArray)⟩ : T27)) else none) else some y4)
def grapevinelaw0_OverRecords (k : Nat) (l0 : List T27) : Option Unit := ((grapevinelaw0_OverRecords_l0 k 0 l0).bind fun s1 => (if s1.length + ([(⟨0, 0, 0, 0, (⟨#[111, 118, 101, 114]⟩ : ByteArray)⟩ : T27)] : List T27).length ≤ 1073741824 then some () else none))
set_option maxHeartbeats 4000000 in
theorem grapevinelaw0_OverRecords_calls {B : World} {G : GMap} {Γ : List Chunk} {W : World} (k : Nat) (l0 : List T27) (Al0 : Option Addr) (cl0 : Nat) (Cl0 : Chunk) (Hl0 : Ow k27 G Al0 cl0 l0 Cl0) (r : Unit) (h : grapevinelaw0_OverRecords k l0 = some r) (hI : Inv B G (Cl0 :: Γ) W) :
    Calls Tryd.prog 38 [.slice Al0 l0.length cl0].toArray W (Ret B (fun v G' Γ' => v = .tuple #[] ∧ G = G' ∧ Γ = Γ')) := by
  refine calls_WP (Γ := Cl0 :: Γ) (G := G) (B := B) Tryd.func38 rfl (by kernel_rfl) ?_ hI
  clear hI
  unfold grapevinelaw0_OverRecords at h
  refine WP.seq ?_
  refine WP.seqP [0, 2] (L' := [(0, .slice Al0 l0.length cl0), (2, .int .i64 0)]) (by kernel_rfl) ?_
  rw [Option.bind_eq_some_iff] at h
  obtain ⟨os1, h, hk2⟩ := h
  refine WP.cutQ (fun L' G' Γ' => ∃ s1 : (List T27), s1 = os1 ∧ ∃ (As1 : Option Addr), ∃ (cs1 : Nat), ∃ (Cs1 : Chunk), L' = [(0, .slice As1 s1.length cs1)] ∧ G = G' ∧ Cs1 :: Γ = Γ' ∧ Ow k27 G As1 cs1 s1 Cs1) ?_ ?_
  · clear hk2
    refine WP.block ?_
    refine WP.pick [0, 2] ?_
    refine WP.loopF (fun kn5 L' G' Γ' => ∃ (y3 : Int), ∃ (y4 : List T27), grapevinelaw0_OverRecords_l0 kn5 y3 y4 = some os1 ∧ ∃ (Ay4 : Option Addr), ∃ (cy4 : Nat), ∃ (Cy4 : Chunk), L' = [(0, .slice Ay4 y4.length cy4), (2, .int .i64 y3)] ∧ G = G' ∧ Cy4 :: Γ = Γ' ∧ Ow k27 G Ay4 cy4 y4 Cy4) ?_ k ⟨0, l0, h, Al0, cl0, Cl0, rfl, rfl, rfl, Hl0⟩
    clear h
    rintro kn6 _ _ _ ⟨y3, y4, h, Ay4, cy4, Cy4, rfl, rfl, rfl, Hy4⟩
    cases kn6 with
    | zero => exact absurd h (by simp [grapevinelaw0_OverRecords_l0])
    | succ kn6 =>
      simp only [grapevinelaw0_OverRecords_l0] at h
      refine WP.seq ?_
      refine WP.seqP [0, 2, 6] (L' := [(0, .slice Ay4 y4.length cy4), (2, .int .i64 y3), (6, .bool (decide (y3 < (y4.length : Int))))]) (by kernel_rfl) ?_
      refine WP.cond (b := decide (y3 < (y4.length : Int))) (by kernel_rfl) (fun hc => ?_) (fun hc => ?_)
      · replace hc := of_decide_eq_true hc
        rw [if_pos hc] at h
        have hc7 := hc
        clear hc
        refine WP.skip ?_
        refine QP.next ?_
        refine WP.pick [0, 2] ?_
        refine WP.seq ?_
        refine WP.block ?_
        refine WP.region ?_
        refine WL.pure 0 3 [0, 2, 9, 10, 11] (L' := [(0, .slice Ay4 y4.length cy4), (2, .int .i64 y3), (9, .slice Ay4 y4.length cy4), (10, .int .i64 y3), (11, .agg #[.int .i64 0, .int .i64 0, .int .i64 0, .int .i64 0, .string (⟨#[111, 118, 101, 114]⟩ : ByteArray)])]) (by kernel_rfl) (by decide) ?_
        by_cases hb8 : 0 ≤ y3 ∧ y3 < (y4.length : Int)
        case neg => rw [if_neg hb8] at h; cases h
        rw [if_pos hb8] at h
        refine WL.tell (op := .indexAddr 46 (.tmp 9) (.tmp 10)) (ty := 0) (d := some 12) (g := none) (by kernel_rfl) (by kernel_rfl) (by kernel_rfl) (Tells.indexAddr (A := Ay4) (n := y4.length) (c := cy4) (k := .i64) (j := y3) (by kernel_rfl) (by kernel_rfl) (Hy4.isSome hb8.1 hb8.2) hb8.1 hb8.2 sl46) ?_
        refine WL.op (op := .store 27 (.tmp 12) (.tmp 11)) (ty := 0) (d := none) (g := none) (by kernel_rfl) (by kernel_rfl) (by kernel_rfl) (Ow.store Hy4 (i := 0) rfl hb8.1 hb8.2 (z := (⟨0, 0, 0, 0, (⟨#[111, 118, 101, 114]⟩ : ByteArray)⟩ : T27)) (v := .agg #[.int .i64 0, .int .i64 0, .int .i64 0, .int .i64 0, .string (⟨#[111, 118, 101, 114]⟩ : ByteArray)]) (by kernel_rfl) (by kernel_rfl) sz27 (by exact rfl)) ?_
        rintro _ _ _ ⟨rfl, rfl, C9, Ho10, rfl⟩
        refine WL.reput 0 (v := .slice Ay4 y4.length cy4) (v' := .slice Ay4 (y4.set y3.toNat (⟨0, 0, 0, 0, (⟨#[111, 118, 101, 114]⟩ : ByteArray)⟩ : T27)).length cy4) (by kernel_rfl) (by simp only [List.length_set]) ?_
        refine WL.rest 5 [0, 2] (L' := [(0, .slice Ay4 (y4.set y3.toNat (⟨0, 0, 0, 0, (⟨#[111, 118, 101, 114]⟩ : ByteArray)⟩ : T27)).length cy4), (2, .int .i64 y3)]) (by kernel_rfl) ?_
        refine QP.blockN ?_
        refine QP.next ?_
        refine WP.pick [0, 2] ?_
        refine WP.regionP [0, 2] (L' := [(0, .slice Ay4 (y4.set y3.toNat (⟨0, 0, 0, 0, (⟨#[111, 118, 101, 114]⟩ : ByteArray)⟩ : T27)).length cy4), (2, .int .i64 (IntKind.i64.wrap (y3 + 1)))]) (by kernel_rfl) ?_
        refine QP.pick [0, 2] ?_
        exact QP.meet ⟨kn6, Nat.lt_succ_self _, (IntKind.i64.wrap (y3 + 1)), (y4.set y3.toNat (⟨0, 0, 0, 0, (⟨#[111, 118, 101, 114]⟩ : ByteArray)⟩ : T27)), h, Ay4, cy4, C9, rfl, rfl, rfl, Ho10⟩
      · replace hc := of_decide_eq_false hc
        rw [if_neg hc] at h
        have hc7 := hc
        clear hc
        refine WP.exit ?_
        refine QP.thenE ?_
        refine QP.thenE ?_
        refine QP.blockE ?_
        refine QP.pick [0] ?_
        exact QP.meet ⟨_, Option.some.inj h, Ay4, cy4, Cy4, rfl, rfl, rfl, Hy4⟩
  · rintro _ _ _ ⟨s1, rfl, As1, cs1, Cs1, rfl, rfl, rfl, Hs1⟩
    clear h
    replace h := hk2
    refine QP.next ?_
    refine WP.pick [0] ?_
    refine WP.region ?_
    refine WL.pure 0 2 [13, 14] (L' := [(13, .slice As1 s1.length cs1), (14, .agg #[.int .i64 0, .int .i64 0, .int .i64 0, .int .i64 0, .string (⟨#[111, 118, 101, 114]⟩ : ByteArray)])]) (by kernel_rfl) (by decide) ?_
    refine WL.op (op := .buildSlice 46 1 #[(0, (.tmp 14))]) (ty := 46) (d := some 15) (g := none) (by kernel_rfl) (by kernel_rfl) (by kernel_rfl) (Does.new (o := .cells #[.int .i64 0, .int .i64 0, .int .i64 0, .int .i64 0, .string (⟨#[111, 118, 101, 114]⟩ : ByteArray)] 27 (0, 0)) (v := fun r => .slice (some ⟨r, 0, none⟩) 1 1) (fun r => by kernel_rfl)) ?_
    rintro _ _ _ ⟨b11, rfl, rfl, rfl⟩
    have Ho13 : Ow k27 G (some ⟨b11, 0, none⟩) 1 ([(⟨0, 0, 0, 0, (⟨#[111, 118, 101, 114]⟩ : ByteArray)⟩ : T27)] : List T27) [(b11, .cells #[.int .i64 0, .int .i64 0, .int .i64 0, .int .i64 0, .string (⟨#[111, 118, 101, 114]⟩ : ByteArray)] 27 (0, 0))] := Ow.lit (kd := k27) (G := G) (b := b11) (T := 27) (xs := ([(⟨0, 0, 0, 0, (⟨#[111, 118, 101, 114]⟩ : ByteArray)⟩ : T27)] : List T27)) (cs := [.int .i64 0, .int .i64 0, .int .i64 0, .int .i64 0, .string (⟨#[111, 118, 101, 114]⟩ : ByteArray)]) (.cons (x := (⟨0, 0, 0, 0, (⟨#[111, 118, 101, 114]⟩ : ByteArray)⟩ : T27)) (cs := [.int .i64 0, .int .i64 0, .int .i64 0, .int .i64 0, .string (⟨#[111, 118, 101, 114]⟩ : ByteArray)]) (by exact rfl) .nil)
    by_cases hb14 : s1.length + ([(⟨0, 0, 0, 0, (⟨#[111, 118, 101, 114]⟩ : ByteArray)⟩ : T27)] : List T27).length ≤ 1073741824
    case neg => rw [if_neg hb14] at h; cases h
    rw [if_pos hb14] at h
    refine WL.op (op := .call { callee := (.builtin .append), args := #[(.tmp 13), (.tmp 15)], argTypes := #[46, 46] }) (ty := 46) (d := some 16) (g := none) (by kernel_rfl) (by kernel_rfl) (by kernel_rfl) (Ow.append (ys := ([(⟨0, 0, 0, 0, (⟨#[111, 118, 101, 114]⟩ : ByteArray)⟩ : T27)] : List T27)) (v := .slice (some ⟨b11, 0, none⟩) ([(⟨0, 0, 0, 0, (⟨#[111, 118, 101, 114]⟩ : ByteArray)⟩ : T27)] : List T27).length 1) Hs1 (i := 1) rfl (by kernel_rfl) (by kernel_rfl) (Ho13.src (i := 0) rfl) sl46 ze27 nt46 (by decide) hb14) ?_
    rintro _ _ _ ⟨rfl, AN15, cN15, CN15, rfl, HN15, rfl⟩
    refine WL.rest 4 [] (L' := []) (by kernel_rfl) ?_
    obtain rfl := Option.some.inj h
    refine QP.dropAt 1 ?_
    refine QP.dropAt 0 ?_
    exact QP.returnedN [] [] _ (by kernel_rfl) (by kernel_rfl) (by kernel_rfl) (fun W hI => ⟨_, _, _, rfl, ⟨rfl, rfl, rfl⟩, hI⟩)
end Go.Proofs.YtjmhhmljldjmjaaDoor.Gf
