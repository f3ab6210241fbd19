/- Walks of Go functions: what each tells, as a plain Lean function, and that the Go code comes to it. Written by gg.py of this repo. -/
import Derived.Test.YtbphlohiealbeaaGreatDoorT
import Derived.Test.YtbphlohiealbeaaGreatDoorF0
import Derived.Test.YtbphlohiealbeaaGreatDoorGgZ
namespace Go.Proofs.YtbphlohiealbeaaGreatDoor.Gf
open Go Go.Gg
variable {B : World} {G : GMap} {Γ : List Chunk} {W : World}
set_option maxRecDepth 100000
set_option maxHeartbeats 4000000
set_option linter.unusedVariables false
set_option linter.unusedSimpArgs false
def grapevineref4_MayKey (a0 : T27) : Option Bool := ((if a0.f0 ≥ 0 then (if a0.f0 < 8 then (if a0.f1 ≥ 1 then some (decide (a0.f1 ≤ 1023)) else some false) else some false) else some false).bind fun s2 => some s2)
theorem grapevineref4_MayKey_calls (a0 : T27) (r : Bool) (h : grapevineref4_MayKey a0 = some r) (hI : Inv B G (Γ) W) :
  Calls Tryz.prog 30 [.agg #[.int .i64 a0.f0, .int .i64 a0.f1]].toArray W (Ret B (fun v G' Γ' => v = .bool r ∧ G = G' ∧ Γ = Γ')) := by
 refine calls_WP (Γ := Γ) (G := G) (B := B) Tryz.func30 rfl (by kernel_rfl) ?_ hI; clear hI; unfold grapevineref4_MayKey at h; refine WP.seqR ?_; refine WL.o rfl (Does.nw (.cells #[.int .i64 a0.f0, .int .i64 a0.f1] 27 (0, 0))) ?_; rintro _ _ _ ⟨b1, rfl, rfl, rfl⟩; refine WL.rQ 1 [(1,_)] ?_; revert h; refine WP.u (fun s2 : Bool => [(2, .bool s2)]) G (Γ) (fun os2 h => ?_) (fun s2 h => ?_)
 ·refine WP.region ?_; refine WL.p 0 1 [(1,_), (3, pt b1 0)] ?_; refine WL.t rfl (Tells.l0 0 b1 0 ag3 (.int .i64 a0.f0)) ?_; refine WL.p 2 4 [(1,_), (6, .bool (decide (a0.f0 ≥ 0)))] ?_; revert h; refine WL.cD 6 (a0.f0 ≥ 0) (fun hc4 h => ?_) (fun hc4 h => ?_)
  ·refine WL.p 4 5 [(1,_), (6,_), (7, pt b1 0)] ?_; refine WL.t rfl (Tells.l0 0 b1 0 ag3 (.int .i64 a0.f0)) ?_; refine WL.p 6 9 [(1,_), (11, .bool (decide (a0.f0 < 8)))] ?_; revert h; refine WL.cD 11 (a0.f0 < 8) (fun hc5 h => ?_) (fun hc5 h => ?_)
   ·refine WL.p 9 10 [(1,_), (11,_), (12, pt b1 1)] ?_; refine WL.t rfl (Tells.l0 0 b1 1 ag3 (.int .i64 a0.f1)) ?_; refine WL.p 11 14 [(1,_), (16, .bool (decide (a0.f1 ≥ 1)))] ?_; revert h; refine WL.cD 16 (a0.f1 ≥ 1) (fun hc6 h => ?_) (fun hc6 h => ?_)
    ·refine WL.p 14 15 [(16,_), (17, pt b1 1)] ?_; refine WL.t rfl (Tells.l0 0 b1 1 ag3 (.int .i64 a0.f1)) ?_; refine WL.r 16 [(2, .bool (decide (a0.f1 ≤ 1023)))] ?_; refine QP.dropAt 0 ?_; exact QP.mp
    ·refine WL.r 14 [(2, .bool false)] ?_; refine QP.dropAt 0 ?_; exact QP.mp
   ·refine WL.r 9 [(2, .bool false)] ?_; refine QP.dropAt 0 ?_; exact QP.mp
  ·refine WL.r 4 [(2, .bool false)] ?_; refine QP.dropAt 0 ?_; exact QP.mp
 ·refine WP.ret ?_; obtain rfl := sI h; exact QP.rb [2] [.bool s2]
def grapevineref2_in (a0 : Int) (a1 : Int) : Option Bool := ((if a0 ≥ 0 then some (decide (a0 ≤ a1)) else some false).bind fun s1 => some s1)
theorem grapevineref2_in_calls (a0 : Int) (a1 : Int) (r : Bool) (h : grapevineref2_in a0 a1 = some r) (hI : Inv B G (Γ) W) :
  Calls Tryz.prog 48 [.int .i64 a0, .int .i64 a1].toArray W (Ret B (fun v G' Γ' => v = .bool r ∧ G = G' ∧ Γ = Γ')) := by
 refine calls_WP (Γ := Γ) (G := G) (B := B) Tryz.func48 rfl (by kernel_rfl) ?_ hI; clear hI; unfold grapevineref2_in at h; refine WP.sP [(0,_), (1,_)] ?_; revert h; refine WP.u (fun s1 : Bool => [(4, .bool s1)]) G (Γ) (fun os1 h => ?_) (fun s1 h => ?_)
 ·refine WP.region ?_; refine WL.p 0 3 [(0,_), (1,_), (7, .bool (decide (a0 ≥ 0)))] ?_; revert h; refine WL.cD 7 (a0 ≥ 0) (fun hc3 h => ?_) (fun hc3 h => ?_)
  ·refine WL.r 3 [(4, .bool (decide (a0 ≤ a1)))] ?_; exact QP.mp
  ·refine WL.r 3 [(4, .bool false)] ?_; exact QP.mp
 ·refine WP.ret ?_; obtain rfl := sI h; exact QP.rb [4] [.bool s1]
def grapevineref2_May (a0 : T29) : Option Bool := (((grapevineref2_in a0.f0 1099511627776).bind fun t4 => (if t4 = true then ((grapevineref2_in a0.f1 65535).bind fun t9 => some t9) else some false)).bind fun s2 => some s2)
theorem grapevineref2_May_calls (a0 : T29) (r : Bool) (h : grapevineref2_May a0 = some r) (hI : Inv B G (Γ) W) :
  Calls Tryz.prog 31 [.agg #[.int .i64 a0.f0, .int .i64 a0.f1]].toArray W (Ret B (fun v G' Γ' => v = .bool r ∧ G = G' ∧ Γ = Γ')) := by
 refine calls_WP (Γ := Γ) (G := G) (B := B) Tryz.func31 rfl (by kernel_rfl) ?_ hI; clear hI; unfold grapevineref2_May at h; refine WP.seqR ?_; refine WL.o rfl (Does.nw (.cells #[.int .i64 a0.f0, .int .i64 a0.f1] 29 (0, 0))) ?_; rintro _ _ _ ⟨b1, rfl, rfl, rfl⟩; refine WL.rQ 1 [(1,_)] ?_; revert h; refine WP.u (fun s2 : Bool => [(2, .bool s2)]) G (Γ) (fun os2 h => ?_) (fun s2 h => ?_)
 ·refine WP.region ?_; refine WL.p 0 1 [(1,_), (3, pt b1 0)] ?_; refine WL.t rfl (Tells.l0 0 b1 0 ag3 (.int .i64 a0.f0)) ?_; obtain ⟨t4, ht5, h⟩ := bS h; refine WL.k rfl (Does.k fun _ => grapevineref2_in_calls a0.f0 1099511627776 t4 ht5) ?_; refine WL.p 3 4 [(1,_), (6, .bool t4)] ?_; revert h; refine WL.cB 6 t4 (fun hc8 h => ?_) (fun hc8 h => ?_)
  ·refine WL.p 4 5 [(6,_), (7, pt b1 1)] ?_; refine WL.t rfl (Tells.l0 0 b1 1 ag3 (.int .i64 a0.f1)) ?_; obtain ⟨t9, ht10, h⟩ := bS h; refine WL.k rfl (Does.k fun _ => grapevineref2_in_calls a0.f1 65535 t9 ht10) ?_; refine WL.r 7 [(2, .bool t9)] ?_; refine QP.dropAt 0 ?_; exact QP.mp
  ·refine WL.r 4 [(2, .bool false)] ?_; refine QP.dropAt 0 ?_; exact QP.mp
 ·refine WP.ret ?_; obtain rfl := sI h; exact QP.rb [2] [.bool s2]
def grapevineref14_Deep_l0 (a0 : T25) (rec_ : T25 → Option Int) : Nat → Int → Int → Option Int
 | 0, _, _ => none
 | k + 1, y4, y5 => (if y5 < (a0.f3.length : Int) then (if 0 ≤ y5 ∧ y5 < (a0.f3.length : Int) then ((rec_ (a0.f3.getD y5.toNat z25)).bind fun t12 => grapevineref14_Deep_l0 a0 rec_ k (if t12 > y4 then t12 else y4) (IntKind.i64.wrap (y5 + 1))) else none) else some y4)
def grapevineref14_Deep : Nat → T25 → Option Int
 | 0, _ => none
 | k + 1, a0 => ((grapevineref14_Deep_l0 a0 (grapevineref14_Deep k) k 0 0).bind fun s2 => some (IntKind.i64.wrap (s2 + 1)))
theorem grapevineref14_Deep_calls_k (k : Nat) : ∀ {B : World} {G : GMap} {Γ : List Chunk} {W : World} (a0 : T25) (Aa0_f2 : Option Addr) (ca0_f2 : Nat) (Ha0_f2 : Rd kStr G Aa0_f2 ca0_f2 a0.f2) (Aa0_f3 : Option Addr) (ca0_f3 : Nat) (Ha0_f3 : Rd k25 G Aa0_f3 ca0_f3 a0.f3) (r : Int) (h : grapevineref14_Deep k a0 = some r) (hI : Inv B G (Γ) W),
  Calls Tryz.prog 49 [.agg (v25 a0 Aa0_f2 ca0_f2 Aa0_f3 ca0_f3)].toArray W (Ret B (fun v G' Γ' => v = .int .i64 r ∧ G = G' ∧ Γ = Γ')) := by
 induction k with
 | zero => intro B G Γ W a0 Aa0_f2 ca0_f2 Ha0_f2 Aa0_f3 ca0_f3 Ha0_f3 r h hI; exact absurd h (by simp [grapevineref14_Deep])
 | succ kf ih =>
  intro B G Γ W a0 Aa0_f2 ca0_f2 Ha0_f2 Aa0_f3 ca0_f3 Ha0_f3 r h hI; refine calls_WP (Γ := Γ) (G := G) (B := B) Tryz.func49 rfl (by kernel_rfl) ?_ hI; clear hI; simp only [grapevineref14_Deep] at h; refine WP.seqR ?_; refine WL.o rfl (Does.nw (.cells (v25 a0 Aa0_f2 ca0_f2 Aa0_f3 ca0_f3) 25 (0, 0))) ?_; rintro _ _ _ ⟨b1, rfl, rfl, rfl⟩; refine WL.rQ 1 [(1,_)] ?_; refine WP.sP [(1,_), (3, .int .i64 0)] ?_; refine WP.seq ?_; refine WP.sP [(1,_), (3,_), (4, .int .i64 0)] ?_; revert h; refine WP.uQ (fun s2 : Int => [(3, .int .i64 s2)]) G (Γ) (fun os2 h => ?_) (fun s2 h => ?_)
  ·refine WP.block ?_; refine WP.pick [1, 3, 4] ?_; refine WP.loopF (fun kn6 L' G' Γ' => ∃ (y4 : Int), ∃ (y5 : Int), grapevineref14_Deep_l0 a0 (grapevineref14_Deep kf) kn6 y4 y5 = some os2 ∧ L' = [(1, pt b1 0), (3, .int .i64 y4), (4, .int .i64 y5)] ∧ G = G' ∧ [(b1, .cells (v25 a0 Aa0_f2 ca0_f2 Aa0_f3 ca0_f3) 25 (0, 0))] :: Γ = Γ') ?_ kf ⟨0, 0, h, rfl, rfl, rfl⟩; clear h; rintro kn7 _ _ _ ⟨y4, y5, h, rfl, rfl, rfl⟩
   cases kn7 with
   | zero => exact absurd h (by simp [grapevineref14_Deep_l0])
   | succ kn7 =>
    simp only [grapevineref14_Deep_l0] at h; refine WP.seq ?_; refine WP.seqR ?_; refine WL.p 0 2 [(1,_), (3,_), (4,_), (5, .int .i64 y5), (6, pt b1 3)] ?_; refine WL.t rfl (Tells.l0 0 b1 3 ag23 (.slice Aa0_f3 a0.f3.length ca0_f3)) ?_; refine WL.rQ 3 [(1,_), (3,_), (4,_), (9, .bool (decide (y5 < (a0.f3.length : Int))))] ?_; revert h; refine WP.cD (y5 < (a0.f3.length : Int)) (fun hc8 h => ?_) (fun hc8 h => ?_)
    ·refine WP.sn [1, 3, 4] ?_; refine WP.seq ?_; refine WP.block ?_; refine WP.region ?_; refine WL.p 0 2 [(1,_), (3,_), (4,_), (12, .int .i64 y4), (13, pt b1 3)] ?_; refine WL.t rfl (Tells.l0 0 b1 3 ag23 (.slice Aa0_f3 a0.f3.length ca0_f3)) ?_; refine WL.p 3 4 [(1,_), (3,_), (4,_), (12,_), (14,_), (15, .int .i64 y5)] ?_; obtain ⟨hb9, h⟩ := iP h; refine WL.t rfl (Ha0_f3.ix hb9 sl23) ?_; refine WL.tE rfl (Ha0_f3.load (agg := true) hb9.1 hb9.2 z25 ag25 (fun h => by cases h) (by kernel_rfl)) ?_; rintro _ hrel; obtain ⟨_, _, rfl, rfl, ⟨_, _, rfl, rfl, ⟨_, _, rfl, ⟨Ae10, ce10, rfl, He10⟩, ⟨Ae11, ce11, rfl, He11⟩⟩⟩⟩ := k25_out hrel; replace He10 : Rd kStr G Ae10 ce10 ((a0.f3.getD y5.toNat z25).f2) := He10; replace He11 : Rd k25 G Ae11 ce11 ((a0.f3.getD y5.toNat z25).f3) := He11; obtain ⟨t12, ht13, h⟩ := bS h; refine WL.k rfl (Does.k fun _ => ih (a0.f3.getD y5.toNat z25) Ae10 ce10 He10 Ae11 ce11 He11 t12 ht13) ?_; refine WL.r 7 [(1,_), (3, .int .i64 (if t12 > y4 then t12 else y4)), (4,_)] ?_; refine QP.blockN ?_; refine QP.next ?_; refine WP.pick [1, 3, 4] ?_; refine WP.rP [(1,_), (3,_), (4, .int .i64 (IntKind.i64.wrap (y5 + 1)))] ?_; refine QP.pick [1, 3, 4] ?_; exact QP.meet ⟨kn7, Nat.lt_succ_self _, (if t12 > y4 then t12 else y4), (IntKind.i64.wrap (y5 + 1)), h, rfl, rfl, rfl⟩
    ·refine WP.exit ?_; refine QP.thenE ?_; refine QP.thenE ?_; refine QP.blockE ?_; refine QP.dropAt 0 ?_; exact QP.mp
  ·refine QP.next ?_; refine WP.pick [3] ?_; refine WP.sP [(2, .int .i64 (IntKind.i64.wrap (s2 + 1)))] ?_; refine WP.ret ?_; obtain rfl := sI h; exact QP.rb [2] [.int .i64 (IntKind.i64.wrap (s2 + 1))]
theorem grapevineref14_Deep_calls (k : Nat) (a0 : T25) (Aa0_f2 : Option Addr) (ca0_f2 : Nat) (Ha0_f2 : Rd kStr G Aa0_f2 ca0_f2 a0.f2) (Aa0_f3 : Option Addr) (ca0_f3 : Nat) (Ha0_f3 : Rd k25 G Aa0_f3 ca0_f3 a0.f3) (r : Int) (h : grapevineref14_Deep k a0 = some r) (hI : Inv B G (Γ) W) :
  Calls Tryz.prog 49 [.agg (v25 a0 Aa0_f2 ca0_f2 Aa0_f3 ca0_f3)].toArray W (Ret B (fun v G' Γ' => v = .int .i64 r ∧ G = G' ∧ Γ = Γ')) := grapevineref14_Deep_calls_k k a0 Aa0_f2 ca0_f2 Ha0_f2 Aa0_f3 ca0_f3 Ha0_f3 r h hI
def grapevineref14_Terms_l0 (a0 : T25) (rec_ : T25 → Option Int) : Nat → Int → Int → Option Int
 | 0, _, _ => none
 | k + 1, y5, y6 => (if y6 < (a0.f3.length : Int) then (if 0 ≤ y6 ∧ y6 < (a0.f3.length : Int) then ((rec_ (a0.f3.getD y6.toNat z25)).bind fun t13 => grapevineref14_Terms_l0 a0 rec_ k (IntKind.i64.wrap (y5 + t13)) (IntKind.i64.wrap (y6 + 1))) else none) else some y5)
def grapevineref14_Terms : Nat → T25 → Option Int
 | 0, _ => none
 | k + 1, a0 => (if (a0.f3.length : Int) = 0 then some (if 1 > (a0.f2.length : Int) then 1 else (a0.f2.length : Int)) else ((grapevineref14_Terms_l0 a0 (grapevineref14_Terms k) k 0 0).bind fun s3 => some s3))
theorem grapevineref14_Terms_calls_k (k : Nat) : ∀ {B : World} {G : GMap} {Γ : List Chunk} {W : World} (a0 : T25) (Aa0_f2 : Option Addr) (ca0_f2 : Nat) (Ha0_f2 : Rd kStr G Aa0_f2 ca0_f2 a0.f2) (Aa0_f3 : Option Addr) (ca0_f3 : Nat) (Ha0_f3 : Rd k25 G Aa0_f3 ca0_f3 a0.f3) (r : Int) (h : grapevineref14_Terms k a0 = some r) (hI : Inv B G (Γ) W),
  Calls Tryz.prog 50 [.agg (v25 a0 Aa0_f2 ca0_f2 Aa0_f3 ca0_f3)].toArray W (Ret B (fun v G' Γ' => v = .int .i64 r ∧ G = G' ∧ Γ = Γ')) := by
 induction k with
 | zero => intro B G Γ W a0 Aa0_f2 ca0_f2 Ha0_f2 Aa0_f3 ca0_f3 Ha0_f3 r h hI; exact absurd h (by simp [grapevineref14_Terms])
 | succ kf ih =>
  intro B G Γ W a0 Aa0_f2 ca0_f2 Ha0_f2 Aa0_f3 ca0_f3 Ha0_f3 r h hI; refine calls_WP (Γ := Γ) (G := G) (B := B) Tryz.func50 rfl (by kernel_rfl) ?_ hI; clear hI; simp only [grapevineref14_Terms] at h; refine WP.seqR ?_; refine WL.o rfl (Does.nw (.cells (v25 a0 Aa0_f2 ca0_f2 Aa0_f3 ca0_f3) 25 (0, 0))) ?_; rintro _ _ _ ⟨b1, rfl, rfl, rfl⟩; refine WL.rQ 1 [(1,_)] ?_; refine WP.seq ?_; refine WP.seqR ?_; refine WL.p 0 1 [(1,_), (5, pt b1 3)] ?_; refine WL.t rfl (Tells.l0 0 b1 3 ag23 (.slice Aa0_f3 a0.f3.length ca0_f3)) ?_; refine WL.rQ 2 [(1,_), (8, .bool ((a0.f3.length : Int) == 0))] ?_; revert h; refine WP.cE (a0.f3.length : Int) 0 (fun hc2 h => ?_) (fun hc2 h => ?_)
  ·refine WP.seqR ?_; refine WL.p 0 1 [(9, pt b1 2)] ?_; refine WL.t rfl (Tells.l0 0 b1 2 ag22 (.slice Aa0_f2 a0.f2.length ca0_f2)) ?_; refine WL.rQ 2 [(2, .int .i64 (if 1 > (a0.f2.length : Int) then 1 else (a0.f2.length : Int)))] ?_; refine WP.dropAt 0 ?_; refine WP.ret ?_; refine QP.thenR ?_; obtain rfl := sI h; exact QP.rb [2] [.int .i64 (if 1 > (a0.f2.length : Int) then 1 else (a0.f2.length : Int))]
  ·refine WP.sn [1] ?_; refine WP.sP [(1,_), (3, .int .i64 0)] ?_; refine WP.seq ?_; refine WP.sP [(1,_), (3,_), (4, .int .i64 0)] ?_; revert h; refine WP.uQ (fun s3 : Int => [(3, .int .i64 s3)]) G (Γ) (fun os3 h => ?_) (fun s3 h => ?_)
   ·refine WP.block ?_; refine WP.pick [1, 3, 4] ?_; refine WP.loopF (fun kn7 L' G' Γ' => ∃ (y5 : Int), ∃ (y6 : Int), grapevineref14_Terms_l0 a0 (grapevineref14_Terms kf) kn7 y5 y6 = some os3 ∧ L' = [(1, pt b1 0), (3, .int .i64 y5), (4, .int .i64 y6)] ∧ G = G' ∧ [(b1, .cells (v25 a0 Aa0_f2 ca0_f2 Aa0_f3 ca0_f3) 25 (0, 0))] :: Γ = Γ') ?_ kf ⟨0, 0, h, rfl, rfl, rfl⟩; clear h; rintro kn8 _ _ _ ⟨y5, y6, h, rfl, rfl, rfl⟩
    cases kn8 with
    | zero => exact absurd h (by simp [grapevineref14_Terms_l0])
    | succ kn8 =>
     simp only [grapevineref14_Terms_l0] at h; refine WP.seq ?_; refine WP.seqR ?_; refine WL.p 0 2 [(1,_), (3,_), (4,_), (13, .int .i64 y6), (14, pt b1 3)] ?_; refine WL.t rfl (Tells.l0 0 b1 3 ag23 (.slice Aa0_f3 a0.f3.length ca0_f3)) ?_; refine WL.rQ 3 [(1,_), (3,_), (4,_), (17, .bool (decide (y6 < (a0.f3.length : Int))))] ?_; revert h; refine WP.cD (y6 < (a0.f3.length : Int)) (fun hc9 h => ?_) (fun hc9 h => ?_)
     ·refine WP.sn [1, 3, 4] ?_; refine WP.seq ?_; refine WP.block ?_; refine WP.region ?_; refine WL.p 0 2 [(1,_), (3,_), (4,_), (20, .int .i64 y5), (21, pt b1 3)] ?_; refine WL.t rfl (Tells.l0 0 b1 3 ag23 (.slice Aa0_f3 a0.f3.length ca0_f3)) ?_; refine WL.p 3 4 [(1,_), (3,_), (4,_), (20,_), (22,_), (23, .int .i64 y6)] ?_; obtain ⟨hb10, h⟩ := iP h; refine WL.t rfl (Ha0_f3.ix hb10 sl23) ?_; refine WL.tE rfl (Ha0_f3.load (agg := true) hb10.1 hb10.2 z25 ag25 (fun h => by cases h) (by kernel_rfl)) ?_; rintro _ hrel; obtain ⟨_, _, rfl, rfl, ⟨_, _, rfl, rfl, ⟨_, _, rfl, ⟨Ae11, ce11, rfl, He11⟩, ⟨Ae12, ce12, rfl, He12⟩⟩⟩⟩ := k25_out hrel; replace He11 : Rd kStr G Ae11 ce11 ((a0.f3.getD y6.toNat z25).f2) := He11; replace He12 : Rd k25 G Ae12 ce12 ((a0.f3.getD y6.toNat z25).f3) := He12; obtain ⟨t13, ht14, h⟩ := bS h; refine WL.k rfl (Does.k fun _ => ih (a0.f3.getD y6.toNat z25) Ae11 ce11 He11 Ae12 ce12 He12 t13 ht14) ?_; refine WL.r 7 [(1,_), (3, .int .i64 (IntKind.i64.wrap (y5 + t13))), (4,_)] ?_; refine QP.blockN ?_; refine QP.next ?_; refine WP.pick [1, 3, 4] ?_; refine WP.rP [(1,_), (3,_), (4, .int .i64 (IntKind.i64.wrap (y6 + 1)))] ?_; refine QP.pick [1, 3, 4] ?_; exact QP.meet ⟨kn8, Nat.lt_succ_self _, (IntKind.i64.wrap (y5 + t13)), (IntKind.i64.wrap (y6 + 1)), h, rfl, rfl, rfl⟩
     ·refine WP.exit ?_; refine QP.thenE ?_; refine QP.thenE ?_; refine QP.blockE ?_; refine QP.dropAt 0 ?_; exact QP.mp
   ·refine QP.next ?_; refine WP.pick [3] ?_; refine WP.sP [(2, .int .i64 s3)] ?_; refine WP.ret ?_; obtain rfl := sI h; exact QP.rb [2] [.int .i64 s3]
theorem grapevineref14_Terms_calls (k : Nat) (a0 : T25) (Aa0_f2 : Option Addr) (ca0_f2 : Nat) (Ha0_f2 : Rd kStr G Aa0_f2 ca0_f2 a0.f2) (Aa0_f3 : Option Addr) (ca0_f3 : Nat) (Ha0_f3 : Rd k25 G Aa0_f3 ca0_f3 a0.f3) (r : Int) (h : grapevineref14_Terms k a0 = some r) (hI : Inv B G (Γ) W) :
  Calls Tryz.prog 50 [.agg (v25 a0 Aa0_f2 ca0_f2 Aa0_f3 ca0_f3)].toArray W (Ret B (fun v G' Γ' => v = .int .i64 r ∧ G = G' ∧ Γ = Γ')) := grapevineref14_Terms_calls_k k a0 Aa0_f2 ca0_f2 Ha0_f2 Aa0_f3 ca0_f3 Ha0_f3 r h hI
def grapevineref1_runes (a0 : ByteArray) : Option (List Int) := ((utf8_ValidString a0).bind fun t1 => (if (!t1) = true then some ([] : List Int) else (if a0.size ≤ 70368744177664 then some (runesOf a0) else none)))
theorem grapevineref1_runes_calls (HT : Tabs B G) (a0 : ByteArray) (r : List Int) (h : grapevineref1_runes a0 = some r) (hI : Inv B G (Γ) W) :
  Calls Tryz.prog 79 [.string a0].toArray W (Ret B (fun v G' Γ' => ∃ (AR : Option Addr), ∃ (cR : Nat), ∃ (CR : Chunk), v = .slice AR r.length cR ∧ Ow (kInt .i32) G' AR cR r CR ∧ G = G' ∧ CR :: Γ = Γ')) := by
 refine calls_WP (Γ := Γ) (G := G) (B := B) Tryz.func79 rfl (by kernel_rfl) ?_ hI; clear hI; unfold grapevineref1_runes at h; refine WP.sP [(0,_)] ?_; refine WP.seq ?_; refine WP.seqR ?_; refine WL.p 0 1 [(0,_), (3, .string a0)] ?_; obtain ⟨t1, ht2, h⟩ := bS h; refine WL.k rfl (Does.k fun _ => utf8_ValidString_calls HT a0 t1 ht2) ?_; refine WL.rQ 2 [(0,_), (5, .bool (!t1))] ?_; revert h; refine WP.cB (!t1) (fun hc5 h => ?_) (fun hc5 h => ?_)
 ·refine WP.sP [(2, .slice none 0 0)] ?_; refine WP.ret ?_; refine QP.thenR ?_; obtain rfl := sI h; refine QP.addNil ?_; exact QP.ra [2] [.slice none ([] : List Int).length 0] ⟨none, 0, [], rfl, (Ow.nil (kInt .i32) _), rfl, rfl⟩
 ·refine WP.sn [0] ?_; refine WP.seqR ?_; refine WL.p 0 1 [(6, .string a0)] ?_; obtain ⟨hb7, h⟩ := iP h; refine WL.o rfl (Does.runes (s := a0) (by kernel_rfl) ru98 st9 hb7) ?_; rintro _ _ _ ⟨rfl, AM6, cM6, CM6, rfl, HM6, rfl⟩; refine WL.rQ 2 [(2, .slice AM6 (runesOf a0).length cM6)] ?_; refine WP.ret ?_; obtain rfl := sI h; exact QP.ra [2] [.slice AM6 (runesOf a0).length cM6] ⟨AM6, cM6, CM6, rfl, HM6, rfl, rfl⟩
def grapevineref1_letter (a0 : Int) : Option Bool := (((unicode_IsLetter a0).bind fun t3 => (if t3 = true then some true else ((unicode_IsDigit a0).bind fun t8 => some t8))).bind fun s1 => some s1)
theorem grapevineref1_letter_calls (HT : Tabs B G) (a0 : Int) (r : Bool) (h : grapevineref1_letter a0 = some r) (hI : Inv B G (Γ) W) :
  Calls Tryz.prog 80 [.int .i32 a0].toArray W (Ret B (fun v G' Γ' => v = .bool r ∧ G = G' ∧ Γ = Γ')) := by
 refine calls_WP (Γ := Γ) (G := G) (B := B) Tryz.func80 rfl (by kernel_rfl) ?_ hI; clear hI; unfold grapevineref1_letter at h; refine WP.sP [(0,_)] ?_; revert h; refine WP.u (fun s1 : Bool => [(2, .bool s1)]) G (Γ) (fun os1 h => ?_) (fun s1 h => ?_)
 ·refine WP.region ?_; refine WL.p 0 1 [(0,_), (3, .int .i32 a0)] ?_; obtain ⟨t3, ht4, h⟩ := bS h; refine WL.k rfl (Does.k fun _ => unicode_IsLetter_calls HT a0 t3 ht4) ?_; refine WL.p 2 3 [(0,_), (5, .bool t3)] ?_; revert h; refine WL.cB 5 t3 (fun hc7 h => ?_) (fun hc7 h => ?_)
  ·refine WL.r 3 [(2, .bool true)] ?_; exact QP.mp
  ·refine WL.p 3 4 [(5,_), (6, .int .i32 a0)] ?_; obtain ⟨t8, ht9, h⟩ := bS h; refine WL.k rfl (Does.k fun _ => unicode_IsDigit_calls HT a0 t8 ht9) ?_; refine WL.r 5 [(2, .bool t8)] ?_; exact QP.mp
 ·refine WP.ret ?_; obtain rfl := sI h; exact QP.rb [2] [.bool s1]
def grapevineref1_One_l0 (t1 : List Int) : Nat → Int → Option (Sum Bool Unit)
 | 0, _ => none
 | k + 1, y7 => (if y7 < (t1.length : Int) then (if 0 ≤ y7 ∧ y7 < (t1.length : Int) then ((grapevineref1_letter (t1.getD y7.toNat 0)).bind fun t12 => (if (!t12) = true then some (Sum.inl false) else grapevineref1_One_l0 t1 k (IntKind.i64.wrap (y7 + 1)))) else none) else some (Sum.inr ()))
def grapevineref1_One (k : Nat) (a0 : ByteArray) : Option Bool := ((grapevineref1_runes a0).bind fun t1 => ((grapevineref1_One_l0 t1 k 0).bind fun os5 => match os5 with | Sum.inl r => some r | Sum.inr s5 => some (decide ((t1.length : Int) > 0))))
theorem grapevineref1_One_calls (HT : Tabs B G) (k : Nat) (a0 : ByteArray) (r : Bool) (h : grapevineref1_One k a0 = some r) (hI : Inv B G (Γ) W) :
  Calls Tryz.prog 111 [.string a0].toArray W (Ret B (fun v G' Γ' => v = .bool r ∧ G = G' ∧ Γ = Γ')) := by
 refine calls_WP (Γ := Γ) (G := G) (B := B) Tryz.func111 rfl (by kernel_rfl) ?_ hI; clear hI; unfold grapevineref1_One at h; refine WP.sP [(0,_)] ?_; refine WP.seqR ?_; refine WL.p 0 1 [(5, .string a0)] ?_; obtain ⟨t1, ht2, h⟩ := bS h; refine WL.o rfl (Does.k fun _ => grapevineref1_runes_calls HT a0 t1 ht2) ?_; rintro _ _ _ ⟨AR3, cR3, CR3, rfl, HR3, rfl, rfl⟩; refine WL.rQ 2 [(3, .slice AR3 t1.length cR3)] ?_; refine WP.seq ?_; refine WP.sP [(3,_), (4, .int .i64 0)] ?_; obtain ⟨os5, h, hk6⟩ := bS h; refine WP.cutQ (fun L' G' Γ' => ∃ s5 : Unit, Sum.inr s5 = os5 ∧ L' = [(3, .slice AR3 t1.length cR3)] ∧ G = G' ∧ CR3 :: Γ = Γ') ?_ ?_
 ·skip
  refine WP.block ?_; refine WP.pick [3, 4] ?_; refine WP.loopF (fun kn8 L' G' Γ' => ∃ (y7 : Int), grapevineref1_One_l0 t1 kn8 y7 = some os5 ∧ L' = [(3, .slice AR3 t1.length cR3), (4, .int .i64 y7)] ∧ G = G' ∧ CR3 :: Γ = Γ') ?_ k ⟨0, h, rfl, rfl, rfl⟩; clear h; rintro kn9 _ _ _ ⟨y7, h, rfl, rfl, rfl⟩
  cases kn9 with
  | zero => exact absurd h (by simp [grapevineref1_One_l0])
  | succ kn9 =>
   simp only [grapevineref1_One_l0] at h; refine WP.seq ?_; refine WP.sP [(3,_), (4,_), (10, .bool (decide (y7 < (t1.length : Int))))] ?_; revert h; refine WP.cD (y7 < (t1.length : Int)) (fun hc10 h => ?_) (fun hc10 h => ?_)
   ·refine WP.sn [3, 4] ?_; refine WP.seq ?_; refine WP.block ?_; refine WP.seqR ?_; refine WL.p 0 2 [(3,_), (4,_), (13, .slice AR3 t1.length cR3), (14, .int .i64 y7)] ?_; obtain ⟨hb11, h⟩ := iP h; refine WL.t rfl (HR3.ix hb11 sl98) ?_; refine WL.tE rfl (HR3.load (i := 0) rfl (agg := false) hb11.1 hb11.2 0 ag21 (fun _ => rfl) (by kernel_rfl)) ?_; rintro _ rfl; obtain ⟨t12, ht13, h⟩ := bS h; refine WL.k rfl (Does.k fun _ => grapevineref1_letter_calls HT (t1.getD y7.toNat 0) t12 ht13) ?_; refine WL.rQ 5 [(3,_), (4,_), (18, .bool (!t12))] ?_; revert h; refine WP.cB (!t12) (fun hc16 h => ?_) (fun hc16 h => ?_)
    ·refine WP.sP [(2, .bool false)] ?_; refine WP.dropAt 0 ?_; refine WP.ret ?_; refine QP.blockR ?_; refine QP.thenR ?_; refine QP.thenR ?_; refine QP.blockR ?_; refine QP.thenR ?_; refine QP.thenR ?_; obtain rfl := sI h; obtain rfl := Option.some.inj (show some _ = some _ from hk6); exact QP.rb [2] [.bool false]
    ·refine WP.skip ?_; refine QP.blockN ?_; refine QP.next ?_; refine WP.pick [3, 4] ?_; refine WP.rP [(3,_), (4, .int .i64 (IntKind.i64.wrap (y7 + 1)))] ?_; refine QP.pick [3, 4] ?_; exact QP.meet ⟨kn9, Nat.lt_succ_self _, (IntKind.i64.wrap (y7 + 1)), h, rfl, rfl, rfl⟩
   ·refine WP.exit ?_; refine QP.thenE ?_; refine QP.thenE ?_; refine QP.blockE ?_; exact QP.mp
 ·rintro _ _ _ ⟨s5, rfl, rfl, rfl, rfl⟩; clear h; replace h := hk6
  dsimp only at h
  refine QP.next ?_; refine WP.pick [3] ?_; refine WP.sP [(2, .bool (decide ((t1.length : Int) > 0)))] ?_; refine WP.dropAt 0 ?_; refine WP.ret ?_; obtain rfl := sI h; exact QP.rb [2] [.bool (decide ((t1.length : Int) > 0))]
def unicode_ToLower (a0 : Int) : Option Int := (if -2147483648 ≤ a0 ∧ a0 ≤ 2147483647 then some (Lib.toLowerU a0) else none)
theorem unicode_ToLower_calls (HT : Tabs B G) (a0 : Int) (r : Int) (h : unicode_ToLower a0 = some r) (hI : Inv B G (Γ) W) :
  Calls Tryz.prog 94 [.int .i32 a0].toArray W (Ret B (fun v G' Γ' => v = .int .i32 r ∧ G = G' ∧ Γ = Γ')) := by
 unfold unicode_ToLower at h; by_cases hs : -2147483648 ≤ a0 ∧ a0 ≤ 2147483647
 case neg => rw [if_neg hs] at h; cases h
 rw [if_pos hs] at h; obtain rfl := sI h; exact Calls.kept ((Tryz.unicode_ToLower_laid a0 W (HT.ca hI)).mono fun e w' he => ⟨he.1, by obtain ⟨q, rfl⟩ := he.2; exact below_drewNg W q⟩) hI
def grapevineref1_Norm_l0 : Nat → Int → (List Int) → Option (List Int)
 | 0, _, _ => none
 | k + 1, y7, y8 => (if y7 < (y8.length : Int) then (if 0 ≤ y7 ∧ y7 < (y8.length : Int) then ((unicode_ToLower (y8.getD y7.toNat 0)).bind fun t13 => (if 0 ≤ y7 ∧ y7 < (y8.length : Int) then grapevineref1_Norm_l0 k (IntKind.i64.wrap (y7 + 1)) (y8.set y7.toNat t13) else none)) else none) else some y8)
def grapevineref1_Norm (k : Nat) (a0 : ByteArray) : Option ByteArray := ((grapevineref1_runes a0).bind fun t1 => ((grapevineref1_Norm_l0 k 0 t1).bind fun s5 => some (runesBytes s5)))
theorem grapevineref1_Norm_calls (HT : Tabs B G) (k : Nat) (a0 : ByteArray) (r : ByteArray) (h : grapevineref1_Norm k a0 = some r) (hI : Inv B G (Γ) W) :
  Calls Tryz.prog 81 [.string a0].toArray W (Ret B (fun v G' Γ' => v = .string r ∧ G = G' ∧ Γ = Γ')) := by
 refine calls_WP (Γ := Γ) (G := G) (B := B) Tryz.func81 rfl (by kernel_rfl) ?_ hI; clear hI; unfold grapevineref1_Norm at h; refine WP.sP [(0,_)] ?_; refine WP.seqR ?_; refine WL.p 0 1 [(5, .string a0)] ?_; obtain ⟨t1, ht2, h⟩ := bS h; refine WL.o rfl (Does.k fun _ => grapevineref1_runes_calls HT a0 t1 ht2) ?_; rintro _ _ _ ⟨AR3, cR3, CR3, rfl, HR3, rfl, rfl⟩; refine WL.rQ 2 [(3, .slice AR3 t1.length cR3)] ?_; refine WP.seq ?_; refine WP.sP [(3,_), (4, .int .i64 0)] ?_; obtain ⟨os5, h, hk6⟩ := bS h; refine WP.cutQ (fun L' G' Γ' => ∃ s5 : (List Int), s5 = os5 ∧ ∃ (As5 : Option Addr), ∃ (cs5 : Nat), ∃ (Cs5 : Chunk), L' = [(3, .slice As5 s5.length cs5)] ∧ G = G' ∧ Cs5 :: Γ = Γ' ∧ Ow (kInt .i32) G As5 cs5 s5 Cs5) ?_ ?_
 ·clear hk6; refine WP.block ?_; refine WP.pick [3, 4] ?_; refine WP.loopF (fun kn9 L' G' Γ' => ∃ (y7 : Int), ∃ (y8 : List Int), grapevineref1_Norm_l0 kn9 y7 y8 = some os5 ∧ ∃ (Ay8 : Option Addr), ∃ (cy8 : Nat), ∃ (Cy8 : Chunk), L' = [(3, .slice Ay8 y8.length cy8), (4, .int .i64 y7)] ∧ G = G' ∧ Cy8 :: Γ = Γ' ∧ Ow (kInt .i32) G Ay8 cy8 y8 Cy8) ?_ k ⟨0, t1, h, AR3, cR3, CR3, rfl, rfl, rfl, HR3⟩; clear h; rintro kn10 _ _ _ ⟨y7, y8, h, Ay8, cy8, Cy8, rfl, rfl, rfl, Hy8⟩
  cases kn10 with
  | zero => exact absurd h (by simp [grapevineref1_Norm_l0])
  | succ kn10 =>
   simp only [grapevineref1_Norm_l0] at h; refine WP.seq ?_; refine WP.sP [(3,_), (4,_), (10, .bool (decide (y7 < (y8.length : Int))))] ?_; revert h; refine WP.cD (y7 < (y8.length : Int)) (fun hc11 h => ?_) (fun hc11 h => ?_)
   ·refine WP.sn [3, 4] ?_; refine WP.seq ?_; refine WP.block ?_; refine WP.region ?_; refine WL.p 0 4 [(3,_), (4,_), (13, .slice Ay8 y8.length cy8), (14, .int .i64 y7), (15, .slice Ay8 y8.length cy8), (16, .int .i64 y7)] ?_; obtain ⟨hb12, h⟩ := iP h; refine WL.t rfl (Hy8.ix hb12 sl98) ?_; refine WL.tE rfl (Hy8.load (i := 0) rfl (agg := false) hb12.1 hb12.2 0 ag21 (fun _ => rfl) (by kernel_rfl)) ?_; rintro _ rfl; obtain ⟨t13, ht14, h⟩ := bS h; refine WL.k rfl (Does.k fun _ => unicode_ToLower_calls HT (y8.getD y7.toNat 0) t13 ht14) ?_; obtain ⟨hb17, h⟩ := iP h; refine WL.t rfl (Hy8.ix hb17 sl98) ?_; refine WL.o rfl (Ow.store Hy8 (i := 0) rfl hb17.1 hb17.2 (z := t13) (v := .int .i32 t13) (by kernel_rfl) (by kernel_rfl) sz21 (by exact rfl)) ?_; rintro _ _ _ ⟨rfl, rfl, C18, Ho19, rfl⟩; refine WL.reput 3 (v := .slice Ay8 y8.length cy8) (v' := .slice Ay8 (y8.set y7.toNat t13).length cy8) (by kernel_rfl) (by simp only [List.length_set]) ?_; refine WL.r 9 [(3,_), (4,_)] ?_; refine QP.blockN ?_; refine QP.next ?_; refine WP.pick [3, 4] ?_; refine WP.rP [(3,_), (4, .int .i64 (IntKind.i64.wrap (y7 + 1)))] ?_; refine QP.pick [3, 4] ?_; exact QP.meet ⟨kn10, Nat.lt_succ_self _, (IntKind.i64.wrap (y7 + 1)), (y8.set y7.toNat t13), h, Ay8, cy8, C18, rfl, rfl, rfl, Ho19⟩
   ·refine WP.exit ?_; refine QP.thenE ?_; refine QP.thenE ?_; refine QP.blockE ?_; refine QP.pick [3] ?_; exact QP.meet ⟨_, Option.some.inj h, Ay8, cy8, Cy8, rfl, rfl, rfl, Hy8⟩
 ·rintro _ _ _ ⟨s5, rfl, As5, cs5, Cs5, rfl, rfl, rfl, Hs5⟩; clear h; replace h := hk6; refine QP.next ?_; refine WP.pick [3] ?_; refine WP.seqR ?_; refine WL.p 0 1 [(21, .slice As5 s5.length cs5)] ?_; refine WL.t rfl (Hs5.runesStr (i := 0) rfl (by kernel_rfl) ru98 st9) ?_; refine WL.rQ 2 [(2, .string (runesBytes s5))] ?_; refine WP.dropAt 0 ?_; refine WP.ret ?_; obtain rfl := sI h; exact QP.rb [2] [.string (runesBytes s5)]
def grapevineref14_word (k : Nat) (a0 : ByteArray) : Option Bool := ((if (a0.size : Int) ≤ 40 then ((grapevineref1_One k a0).bind fun t4 => (if t4 = true then ((grapevineref1_Norm k a0).bind fun t9 => some (t9.toList == a0.toList)) else some false)) else some false).bind fun s1 => some s1)
theorem grapevineref14_word_calls (HT : Tabs B G) (k : Nat) (a0 : ByteArray) (r : Bool) (h : grapevineref14_word k a0 = some r) (hI : Inv B G (Γ) W) :
  Calls Tryz.prog 100 [.string a0].toArray W (Ret B (fun v G' Γ' => v = .bool r ∧ G = G' ∧ Γ = Γ')) := by
 refine calls_WP (Γ := Γ) (G := G) (B := B) Tryz.func100 rfl (by kernel_rfl) ?_ hI; clear hI; unfold grapevineref14_word at h; refine WP.sP [(0,_)] ?_; revert h; refine WP.u (fun s1 : Bool => [(2, .bool s1)]) G (Γ) (fun os1 h => ?_) (fun s1 h => ?_)
 ·refine WP.region ?_; refine WL.p 0 4 [(0,_), (6, .bool (decide ((a0.size : Int) ≤ 40)))] ?_; revert h; refine WL.cD 6 ((a0.size : Int) ≤ 40) (fun hc3 h => ?_) (fun hc3 h => ?_)
  ·refine WL.p 4 5 [(0,_), (6,_), (7, .string a0)] ?_; obtain ⟨t4, ht5, h⟩ := bS h; refine WL.k rfl (Does.k fun _ => grapevineref1_One_calls HT k a0 t4 ht5) ?_; refine WL.p 6 8 [(0,_), (10, .bool t4)] ?_; revert h; refine WL.cB 10 t4 (fun hc8 h => ?_) (fun hc8 h => ?_)
   ·refine WL.p 8 9 [(0,_), (10,_), (11, .string a0)] ?_; obtain ⟨t9, ht10, h⟩ := bS h; refine WL.k rfl (Does.k fun _ => grapevineref1_Norm_calls HT k a0 t9 ht10) ?_; refine WL.r 10 [(2, .bool (t9.toList == a0.toList))] ?_; exact QP.mp
   ·refine WL.r 8 [(2, .bool false)] ?_; exact QP.mp
  ·refine WL.r 4 [(2, .bool false)] ?_; exact QP.mp
 ·refine WP.ret ?_; obtain rfl := sI h; exact QP.rb [2] [.bool s1]
def grapevineref14_words_l0 (l0 : List ByteArray) : Nat → Int → Option (Sum Bool Unit)
 | 0, _ => none
 | k + 1, y3 => (if y3 < (l0.length : Int) then (if 0 ≤ y3 ∧ y3 < (l0.length : Int) then ((grapevineref14_word k (l0.getD y3.toNat (⟨#[]⟩ : ByteArray))).bind fun t8 => (if (!t8) = true then some (Sum.inl false) else grapevineref14_words_l0 l0 k (IntKind.i64.wrap (y3 + 1)))) else none) else some (Sum.inr ()))
def grapevineref14_words (k : Nat) (l0 : List ByteArray) (a1 : Int) (a2 : Int) : Option Bool := ((grapevineref14_words_l0 l0 k 0).bind fun os1 => match os1 with | Sum.inl r => some r | Sum.inr s1 => ((if (l0.length : Int) ≥ a1 then some (decide ((l0.length : Int) ≤ a2)) else some false).bind fun s13 => some s13))
theorem grapevineref14_words_calls (HT : Tabs B G) (k : Nat) (l0 : List ByteArray) (a1 : Int) (a2 : Int) (Al0 : Option Addr) (cl0 : Nat) (Hl0 : Rd kStr G Al0 cl0 l0) (r : Bool) (h : grapevineref14_words k l0 a1 a2 = some r) (hI : Inv B G (Γ) W) :
  Calls Tryz.prog 76 [.slice Al0 l0.length cl0, .int .i64 a1, .int .i64 a2].toArray W (Ret B (fun v G' Γ' => v = .bool r ∧ G = G' ∧ Γ = Γ')) := by
 refine calls_WP (Γ := Γ) (G := G) (B := B) Tryz.func76 rfl (by kernel_rfl) ?_ hI; clear hI; unfold grapevineref14_words at h; refine WP.sP [(0,_), (1,_), (2,_)] ?_; refine WP.seq ?_; refine WP.sP [(0,_), (1,_), (2,_), (7, .int .i64 0)] ?_; obtain ⟨os1, h, hk2⟩ := bS h; refine WP.cutQ (fun L' G' Γ' => ∃ s1 : Unit, Sum.inr s1 = os1 ∧ L' = [(0, .slice Al0 l0.length cl0), (1, .int .i64 a1), (2, .int .i64 a2)] ∧ G = G' ∧ Γ = Γ') ?_ ?_
 ·skip
  refine WP.block ?_; refine WP.pick [0, 1, 2, 7] ?_; refine WP.loopF (fun kn4 L' G' Γ' => ∃ (y3 : Int), grapevineref14_words_l0 l0 kn4 y3 = some os1 ∧ L' = [(0, .slice Al0 l0.length cl0), (1, .int .i64 a1), (2, .int .i64 a2), (7, .int .i64 y3)] ∧ G = G' ∧ Γ = Γ') ?_ k ⟨0, h, rfl, rfl, rfl⟩; clear h; rintro kn5 _ _ _ ⟨y3, h, rfl, rfl, rfl⟩
  cases kn5 with
  | zero => exact absurd h (by simp [grapevineref14_words_l0])
  | succ kn5 =>
   simp only [grapevineref14_words_l0] at h; refine WP.seq ?_; refine WP.sP [(0,_), (1,_), (2,_), (7,_), (11, .bool (decide (y3 < (l0.length : Int))))] ?_; revert h; refine WP.cD (y3 < (l0.length : Int)) (fun hc6 h => ?_) (fun hc6 h => ?_)
   ·refine WP.sn [0, 1, 2, 7] ?_; refine WP.seq ?_; refine WP.block ?_; refine WP.seqR ?_; refine WL.p 0 2 [(0,_), (1,_), (2,_), (7,_), (14, .slice Al0 l0.length cl0), (15, .int .i64 y3)] ?_; obtain ⟨hb7, h⟩ := iP h; refine WL.t rfl (Hl0.ix hb7 sl22) ?_; refine WL.tE rfl (Hl0.load (agg := false) hb7.1 hb7.2 (⟨#[]⟩ : ByteArray) ag9 (fun _ => rfl) (by kernel_rfl)) ?_; rintro _ rfl; obtain ⟨t8, ht9, h⟩ := bS h; refine WL.k rfl (Does.k fun _ => grapevineref14_word_calls HT kn5 (l0.getD y3.toNat (⟨#[]⟩ : ByteArray)) t8 ht9) ?_; refine WL.rQ 5 [(0,_), (1,_), (2,_), (7,_), (19, .bool (!t8))] ?_; revert h; refine WP.cB (!t8) (fun hc12 h => ?_) (fun hc12 h => ?_)
    ·refine WP.sP [(6, .bool false)] ?_; refine WP.ret ?_; refine QP.blockR ?_; refine QP.thenR ?_; refine QP.thenR ?_; refine QP.blockR ?_; refine QP.thenR ?_; refine QP.thenR ?_; obtain rfl := sI h; obtain rfl := Option.some.inj (show some _ = some _ from hk2); exact QP.rb [6] [.bool false]
    ·refine WP.skip ?_; refine QP.blockN ?_; refine QP.next ?_; refine WP.pick [0, 1, 2, 7] ?_; refine WP.rP [(0,_), (1,_), (2,_), (7, .int .i64 (IntKind.i64.wrap (y3 + 1)))] ?_; refine QP.pick [0, 1, 2, 7] ?_; exact QP.meet ⟨kn5, Nat.lt_succ_self _, (IntKind.i64.wrap (y3 + 1)), h, rfl, rfl, rfl⟩
   ·refine WP.exit ?_; refine QP.thenE ?_; refine QP.thenE ?_; refine QP.blockE ?_; exact QP.mp
 ·rintro _ _ _ ⟨s1, rfl, rfl, rfl, rfl⟩; clear h; replace h := hk2
  dsimp only at h
  refine QP.next ?_; refine WP.pick [0, 1, 2] ?_; revert h; refine WP.u (fun s13 : Bool => [(6, .bool s13)]) G (Γ) (fun os13 h => ?_) (fun s13 h => ?_)
  ·refine WP.region ?_; refine WL.p 0 5 [(0,_), (2,_), (24, .bool (decide ((l0.length : Int) ≥ a1)))] ?_; revert h; refine WL.cD 24 ((l0.length : Int) ≥ a1) (fun hc15 h => ?_) (fun hc15 h => ?_)
   ·refine WL.r 5 [(6, .bool (decide ((l0.length : Int) ≤ a2)))] ?_; exact QP.mp
   ·refine WL.r 5 [(6, .bool false)] ?_; exact QP.mp
  ·refine WP.ret ?_; obtain rfl := sI h; exact QP.rb [6] [.bool s13]
end Go.Proofs.YtbphlohiealbeaaGreatDoor.Gf
